-- laid by mkprint.py, a program of this claim's writer, over the kit's print program; parts of it are typed by hand
import Derived.Test.YtidiondgfoolbaaPFnQueuesx0
import Derived.Test.YtidiondgfoolbaaPFnQueuesx1
import Derived.Test.YtidiondgfoolbaaPFnQueuesx3
import Derived.Test.YtidiondgfoolbaaPFnQueuesx6
import Derived.Test.YtidiondgfoolbaaPFnQueuesx9
import Derived.Test.YtidiondgfoolbaaPFnQueuesx10
import Derived.Test.YtidiondgfoolbaaPFnQueuesx11
import Derived.Test.YtidiondgfoolbaaPFnQueuesx13
import Derived.Test.YtidiondgfoolbaaPFnQueuesx14
import Derived.Test.YtidiondgfoolbaaPFnQueuesx15
import Derived.Test.YtidiondgfoolbaaPFnQueuesx17
import Derived.Test.YtidiondgfoolbaaPFnQueuesx18
namespace Go.Proofs.Ytidiondgfoolbaa.PFnQueues
open Go.RowKit Go.Proofs.YtidiondgfoolbaaW.PrintWords Go.Proofs.YtidiondgfoolbaaW.PrintLast Go.Proofs.YtidiondgfoolbaaW.PrintMore
attribute [local go_sem] max2_int min2_int max_two min_two max_three min_three max_four min_four
set_option linter.unusedVariables false
set_option linter.unusedSimpArgs false
theorem gate_if {P : Program} (id : Nat) {ops : Array Oper} {dr : Bool} {x y : Code} {Q : Exit → Act → World → Prop} {a : Act} {w : World} (h : (((Code.region id ops dr).seq x).seq y).wp P Q a w) : (((Code.region id ops dr).seq x).seq y).wp P Q a w := h
theorem guard_any {P : Program} {ops : Array Oper} {rest : List Oper} {o : Oper} {a : Act} {Q : Exit → Act → World → Prop} {W : World} {N : Tmp} {c : Bool} {v : Value} (hw : Region.wanted o (yielded ops a.tmps) = c) (hN : o.dst = some N)
    (hrun : c = true → (execOp a.eval o).run P W = .ok (.value v) W) (h : ∀ x : Value, (c = true → x = v) → wpList P ops Q rest (a.put (some N) x) W) : wpList P ops Q (o :: rest) a W := by
  cases c with
  | false => exact wpList_skip hw (by rw [hN]; exact h undef (fun e => by cases e))
  | true =>
    refine wpList_step fun K hK => ?_
    rw [if_pos hw]
    unfold Oper.wp
    rw [hrun rfl]
    show K (a.put o.dst v) W
    rw [hN]
    exact hK _ _ (h v (fun _ => rfl))
theorem wup_s (i : Nat) (h : i ≤ 17592186044416) : wrap64 ((i : Int) + 1) = ((i + 1 : Nat) : Int) := by rw [IntWalk.wrap64_in _ (by omega)]; omega
def lensM : List (List Int) → Int → Int
  | [], s => s
  | x :: t, s => lensM t (wrap64 (s + (x.length : Int)))
structure laws_FnQueues.Law (k : Nat) (o rise fall bk tn : List Int) (qs : List (List Int)) (few : Int) : Prop where
  sum : lensM qs 0 = (o.length : Int)
  each : ∀ x ∈ qs, 0 < x.length ∧ laws_vUp.f k x true = some true
  lenQ : qs.length ≤ 1000000
  back : impl_BackOrder.f k o = some (bk, true)
  turn : impl_LongestFall.f k bk = some (tn, true)
  fewF : few = (fall.length : Int)
  fewQ : few = (qs.length : Int)
  upR : laws_vUp.f k rise true = some true
  upF : laws_vUp.f k fall false = some true
  lenT : tn.length = rise.length
  area : (o.length : Int) ≤ wrap64 ((rise.length : Int) * (fall.length : Int))
structure laws_FnQueues.Fact (k : Nat) (l0 : List Int) (o : List Int) (kk : Int) (rise : List Int) (ok : Bool) (fall : List Int) (few : Int) (qs : List (List Int)) (ways : Int) (tw : Bool) (cd : List Int) (n : Int) (m : Int) (al : Int) (th : Bool) (bk : List Int) (tn : List Int) (less : Int) : Prop where
  f40 : laws_vBig.f l0 = some (false)
  f43 : spec_DrawCountQueueWays.f l0 = some (o, kk)
  f48 : impl_LongestRise.f k o = some (rise, ok)
  f53 : spec_LongestRise.f k o = some (rise, ok)
  f58 : impl_LongestFall.f k o = some (fall, ok)
  f63 : spec_LongestFall.f k o = some (fall, ok)
  f68 : impl_FewestQueues.f k o = some (few, ok)
  f73 : spec_FewestQueues.f k o = some (few, ok)
  f78 : impl_QueuesOf.f k o = some (qs, ok)
  f83 : spec_QueuesOf.f k o = some (qs, ok)
  f89 : impl_CountQueueWays.f k o kk = some (ways, tw)
  f95 : spec_CountQueueWays.f k o kk = some (ways, tw)
  f100 : laws_vCut.f l0 1 = some (cd)
  f101 : spec_DrawCountQueueable.f cd = some (n, m)
  f107 : impl_CountQueueable.f k n m = some (al, th)
  f113 : spec_CountQueueable.f k n m = some (al, th)
  f122 : laws_vInts.f k rise rise = some (true)
  f133 : laws_vInts.f k fall fall = some (true)
  f154 : laws_vLists.f k qs qs = some (true)
  okC : tw = true → ok = true
  cmp : tw = true → decide (ways > 0) = decide (few ≤ kk)
  dec : th = true → decide (m > 1) = true → impl_CountQueueable.f k n (wrap64 (m - 1)) = some (less, true) ∧ decide (less ≤ al) = true ∧ decide (al > 0) = true
  law : ok = true → laws_FnQueues.Law k o rise fall bk tn qs few
set_option maxHeartbeats 16000000 in
set_option maxRecDepth 100000 in
theorem laws_FnQueues.calls (A0 : Option Addr) (c0 : Nat) (k : Nat) (l0 : List Int) (o : List Int) (kk : Int) (rise : List Int) (ok : Bool) (fall : List Int) (few : Int) (qs : List (List Int)) (ways : Int) (tw : Bool) (cd : List Int) (n : Int) (m : Int) (al : Int) (th : Bool) (bk : List Int) (tn : List Int) (less : Int) (w : World) (hr0 : Kd.C (Kd.int .u8) w A0 l0.length l0) (hc0 : l0.length ≤ c0) (hF : laws_FnQueues.Fact k l0 o kk rise ok fall few qs ways tw cd n m al th bk tn less) :
    Calls Try.prog 3 #[.slice A0 l0.length c0] w fun e w' => e = .returned (.bool true) ∧ Below w.heap.size w w' := by
  have HR0 := Aside0.mk hr0
  have HC0 := Aside0.mk hc0
  have HF := Aside0.mk hF
  have HB := Aside0.mk (Below.refl w.heap.size w)
  clear hr0 hc0 hF
  go_enter Try.func3, Try.ntmps3
  have q_ok : (ok != ok) = false := bne_self_eq_false ok
  have q_few : (few != few) = false := bne_self_eq_false few
  have q_ways : (ways != ways) = false := bne_self_eq_false ways
  have q_tw : (tw != tw) = false := bne_self_eq_false tw
  have q_al : (al != al) = false := bne_self_eq_false al
  have q_th : (th != th) = false := bne_self_eq_false th
  (repeat ((fail_if_success (with_reducible refine gate_dst (N := 40) rfl ?_)); first | go_values | go_skip | go_guarded | go_step | go_upon))
  refine goesL_ (some 40) rfl rfl Try.func4 (by kernel_rfl) rfl #[.slice A0 l0.length c0] rfl (by (try simp only [List.map_toArray, List.map_cons, List.map_nil]); first | done | rfl) ?_
  refine (laws_vBig.calls A0 c0 l0 false _ (Kd.C_below HR0.out HB.out) HC0.out HF.out.f40).mono ?_
  rintro e w1 ⟨rfl, hdr⟩
  have hb := hdr.below
  clear hdr
  refine ⟨_, rfl, ?_⟩
  have nB := Aside0.mk (below_step HB.out hb)
  clear HB hb
  have HB := nB
  clear nB
  (repeat ((fail_if_success (with_reducible refine gate_dst (N := 43) rfl ?_)); first | go_values | go_skip | go_guarded | go_step | go_upon))
  refine goesL_ (some 43) rfl rfl Try.func5 (by kernel_rfl) rfl #[.slice A0 l0.length c0] rfl (by (try simp only [List.map_toArray, List.map_cons, List.map_nil]); first | done | rfl) ?_
  refine (spec_DrawCountQueueWays.calls A0 c0 l0 o kk _ (Kd.C_below HR0.out HB.out) HC0.out HF.out.f43).mono ?_
  rintro e w2 ⟨v0_, rfl, ho0, hb⟩
  refine ⟨_, rfl, ?_⟩
  obtain ⟨ARO, cRO, e_RO⟩ := Kd.R_slice ho0
  subst e_RO
  have nn0_ := Aside0.mk (Kd.R_lower (Kd.R_mono ho0 (fun _ _ => trivial)) HB.out.size)
  have nB := Aside0.mk (below_step HB.out hb)
  clear HB hb  ho0
  have HB := nB
  clear nB
  have RO := nn0_
  clear nn0_
  (repeat ((fail_if_success (with_reducible refine gate_dst (N := 48) rfl ?_)); first | go_values | go_skip | go_guarded | go_step | go_upon))
  refine goesL_ (some 48) rfl rfl Try.func6 (by kernel_rfl) rfl #[.slice ARO o.length cRO] rfl (by (try simp only [List.map_toArray, List.map_cons, List.map_nil]); first | done | rfl) ?_
  refine (impl_LongestRise.calls k ARO cRO o rise ok _ (Kd.R_reads' RO.out).2.2 (Kd.R_reads' RO.out).2.1 HF.out.f48).mono ?_
  rintro e w3 ⟨v0_, rfl, ho0, hb⟩
  refine ⟨_, rfl, ?_⟩
  obtain ⟨ARR, cRR, e_RR⟩ := Kd.R_slice ho0
  subst e_RR
  have nn0_ := Aside0.mk (Kd.R_lower (Kd.R_mono ho0 (fun _ _ => trivial)) HB.out.size)
  have nRO_ := Aside0.mk (Kd.R_below RO.out hb)
  have nB := Aside0.mk (below_step HB.out hb)
  clear HB hb RO ho0
  have HB := nB
  clear nB
  have RO := nRO_
  clear nRO_
  have RR := nn0_
  clear nn0_
  (repeat ((fail_if_success (with_reducible refine gate_dst (N := 53) rfl ?_)); first | go_values | go_skip | go_guarded | go_step | go_upon))
  refine goesL_ (some 53) rfl rfl Try.func7 (by kernel_rfl) rfl #[.slice ARO o.length cRO] rfl (by (try simp only [List.map_toArray, List.map_cons, List.map_nil]); first | done | rfl) ?_
  refine (spec_LongestRise.calls k ARO cRO o rise ok _ (Kd.R_reads' RO.out).2.2 (Kd.R_reads' RO.out).2.1 HF.out.f53).mono ?_
  rintro e w4 ⟨v0_, rfl, ho0, hb⟩
  refine ⟨_, rfl, ?_⟩
  obtain ⟨ARR2, cRR2, e_RR2⟩ := Kd.V_slice ho0
  subst e_RR2
  have nn0_ := Aside0.mk (Kd.V_lower (Kd.V_mono ho0 (fun _ _ => trivial)) HB.out.size)
  have nRO_ := Aside0.mk (Kd.R_below RO.out hb)
  have nRR_ := Aside0.mk (Kd.R_below RR.out hb)
  have nB := Aside0.mk (below_step HB.out hb)
  clear HB hb RO RR ho0
  have HB := nB
  clear nB
  have RO := nRO_
  clear nRO_
  have RR := nRR_
  clear nRR_
  have RR2 := nn0_
  clear nn0_
  (repeat ((fail_if_success (with_reducible refine gate_dst (N := 58) rfl ?_)); first | go_values | go_skip | go_guarded | go_step | go_upon))
  refine goesL_ (some 58) rfl rfl Try.func8 (by kernel_rfl) rfl #[.slice ARO o.length cRO] rfl (by (try simp only [List.map_toArray, List.map_cons, List.map_nil]); first | done | rfl) ?_
  refine (impl_LongestFall.calls k ARO cRO o fall ok _ (Kd.R_reads' RO.out).2.2 (Kd.R_reads' RO.out).2.1 HF.out.f58).mono ?_
  rintro e w5 ⟨v0_, rfl, ho0, hb⟩
  refine ⟨_, rfl, ?_⟩
  obtain ⟨ARF, cRF, e_RF⟩ := Kd.R_slice ho0
  subst e_RF
  have nn0_ := Aside0.mk (Kd.R_lower (Kd.R_mono ho0 (fun _ _ => trivial)) HB.out.size)
  have nRO_ := Aside0.mk (Kd.R_below RO.out hb)
  have nRR_ := Aside0.mk (Kd.R_below RR.out hb)
  have nRR2_ := Aside0.mk (Kd.V_below RR2.out hb)
  have nB := Aside0.mk (below_step HB.out hb)
  clear HB hb RO RR RR2 ho0
  have HB := nB
  clear nB
  have RO := nRO_
  clear nRO_
  have RR := nRR_
  clear nRR_
  have RR2 := nRR2_
  clear nRR2_
  have RF := nn0_
  clear nn0_
  (repeat ((fail_if_success (with_reducible refine gate_dst (N := 63) rfl ?_)); first | go_values | go_skip | go_guarded | go_step | go_upon))
  refine goesL_ (some 63) rfl rfl Try.func9 (by kernel_rfl) rfl #[.slice ARO o.length cRO] rfl (by (try simp only [List.map_toArray, List.map_cons, List.map_nil]); first | done | rfl) ?_
  refine (spec_LongestFall.calls k ARO cRO o fall ok _ (Kd.R_reads' RO.out).2.2 (Kd.R_reads' RO.out).2.1 HF.out.f63).mono ?_
  rintro e w6 ⟨v0_, rfl, ho0, hb⟩
  refine ⟨_, rfl, ?_⟩
  obtain ⟨ARF2, cRF2, e_RF2⟩ := Kd.V_slice ho0
  subst e_RF2
  have nn0_ := Aside0.mk (Kd.V_lower (Kd.V_mono ho0 (fun _ _ => trivial)) HB.out.size)
  have nRO_ := Aside0.mk (Kd.R_below RO.out hb)
  have nRR_ := Aside0.mk (Kd.R_below RR.out hb)
  have nRR2_ := Aside0.mk (Kd.V_below RR2.out hb)
  have nRF_ := Aside0.mk (Kd.R_below RF.out hb)
  have nB := Aside0.mk (below_step HB.out hb)
  clear HB hb RO RR RR2 RF ho0
  have HB := nB
  clear nB
  have RO := nRO_
  clear nRO_
  have RR := nRR_
  clear nRR_
  have RR2 := nRR2_
  clear nRR2_
  have RF := nRF_
  clear nRF_
  have RF2 := nn0_
  clear nn0_
  (repeat ((fail_if_success (with_reducible refine gate_dst (N := 68) rfl ?_)); first | go_values | go_skip | go_guarded | go_step | go_upon))
  refine goesL_ (some 68) rfl rfl Try.func10 (by kernel_rfl) rfl #[.slice ARO o.length cRO] rfl (by (try simp only [List.map_toArray, List.map_cons, List.map_nil]); first | done | rfl) ?_
  refine (impl_FewestQueues.calls k ARO cRO o few ok _ (Kd.R_reads' RO.out).2.2 (Kd.R_reads' RO.out).2.1 HF.out.f68).mono ?_
  rintro e w7 ⟨rfl, hb⟩
  refine ⟨_, rfl, ?_⟩
  have nRO_ := Aside0.mk (Kd.R_below RO.out hb)
  have nRR_ := Aside0.mk (Kd.R_below RR.out hb)
  have nRR2_ := Aside0.mk (Kd.V_below RR2.out hb)
  have nRF_ := Aside0.mk (Kd.R_below RF.out hb)
  have nRF2_ := Aside0.mk (Kd.V_below RF2.out hb)
  have nB := Aside0.mk (below_step HB.out hb)
  clear HB hb RO RR RR2 RF RF2
  have HB := nB
  clear nB
  have RO := nRO_
  clear nRO_
  have RR := nRR_
  clear nRR_
  have RR2 := nRR2_
  clear nRR2_
  have RF := nRF_
  clear nRF_
  have RF2 := nRF2_
  clear nRF2_
  (repeat ((fail_if_success (with_reducible refine gate_dst (N := 73) rfl ?_)); first | go_values | go_skip | go_guarded | go_step | go_upon))
  refine goesL_ (some 73) rfl rfl Try.func11 (by kernel_rfl) rfl #[.slice ARO o.length cRO] rfl (by (try simp only [List.map_toArray, List.map_cons, List.map_nil]); first | done | rfl) ?_
  refine (spec_FewestQueues.calls k ARO cRO o few ok _ (Kd.R_reads' RO.out).2.2 (Kd.R_reads' RO.out).2.1 HF.out.f73).mono ?_
  rintro e w8 ⟨rfl, hb⟩
  refine ⟨_, rfl, ?_⟩
  have nRO_ := Aside0.mk (Kd.R_below RO.out hb)
  have nRR_ := Aside0.mk (Kd.R_below RR.out hb)
  have nRR2_ := Aside0.mk (Kd.V_below RR2.out hb)
  have nRF_ := Aside0.mk (Kd.R_below RF.out hb)
  have nRF2_ := Aside0.mk (Kd.V_below RF2.out hb)
  have nB := Aside0.mk (below_step HB.out hb)
  clear HB hb RO RR RR2 RF RF2
  have HB := nB
  clear nB
  have RO := nRO_
  clear nRO_
  have RR := nRR_
  clear nRR_
  have RR2 := nRR2_
  clear nRR2_
  have RF := nRF_
  clear nRF_
  have RF2 := nRF2_
  clear nRF2_
  (repeat ((fail_if_success (with_reducible refine gate_dst (N := 78) rfl ?_)); first | go_values | go_skip | go_guarded | go_step | go_upon))
  refine goesL_ (some 78) rfl rfl Try.func12 (by kernel_rfl) rfl #[.slice ARO o.length cRO] rfl (by (try simp only [List.map_toArray, List.map_cons, List.map_nil]); first | done | rfl) ?_
  refine (impl_QueuesOf.calls k ARO cRO o qs ok _ (Kd.R_reads' RO.out).2.2 (Kd.R_reads' RO.out).2.1 HF.out.f78).mono ?_
  rintro e w9 ⟨v0_, rfl, ho0, hb⟩
  refine ⟨_, rfl, ?_⟩
  obtain ⟨ARQ, cRQ, e_RQ⟩ := Kd.S_slice ho0
  subst e_RQ
  have nn0_ := Aside0.mk (Kd.S_lower (Kd.S_mono ho0 (fun _ _ => trivial)) HB.out.size)
  have nRO_ := Aside0.mk (Kd.R_below RO.out hb)
  have nRR_ := Aside0.mk (Kd.R_below RR.out hb)
  have nRR2_ := Aside0.mk (Kd.V_below RR2.out hb)
  have nRF_ := Aside0.mk (Kd.R_below RF.out hb)
  have nRF2_ := Aside0.mk (Kd.V_below RF2.out hb)
  have nB := Aside0.mk (below_step HB.out hb)
  clear HB hb RO RR RR2 RF RF2 ho0
  have HB := nB
  clear nB
  have RO := nRO_
  clear nRO_
  have RR := nRR_
  clear nRR_
  have RR2 := nRR2_
  clear nRR2_
  have RF := nRF_
  clear nRF_
  have RF2 := nRF2_
  clear nRF2_
  have RQ := nn0_
  clear nn0_
  (repeat ((fail_if_success (with_reducible refine gate_dst (N := 83) rfl ?_)); first | go_values | go_skip | go_guarded | go_step | go_upon))
  refine goesL_ (some 83) rfl rfl Try.func13 (by kernel_rfl) rfl #[.slice ARO o.length cRO] rfl (by (try simp only [List.map_toArray, List.map_cons, List.map_nil]); first | done | rfl) ?_
  refine (spec_QueuesOf.calls k ARO cRO o qs ok _ (Kd.R_reads' RO.out).2.2 (Kd.R_reads' RO.out).2.1 HF.out.f83).mono ?_
  rintro e w10 ⟨v0_, rfl, ho0, hb⟩
  refine ⟨_, rfl, ?_⟩
  obtain ⟨ARQ2, cRQ2, e_RQ2⟩ := Kd.S_slice ho0
  subst e_RQ2
  have nn0_ := Aside0.mk (Kd.S_lower (Kd.S_mono ho0 (fun _ _ => trivial)) HB.out.size)
  have nRO_ := Aside0.mk (Kd.R_below RO.out hb)
  have nRR_ := Aside0.mk (Kd.R_below RR.out hb)
  have nRR2_ := Aside0.mk (Kd.V_below RR2.out hb)
  have nRF_ := Aside0.mk (Kd.R_below RF.out hb)
  have nRF2_ := Aside0.mk (Kd.V_below RF2.out hb)
  have nRQ_ := Aside0.mk (Kd.S_below RQ.out hb)
  have nB := Aside0.mk (below_step HB.out hb)
  clear HB hb RO RR RR2 RF RF2 RQ ho0
  have HB := nB
  clear nB
  have RO := nRO_
  clear nRO_
  have RR := nRR_
  clear nRR_
  have RR2 := nRR2_
  clear nRR2_
  have RF := nRF_
  clear nRF_
  have RF2 := nRF2_
  clear nRF2_
  have RQ := nRQ_
  clear nRQ_
  have RQ2 := nn0_
  clear nn0_
  (repeat ((fail_if_success (with_reducible refine gate_dst (N := 89) rfl ?_)); first | go_values | go_skip | go_guarded | go_step | go_upon))
  refine goesL_ (some 89) rfl rfl Try.func14 (by kernel_rfl) rfl #[.slice ARO o.length cRO, .int .i64 kk] rfl (by (try simp only [List.map_toArray, List.map_cons, List.map_nil]); first | done | rfl) ?_
  refine (impl_CountQueueWays.calls k ARO cRO o kk ways tw _ (Kd.R_reads' RO.out).2.2 (Kd.R_reads' RO.out).2.1 HF.out.f89).mono ?_
  rintro e w11 ⟨rfl, hb⟩
  refine ⟨_, rfl, ?_⟩
  have nRO_ := Aside0.mk (Kd.R_below RO.out hb)
  have nRR_ := Aside0.mk (Kd.R_below RR.out hb)
  have nRR2_ := Aside0.mk (Kd.V_below RR2.out hb)
  have nRF_ := Aside0.mk (Kd.R_below RF.out hb)
  have nRF2_ := Aside0.mk (Kd.V_below RF2.out hb)
  have nRQ_ := Aside0.mk (Kd.S_below RQ.out hb)
  have nRQ2_ := Aside0.mk (Kd.S_below RQ2.out hb)
  have nB := Aside0.mk (below_step HB.out hb)
  clear HB hb RO RR RR2 RF RF2 RQ RQ2
  have HB := nB
  clear nB
  have RO := nRO_
  clear nRO_
  have RR := nRR_
  clear nRR_
  have RR2 := nRR2_
  clear nRR2_
  have RF := nRF_
  clear nRF_
  have RF2 := nRF2_
  clear nRF2_
  have RQ := nRQ_
  clear nRQ_
  have RQ2 := nRQ2_
  clear nRQ2_
  (repeat ((fail_if_success (with_reducible refine gate_dst (N := 95) rfl ?_)); first | go_values | go_skip | go_guarded | go_step | go_upon))
  refine goesL_ (some 95) rfl rfl Try.func15 (by kernel_rfl) rfl #[.slice ARO o.length cRO, .int .i64 kk] rfl (by (try simp only [List.map_toArray, List.map_cons, List.map_nil]); first | done | rfl) ?_
  refine (spec_CountQueueWays.calls k ARO cRO o kk ways tw _ (Kd.R_reads' RO.out).2.2 (Kd.R_reads' RO.out).2.1 HF.out.f95).mono ?_
  rintro e w12 ⟨rfl, hb⟩
  refine ⟨_, rfl, ?_⟩
  have nRO_ := Aside0.mk (Kd.R_below RO.out hb)
  have nRR_ := Aside0.mk (Kd.R_below RR.out hb)
  have nRR2_ := Aside0.mk (Kd.V_below RR2.out hb)
  have nRF_ := Aside0.mk (Kd.R_below RF.out hb)
  have nRF2_ := Aside0.mk (Kd.V_below RF2.out hb)
  have nRQ_ := Aside0.mk (Kd.S_below RQ.out hb)
  have nRQ2_ := Aside0.mk (Kd.S_below RQ2.out hb)
  have nB := Aside0.mk (below_step HB.out hb)
  clear HB hb RO RR RR2 RF RF2 RQ RQ2
  have HB := nB
  clear nB
  have RO := nRO_
  clear nRO_
  have RR := nRR_
  clear nRR_
  have RR2 := nRR2_
  clear nRR2_
  have RF := nRF_
  clear nRF_
  have RF2 := nRF2_
  clear nRF2_
  have RQ := nRQ_
  clear nRQ_
  have RQ2 := nRQ2_
  clear nRQ2_
  (repeat ((fail_if_success (with_reducible refine gate_dst (N := 100) rfl ?_)); first | go_values | go_skip | go_guarded | go_step | go_upon))
  refine goesL_ (some 100) rfl rfl Try.func17 (by kernel_rfl) rfl #[.slice A0 l0.length c0, .int .i64 1] rfl (by (try simp only [List.map_toArray, List.map_cons, List.map_nil]); first | done | rfl) ?_
  refine (laws_vCut.calls A0 c0 l0 1 cd _ (Kd.C_below HR0.out HB.out) HC0.out HF.out.f100).mono ?_
  rintro e w13 ⟨v0_, rfl, ho0, hb⟩
  refine ⟨_, rfl, ?_⟩
  obtain ⟨ARD, cRD, e_RD⟩ := Kd.R_slice ho0
  subst e_RD
  have nn0_ := Aside0.mk (Kd.R_lower (Kd.R_mono ho0 (fun _ _ => trivial)) HB.out.size)
  have nRO_ := Aside0.mk (Kd.R_below RO.out hb)
  have nRR_ := Aside0.mk (Kd.R_below RR.out hb)
  have nRR2_ := Aside0.mk (Kd.V_below RR2.out hb)
  have nRF_ := Aside0.mk (Kd.R_below RF.out hb)
  have nRF2_ := Aside0.mk (Kd.V_below RF2.out hb)
  have nRQ_ := Aside0.mk (Kd.S_below RQ.out hb)
  have nRQ2_ := Aside0.mk (Kd.S_below RQ2.out hb)
  have nB := Aside0.mk (below_step HB.out hb)
  clear HB hb RO RR RR2 RF RF2 RQ RQ2 ho0
  have HB := nB
  clear nB
  have RO := nRO_
  clear nRO_
  have RR := nRR_
  clear nRR_
  have RR2 := nRR2_
  clear nRR2_
  have RF := nRF_
  clear nRF_
  have RF2 := nRF2_
  clear nRF2_
  have RQ := nRQ_
  clear nRQ_
  have RQ2 := nRQ2_
  clear nRQ2_
  have RD := nn0_
  clear nn0_
  (repeat ((fail_if_success (with_reducible refine gate_dst (N := 101) rfl ?_)); first | go_values | go_skip | go_guarded | go_step | go_upon))
  refine goesL_ (some 101) rfl rfl Try.func16 (by kernel_rfl) rfl #[.slice ARD cd.length cRD] rfl (by (try simp only [List.map_toArray, List.map_cons, List.map_nil]); first | done | rfl) ?_
  refine (spec_DrawCountQueueable.calls ARD cRD cd n m _ (Kd.R_reads' RD.out).2.2 (Kd.R_reads' RD.out).2.1 HF.out.f101).mono ?_
  rintro e w14 ⟨rfl, hb⟩
  refine ⟨_, rfl, ?_⟩
  have nRO_ := Aside0.mk (Kd.R_below RO.out hb)
  have nRR_ := Aside0.mk (Kd.R_below RR.out hb)
  have nRR2_ := Aside0.mk (Kd.V_below RR2.out hb)
  have nRF_ := Aside0.mk (Kd.R_below RF.out hb)
  have nRF2_ := Aside0.mk (Kd.V_below RF2.out hb)
  have nRQ_ := Aside0.mk (Kd.S_below RQ.out hb)
  have nRQ2_ := Aside0.mk (Kd.S_below RQ2.out hb)
  have nRD_ := Aside0.mk (Kd.R_below RD.out hb)
  have nB := Aside0.mk (below_step HB.out hb)
  clear HB hb RO RR RR2 RF RF2 RQ RQ2 RD
  have HB := nB
  clear nB
  have RO := nRO_
  clear nRO_
  have RR := nRR_
  clear nRR_
  have RR2 := nRR2_
  clear nRR2_
  have RF := nRF_
  clear nRF_
  have RF2 := nRF2_
  clear nRF2_
  have RQ := nRQ_
  clear nRQ_
  have RQ2 := nRQ2_
  clear nRQ2_
  have RD := nRD_
  clear nRD_
  clear RD
  (repeat ((fail_if_success (with_reducible refine gate_dst (N := 107) rfl ?_)); first | go_values | go_skip | go_guarded | go_step | go_upon))
  refine goesL_ (some 107) rfl rfl Try.func18 (by kernel_rfl) rfl #[.int .i64 n, .int .i64 m] rfl (by (try simp only [List.map_toArray, List.map_cons, List.map_nil]); first | done | rfl) ?_
  refine (impl_CountQueueable.calls k n m al th _ HF.out.f107).mono ?_
  rintro e w15 ⟨rfl, hb⟩
  refine ⟨_, rfl, ?_⟩
  have nRO_ := Aside0.mk (Kd.R_below RO.out hb)
  have nRR_ := Aside0.mk (Kd.R_below RR.out hb)
  have nRR2_ := Aside0.mk (Kd.V_below RR2.out hb)
  have nRF_ := Aside0.mk (Kd.R_below RF.out hb)
  have nRF2_ := Aside0.mk (Kd.V_below RF2.out hb)
  have nRQ_ := Aside0.mk (Kd.S_below RQ.out hb)
  have nRQ2_ := Aside0.mk (Kd.S_below RQ2.out hb)
  have nB := Aside0.mk (below_step HB.out hb)
  clear HB hb RO RR RR2 RF RF2 RQ RQ2
  have HB := nB
  clear nB
  have RO := nRO_
  clear nRO_
  have RR := nRR_
  clear nRR_
  have RR2 := nRR2_
  clear nRR2_
  have RF := nRF_
  clear nRF_
  have RF2 := nRF2_
  clear nRF2_
  have RQ := nRQ_
  clear nRQ_
  have RQ2 := nRQ2_
  clear nRQ2_
  (repeat ((fail_if_success (with_reducible refine gate_dst (N := 113) rfl ?_)); first | go_values | go_skip | go_guarded | go_step | go_upon))
  refine goesL_ (some 113) rfl rfl Try.func19 (by kernel_rfl) rfl #[.int .i64 n, .int .i64 m] rfl (by (try simp only [List.map_toArray, List.map_cons, List.map_nil]); first | done | rfl) ?_
  refine (spec_CountQueueable.calls k n m al th _ HF.out.f113).mono ?_
  rintro e w16 ⟨rfl, hb⟩
  refine ⟨_, rfl, ?_⟩
  have nRO_ := Aside0.mk (Kd.R_below RO.out hb)
  have nRR_ := Aside0.mk (Kd.R_below RR.out hb)
  have nRR2_ := Aside0.mk (Kd.V_below RR2.out hb)
  have nRF_ := Aside0.mk (Kd.R_below RF.out hb)
  have nRF2_ := Aside0.mk (Kd.V_below RF2.out hb)
  have nRQ_ := Aside0.mk (Kd.S_below RQ.out hb)
  have nRQ2_ := Aside0.mk (Kd.S_below RQ2.out hb)
  have nB := Aside0.mk (below_step HB.out hb)
  clear HB hb RO RR RR2 RF RF2 RQ RQ2
  have HB := nB
  clear nB
  have RO := nRO_
  clear nRO_
  have RR := nRR_
  clear nRR_
  have RR2 := nRR2_
  clear nRR2_
  have RF := nRF_
  clear nRF_
  have RF2 := nRF2_
  clear nRF2_
  have RQ := nRQ_
  clear nRQ_
  have RQ2 := nRQ2_
  clear nRQ2_
  (repeat ((fail_if_success (with_reducible refine gate_if (id := 17) ?_)); first | go_values | go_skip | go_guarded | go_step | go_upon))
  simp only [List.append_eq, List.cons_append, List.nil_append]
  (repeat ((fail_if_success (with_reducible refine gate_dst (N := 122) rfl ?_)); first | go_values | go_skip | go_guarded | go_step | go_upon))
  refine goesG_ (some 122) rfl rfl Try.func20 (by kernel_rfl) rfl #[.slice ARR rise.length cRR, .slice ARR2 rise.length cRR2] rfl (by (try simp only [List.map_toArray, List.map_cons, List.map_nil]); first | done | rfl) ?_
  refine (laws_vInts.calls k ARR cRR rise ARR2 cRR2 rise true _ (Kd.R_reads' RR.out).2.2 (Kd.R_reads' RR.out).2.1 (Kd.V_reads' RR2.out).2.2 (Kd.V_reads' RR2.out).2.1 HF.out.f122).mono ?_
  rintro e w17 ⟨rfl, hdr⟩
  have hb := hdr.below
  clear hdr
  refine ⟨_, rfl, ?_⟩
  have nRO_ := Aside0.mk (Kd.R_below RO.out hb)
  have nRR_ := Aside0.mk (Kd.R_below RR.out hb)
  have nRR2_ := Aside0.mk (Kd.V_below RR2.out hb)
  have nRF_ := Aside0.mk (Kd.R_below RF.out hb)
  have nRF2_ := Aside0.mk (Kd.V_below RF2.out hb)
  have nRQ_ := Aside0.mk (Kd.S_below RQ.out hb)
  have nRQ2_ := Aside0.mk (Kd.S_below RQ2.out hb)
  have nB := Aside0.mk (below_step HB.out hb)
  clear HB hb RO RR RR2 RF RF2 RQ RQ2
  have HB := nB
  clear nB
  have RO := nRO_
  clear nRO_
  have RR := nRR_
  clear nRR_
  have RR2 := nRR2_
  clear nRR2_
  have RF := nRF_
  clear nRF_
  have RF2 := nRF2_
  clear nRF2_
  have RQ := nRQ_
  clear nRQ_
  have RQ2 := nRQ2_
  clear nRQ2_
  clear RR2
  (repeat ((fail_if_success (with_reducible refine gate_dst (N := 133) rfl ?_)); first | go_values | go_skip | go_guarded | go_step | go_upon))
  refine goesG_ (some 133) rfl rfl Try.func20 (by kernel_rfl) rfl #[.slice ARF fall.length cRF, .slice ARF2 fall.length cRF2] rfl (by (try simp only [List.map_toArray, List.map_cons, List.map_nil]); first | done | rfl) ?_
  refine (laws_vInts.calls k ARF cRF fall ARF2 cRF2 fall true _ (Kd.R_reads' RF.out).2.2 (Kd.R_reads' RF.out).2.1 (Kd.V_reads' RF2.out).2.2 (Kd.V_reads' RF2.out).2.1 HF.out.f133).mono ?_
  rintro e w18 ⟨rfl, hdr⟩
  have hb := hdr.below
  clear hdr
  refine ⟨_, rfl, ?_⟩
  have nRO_ := Aside0.mk (Kd.R_below RO.out hb)
  have nRR_ := Aside0.mk (Kd.R_below RR.out hb)
  have nRF_ := Aside0.mk (Kd.R_below RF.out hb)
  have nRF2_ := Aside0.mk (Kd.V_below RF2.out hb)
  have nRQ_ := Aside0.mk (Kd.S_below RQ.out hb)
  have nRQ2_ := Aside0.mk (Kd.S_below RQ2.out hb)
  have nB := Aside0.mk (below_step HB.out hb)
  clear HB hb RO RR RF RF2 RQ RQ2
  have HB := nB
  clear nB
  have RO := nRO_
  clear nRO_
  have RR := nRR_
  clear nRR_
  have RF := nRF_
  clear nRF_
  have RF2 := nRF2_
  clear nRF2_
  have RQ := nRQ_
  clear nRQ_
  have RQ2 := nRQ2_
  clear nRQ2_
  clear RF2
  (repeat ((fail_if_success (with_reducible refine gate_dst (N := 154) rfl ?_)); first | go_values | go_skip | go_guarded | go_step | go_upon))
  refine goesG_ (some 154) rfl rfl Try.func21 (by kernel_rfl) rfl #[.slice ARQ qs.length cRQ, .slice ARQ2 qs.length cRQ2] rfl (by (try simp only [List.map_toArray, List.map_cons, List.map_nil]); first | done | rfl) ?_
  refine (laws_vLists.calls k ARQ cRQ qs ARQ2 cRQ2 qs true _ (Kd.S_reads' RQ.out).2.2 (Kd.S_reads' RQ.out).2.1 (Kd.S_reads' RQ2.out).2.2 (Kd.S_reads' RQ2.out).2.1 HF.out.f154).mono ?_
  rintro e w19 ⟨rfl, hdr⟩
  have hb := hdr.below
  clear hdr
  refine ⟨_, rfl, ?_⟩
  have nRO_ := Aside0.mk (Kd.R_below RO.out hb)
  have nRR_ := Aside0.mk (Kd.R_below RR.out hb)
  have nRF_ := Aside0.mk (Kd.R_below RF.out hb)
  have nRQ_ := Aside0.mk (Kd.S_below RQ.out hb)
  have nRQ2_ := Aside0.mk (Kd.S_below RQ2.out hb)
  have nB := Aside0.mk (below_step HB.out hb)
  clear HB hb RO RR RF RQ RQ2
  have HB := nB
  clear nB
  have RO := nRO_
  clear nRO_
  have RR := nRR_
  clear nRR_
  have RF := nRF_
  clear nRF_
  have RQ := nRQ_
  clear nRQ_
  have RQ2 := nRQ2_
  clear nRQ2_
  clear RQ2
  (repeat ((fail_if_success (with_reducible refine gate_dst (N := 195) rfl ?_)); first | go_values | go_skip | go_guarded | go_step | go_upon))
  refine guard_any (N := 195) (c := tw) (v := .bool ok) ?hw rfl ?hr ?_
  case hw => cases tw <;> rfl
  case hr => intro _; first | (go_simp; done) | (go_simp; rfl)
  intro x195 hx195
  simp only [Act.put, List.setIfInBounds_toArray, List.set_cons_zero, List.set_cons_succ]
  refine guard_any (N := 196) (c := tw) (v := .bool (!ok)) ?hw rfl ?hr ?_
  case hw => cases tw <;> rfl
  case hr => intro h_; have h2_ := hx195 h_; subst h2_; first | (go_simp; done) | (go_simp; rfl)
  intro x196 hx196
  simp only [Act.put, List.setIfInBounds_toArray, List.set_cons_zero, List.set_cons_succ]
  refine guard_any (N := 197) (c := true) (v := .bool false) ?hw rfl ?hr ?_
  case hw => rfl
  case hr =>
    intro _
    cases hc_ : tw
    · first | (go_simp; done) | (go_simp; rfl)
    · have h3_ : x196 = .bool false := (hx196 hc_).trans (by rw [HF.out.okC hc_]; rfl)
      subst h3_
      first | (go_simp; done) | (go_simp; rfl)
  intro x_ hx_
  obtain rfl := hx_ rfl
  simp only [Act.put, List.setIfInBounds_toArray, List.set_cons_zero, List.set_cons_succ]
  clear hx195 hx196 hx_
  (repeat ((fail_if_success (with_reducible refine gate_dst (N := 199) rfl ?_)); first | go_values | go_skip | go_guarded | go_step | go_upon))
  cases ok with
  | false =>
    obtain rfl : tw = false := by cases tw with
      | false => rfl
      | true => exact absurd (HF.out.okC rfl) (by simp)
    (repeat ((fail_if_success (with_reducible refine gate_dst (N := 297) rfl ?_)); first | go_values | go_skip | go_guarded | go_step | go_upon))
    cases th with
    | false =>
      go_wp2
      go_ret
      exact ⟨rfl, HB.out⟩
    | true =>
      cases hm : decide (m > 1) with
      | false =>
        go_wp2
        go_ret
        exact ⟨rfl, HB.out⟩
      | true =>
        have zm := i64_w (m - 1)
        (repeat ((fail_if_success (with_reducible refine gate_dst (N := 306) rfl ?_)); first | go_values | go_skip | go_guarded | go_step | go_upon))
        refine goesL_ (some 306) rfl rfl Try.func18 (by kernel_rfl) rfl #[.int .i64 n, .int .i64 (wrap64 (m - 1))] rfl (by (try simp only [List.map_toArray, List.map_cons, List.map_nil]); first | done | rfl) ?_
        refine (impl_CountQueueable.calls k n ((wrap64 (m - 1))) less true _ (HF.out.dec rfl hm).1).mono ?_
        rintro e w20 ⟨rfl, hb⟩
        refine ⟨_, rfl, ?_⟩
        have nRO_ := Aside0.mk (Kd.R_below RO.out hb)
        have nRR_ := Aside0.mk (Kd.R_below RR.out hb)
        have nRF_ := Aside0.mk (Kd.R_below RF.out hb)
        have nRQ_ := Aside0.mk (Kd.S_below RQ.out hb)
        have nB := Aside0.mk (below_step HB.out hb)
        clear HB hb RO RR RF RQ
        have HB := nB
        clear nB
        have RO := nRO_
        clear nRO_
        have RR := nRR_
        clear nRR_
        have RF := nRF_
        clear nRF_
        have RQ := nRQ_
        clear nRQ_
        have k2 : decide (less ≤ al) = true := (HF.out.dec rfl hm).2.1
        have k3 : decide (al > 0) = true := (HF.out.dec rfl hm).2.2
        go_wp2
        go_ret
        first | exact ⟨rfl, HB.out⟩ | (refine ⟨?_, HB.out⟩; first | (rw [k3]; done) | (simp only [k2, k3]; done) | (simp [k2, k3]; done))
  | true =>
    have HG := Aside0.mk (HF.out.law rfl)
    go_wp2
    go_loopg [31, 32] qs.length (fun kq v31 v32 w' => ∃ (i : Nat) (s : Int), v31 = .int .i64 s ∧ v32 = .int .i64 (i : Int) ∧ Aside0 (i + kq = qs.length) ∧ Aside0 (lensM (qs.drop i) s = (o.length : Int)) ∧ Aside0 (Below w.heap.size w w') ∧ Aside0 (Kd.R (Kd.int .i64) 3 w' w.heap.size (fun _ => True) (.slice ARO o.length cRO) o) ∧ Aside0 (Kd.R (Kd.int .i64) 3 w' w.heap.size (fun _ => True) (.slice ARR rise.length cRR) rise) ∧ Aside0 (Kd.R (Kd.int .i64) 3 w' w.heap.size (fun _ => True) (.slice ARF fall.length cRF) fall) ∧ Aside0 (Kd.S (Kd.slice 3 (Kd.int .i64)) 24 w' w.heap.size (fun _ => True) (.slice ARQ qs.length cRQ) qs))
    case atStart => exact ⟨0, 0, rfl, rfl, ⟨by omega⟩, ⟨HG.out.sum⟩, HB, RO, RR, RF, RQ⟩
    case round =>
      clear HB RO RR RF RQ
      obtain ⟨i, s, rfl, rfl, HI, HM, HB, RO, RR, RF, RQ⟩ := hrel
      cases gk with
      | zero =>
        have c1 : decide (i < qs.length) = false := decide_eq_false (by have := HI.out; omega)
        have c1b : decide ((i : Int) < (qs.length : Int)) = false := decide_eq_false (by have := HI.out; omega)
        have hc_ : s = (o.length : Int) := by have h_ := HM.out; rw [List.drop_eq_nil_of_le (by have := HI.out; omega)] at h_; exact h_
        subst hc_
        clear HM HI
        obtain ⟨w50, hw50⟩ : ∃ w', w' = wr := ⟨_, rfl⟩
        subst hw50
        (repeat ((fail_if_success (with_reducible refine gate_dst (N := 229) rfl ?_)); first | go_values | go_skip | go_guarded | go_step | go_upon))
        refine goesL_ (some 229) rfl rfl Try.func23 (by kernel_rfl) rfl #[.slice ARO o.length cRO] rfl (by (try simp only [List.map_toArray, List.map_cons, List.map_nil]); first | done | rfl) ?_
        refine (impl_BackOrder.calls k ARO cRO o bk true _ (Kd.R_reads' RO.out).2.2 (Kd.R_reads' RO.out).2.1 HG.out.back).mono ?_
        rintro e w51 ⟨v0_, rfl, ho0, hb⟩
        refine ⟨_, rfl, ?_⟩
        obtain ⟨ARB, cRB, e_RB⟩ := Kd.R_slice ho0
        subst e_RB
        have nn0_ := Aside0.mk (Kd.R_lower (Kd.R_mono ho0 (fun _ _ => trivial)) HB.out.size)
        have nRO_ := Aside0.mk (Kd.R_below RO.out hb)
        have nRR_ := Aside0.mk (Kd.R_below RR.out hb)
        have nRF_ := Aside0.mk (Kd.R_below RF.out hb)
        have nRQ_ := Aside0.mk (Kd.S_below RQ.out hb)
        have nB := Aside0.mk (below_step HB.out hb)
        clear HB hb RO RR RF RQ ho0
        have HB := nB
        clear nB
        have RO := nRO_
        clear nRO_
        have RR := nRR_
        clear nRR_
        have RF := nRF_
        clear nRF_
        have RQ := nRQ_
        clear nRQ_
        have RB := nn0_
        clear nn0_
        (repeat ((fail_if_success (with_reducible refine gate_dst (N := 234) rfl ?_)); first | go_values | go_skip | go_guarded | go_step | go_upon))
        refine goesL_ (some 234) rfl rfl Try.func8 (by kernel_rfl) rfl #[.slice ARB bk.length cRB] rfl (by (try simp only [List.map_toArray, List.map_cons, List.map_nil]); first | done | rfl) ?_
        refine (impl_LongestFall.calls k ARB cRB bk tn true _ (Kd.R_reads' RB.out).2.2 (Kd.R_reads' RB.out).2.1 HG.out.turn).mono ?_
        rintro e w52 ⟨v0_, rfl, ho0, hb⟩
        refine ⟨_, rfl, ?_⟩
        obtain ⟨ART, cRT, e_RT⟩ := Kd.R_slice ho0
        subst e_RT
        have nn0_ := Aside0.mk (Kd.R_lower (Kd.R_mono ho0 (fun _ _ => trivial)) HB.out.size)
        have nRO_ := Aside0.mk (Kd.R_below RO.out hb)
        have nRR_ := Aside0.mk (Kd.R_below RR.out hb)
        have nRF_ := Aside0.mk (Kd.R_below RF.out hb)
        have nRQ_ := Aside0.mk (Kd.S_below RQ.out hb)
        have nRB_ := Aside0.mk (Kd.R_below RB.out hb)
        have nB := Aside0.mk (below_step HB.out hb)
        clear HB hb RO RR RF RQ RB ho0
        have HB := nB
        clear nB
        have RO := nRO_
        clear nRO_
        have RR := nRR_
        clear nRR_
        have RF := nRF_
        clear nRF_
        have RQ := nRQ_
        clear nRQ_
        have RB := nRB_
        clear nRB_
        have RT := nn0_
        clear nn0_
        have k1 : ((o.length : Int) != (o.length : Int)) = false := bne_self_eq_false _
        have k1b : (o.length != o.length) = false := bne_self_eq_false _
        have k2 : (few != (fall.length : Int)) = false := by rw [HG.out.fewF]; exact bne_self_eq_false _
        have k3 : (few != (qs.length : Int)) = false := by rw [HG.out.fewQ]; exact bne_self_eq_false _
        (repeat ((fail_if_success (with_reducible refine gate_dst (N := 263) rfl ?_)); first | go_values | go_skip | go_guarded | go_step | go_upon))
        refine goesG_ (some 263) rfl rfl Try.func22 (by kernel_rfl) rfl #[.slice ARR rise.length cRR, .bool true] rfl (by (try simp only [List.map_toArray, List.map_cons, List.map_nil]); first | done | rfl) ?_
        refine (laws_vUp.calls k ARR cRR rise true true _ (Kd.R_reads' RR.out).2.2 (Kd.R_reads' RR.out).2.1 HG.out.upR).mono ?_
        rintro e w53 ⟨rfl, hdr⟩
        have hb := hdr.below
        clear hdr
        refine ⟨_, rfl, ?_⟩
        have nRO_ := Aside0.mk (Kd.R_below RO.out hb)
        have nRR_ := Aside0.mk (Kd.R_below RR.out hb)
        have nRF_ := Aside0.mk (Kd.R_below RF.out hb)
        have nRQ_ := Aside0.mk (Kd.S_below RQ.out hb)
        have nRB_ := Aside0.mk (Kd.R_below RB.out hb)
        have nRT_ := Aside0.mk (Kd.R_below RT.out hb)
        have nB := Aside0.mk (below_step HB.out hb)
        clear HB hb RO RR RF RQ RB RT
        have HB := nB
        clear nB
        have RO := nRO_
        clear nRO_
        have RR := nRR_
        clear nRR_
        have RF := nRF_
        clear nRF_
        have RQ := nRQ_
        clear nRQ_
        have RB := nRB_
        clear nRB_
        have RT := nRT_
        clear nRT_
        (repeat ((fail_if_success (with_reducible refine gate_dst (N := 268) rfl ?_)); first | go_values | go_skip | go_guarded | go_step | go_upon))
        refine goesG_ (some 268) rfl rfl Try.func22 (by kernel_rfl) rfl #[.slice ARF fall.length cRF, .bool false] rfl (by (try simp only [List.map_toArray, List.map_cons, List.map_nil]); first | done | rfl) ?_
        refine (laws_vUp.calls k ARF cRF fall false true _ (Kd.R_reads' RF.out).2.2 (Kd.R_reads' RF.out).2.1 HG.out.upF).mono ?_
        rintro e w54 ⟨rfl, hdr⟩
        have hb := hdr.below
        clear hdr
        refine ⟨_, rfl, ?_⟩
        have nRO_ := Aside0.mk (Kd.R_below RO.out hb)
        have nRR_ := Aside0.mk (Kd.R_below RR.out hb)
        have nRF_ := Aside0.mk (Kd.R_below RF.out hb)
        have nRQ_ := Aside0.mk (Kd.S_below RQ.out hb)
        have nRB_ := Aside0.mk (Kd.R_below RB.out hb)
        have nRT_ := Aside0.mk (Kd.R_below RT.out hb)
        have nB := Aside0.mk (below_step HB.out hb)
        clear HB hb RO RR RF RQ RB RT
        have HB := nB
        clear nB
        have RO := nRO_
        clear nRO_
        have RR := nRR_
        clear nRR_
        have RF := nRF_
        clear nRF_
        have RQ := nRQ_
        clear nRQ_
        have RB := nRB_
        clear nRB_
        have RT := nRT_
        clear nRT_
        have k4 : ((tn.length : Int) != (rise.length : Int)) = false := by rw [HG.out.lenT]; exact bne_self_eq_false _
        have k4b : (tn.length != rise.length) = false := by rw [HG.out.lenT]; exact bne_self_eq_false _
        have zz := i64_w ((rise.length : Int) * (fall.length : Int))
        have k5 : decide (wrap64 ((rise.length : Int) * (fall.length : Int)) < (o.length : Int)) = false := decide_eq_false (by have := HG.out.area; omega)
        (repeat ((fail_if_success (with_reducible refine gate_dst (N := 288) rfl ?_)); first | go_values | go_skip | go_guarded | go_step | go_upon))
        clear k1 k1b k2 k3 k4 k4b zz k5
        clear RB RT
        cases tw with
        | false =>
          (repeat ((fail_if_success (with_reducible refine gate_dst (N := 297) rfl ?_)); first | go_values | go_skip | go_guarded | go_step | go_upon))
          cases th with
          | false =>
            go_wp2
            go_ret
            exact ⟨rfl, HB.out⟩
          | true =>
            cases hm : decide (m > 1) with
            | false =>
              go_wp2
              go_ret
              exact ⟨rfl, HB.out⟩
            | true =>
              have zm := i64_w (m - 1)
              (repeat ((fail_if_success (with_reducible refine gate_dst (N := 306) rfl ?_)); first | go_values | go_skip | go_guarded | go_step | go_upon))
              refine goesL_ (some 306) rfl rfl Try.func18 (by kernel_rfl) rfl #[.int .i64 n, .int .i64 (wrap64 (m - 1))] rfl (by (try simp only [List.map_toArray, List.map_cons, List.map_nil]); first | done | rfl) ?_
              refine (impl_CountQueueable.calls k n ((wrap64 (m - 1))) less true _ (HF.out.dec rfl hm).1).mono ?_
              rintro e w55 ⟨rfl, hb⟩
              refine ⟨_, rfl, ?_⟩
              have nRO_ := Aside0.mk (Kd.R_below RO.out hb)
              have nRR_ := Aside0.mk (Kd.R_below RR.out hb)
              have nRF_ := Aside0.mk (Kd.R_below RF.out hb)
              have nRQ_ := Aside0.mk (Kd.S_below RQ.out hb)
              have nB := Aside0.mk (below_step HB.out hb)
              clear HB hb RO RR RF RQ
              have HB := nB
              clear nB
              have RO := nRO_
              clear nRO_
              have RR := nRR_
              clear nRR_
              have RF := nRF_
              clear nRF_
              have RQ := nRQ_
              clear nRQ_
              have k2 : decide (less ≤ al) = true := (HF.out.dec rfl hm).2.1
              have k3 : decide (al > 0) = true := (HF.out.dec rfl hm).2.2
              go_wp2
              go_ret
              first | exact ⟨rfl, HB.out⟩ | (refine ⟨?_, HB.out⟩; first | (rw [k3]; done) | (simp only [k2, k3]; done) | (simp [k2, k3]; done))
        | true =>
          have k1 := HF.out.cmp rfl
          obtain ⟨bq, hbq⟩ : ∃ b, decide (few ≤ kk) = b := ⟨_, rfl⟩
          have hbr : decide (ways > 0) = bq := k1.trans hbq
          have q_bq : (bq != bq) = false := bne_self_eq_false bq
          (repeat ((fail_if_success (with_reducible refine gate_dst (N := 297) rfl ?_)); first | go_values | go_skip | go_guarded | go_step | go_upon))
          cases th with
          | false =>
            go_wp2
            go_ret
            exact ⟨rfl, HB.out⟩
          | true =>
            cases hm : decide (m > 1) with
            | false =>
              go_wp2
              go_ret
              exact ⟨rfl, HB.out⟩
            | true =>
              have zm := i64_w (m - 1)
              (repeat ((fail_if_success (with_reducible refine gate_dst (N := 306) rfl ?_)); first | go_values | go_skip | go_guarded | go_step | go_upon))
              refine goesL_ (some 306) rfl rfl Try.func18 (by kernel_rfl) rfl #[.int .i64 n, .int .i64 (wrap64 (m - 1))] rfl (by (try simp only [List.map_toArray, List.map_cons, List.map_nil]); first | done | rfl) ?_
              refine (impl_CountQueueable.calls k n ((wrap64 (m - 1))) less true _ (HF.out.dec rfl hm).1).mono ?_
              rintro e w55 ⟨rfl, hb⟩
              refine ⟨_, rfl, ?_⟩
              have nRO_ := Aside0.mk (Kd.R_below RO.out hb)
              have nRR_ := Aside0.mk (Kd.R_below RR.out hb)
              have nRF_ := Aside0.mk (Kd.R_below RF.out hb)
              have nRQ_ := Aside0.mk (Kd.S_below RQ.out hb)
              have nB := Aside0.mk (below_step HB.out hb)
              clear HB hb RO RR RF RQ
              have HB := nB
              clear nB
              have RO := nRO_
              clear nRO_
              have RR := nRR_
              clear nRR_
              have RF := nRF_
              clear nRF_
              have RQ := nRQ_
              clear nRQ_
              have k2 : decide (less ≤ al) = true := (HF.out.dec rfl hm).2.1
              have k3 : decide (al > 0) = true := (HF.out.dec rfl hm).2.2
              go_wp2
              go_ret
              first | exact ⟨rfl, HB.out⟩ | (refine ⟨?_, HB.out⟩; first | (rw [k3]; done) | (simp only [k2, k3]; done) | (simp [k2, k3]; done))
      | succ d =>
        have hi_ : i < qs.length := by have := HI.out; omega
        have c1 : decide (i < qs.length) = true := decide_eq_true hi_
        have c1b : decide ((i : Int) < (qs.length : Int)) = true := decide_eq_true (by omega)
        have p1 : (i < qs.length) = True := eq_true hi_
        have zi := wup_s i (by have := HG.out.lenQ; omega)
        obtain ⟨x, hx⟩ : ∃ x, rd_L5 qs (i : Int) = x := ⟨_, rfl⟩
        have hxm : qs[i]'hi_ = x := by rw [← hx]; simp [rd_L5, hi_]
        obtain ⟨ad1, A1, c1_, e1, y1, y2, y3⟩ := at_L5 (Kd.S_reads' RQ.out).2.2 (i : Int) (by omega) (by omega)
        rw [hx] at y1 y2 y3
        rw [Int.toNat_natCast] at y1
        subst e1
        have Y3 := Aside0.mk y3
        have Y2 := Aside0.mk y2
        clear y2 y3
        have hb_ := HG.out.each x (by rw [← hxm]; exact List.getElem_mem hi_)
        have c2 : ((x.length : Int) == 0) = false := beq_eq_false_iff_ne.mpr (by have := hb_.1; omega)
        have c2b : (x.length == 0) = false := beq_eq_false_iff_ne.mpr (by have := hb_.1; omega)
        have hm_ : lensM (qs.drop (i + 1)) (wrap64 (s + (x.length : Int))) = (o.length : Int) := by
          have h_ := HM.out
          rw [List.drop_eq_getElem_cons hi_, hxm, lensM] at h_
          exact h_
        have zs := i64_w (s + (x.length : Int))
        obtain ⟨s2, hs2⟩ : ∃ x_, wrap64 (s + (x.length : Int)) = x_ := ⟨_, rfl⟩
        rw [hs2] at hm_ zs
        have HM2 := Aside0.mk hm_
        have HUP := Aside0.mk hb_.2
        clear hb_ hm_ hx hxm hi_ HM
        obtain ⟨w60, hw60⟩ : ∃ w', w' = wr := ⟨_, rfl⟩
        subst hw60
        (repeat ((fail_if_success (with_reducible refine gate_dst (N := 224) rfl ?_)); first | go_values | go_skip | go_guarded | go_step | go_upon))
        refine goesG_ (some 224) rfl rfl Try.func22 (by kernel_rfl) rfl #[.slice A1 x.length c1_, .bool true] rfl (by (try simp only [List.map_toArray, List.map_cons, List.map_nil]); first | done | rfl) ?_
        refine (laws_vUp.calls k A1 c1_ x true true _ Y3.out Y2.out HUP.out).mono ?_
        rintro e w61 ⟨rfl, hdr⟩
        have hb := hdr.below
        clear hdr y1
        refine ⟨_, rfl, ?_⟩
        have nRO_ := Aside0.mk (Kd.R_below RO.out hb)
        have nRR_ := Aside0.mk (Kd.R_below RR.out hb)
        have nRF_ := Aside0.mk (Kd.R_below RF.out hb)
        have nRQ_ := Aside0.mk (Kd.S_below RQ.out hb)
        have nB := Aside0.mk (below_step HB.out hb)
        clear HB hb Y2 Y3 HUP RO RR RF RQ
        have HB := nB
        clear nB
        have RO := nRO_
        clear nRO_
        have RR := nRR_
        clear nRR_
        have RF := nRF_
        clear nRF_
        have RQ := nRQ_
        clear nRQ_
        go_wp2
        go_roundg d
        case measure => omega
        case rel => exact ⟨i + 1, s2, (by first | rfl | rw [hs2] | rw [zs]), (by first | rfl | rw [zi]), ⟨by have := HI.out; omega⟩, HM2, HB, RO, RR, RF, RQ⟩
set_option maxHeartbeats 4000000 in
set_option maxRecDepth 100000 in
theorem laws_FnQueues.big (A0 : Option Addr) (c0 : Nat) (l0 : List Int) (w : World) (hr0 : Kd.C (Kd.int .u8) w A0 l0.length l0) (hc0 : l0.length ≤ c0) (h : laws_vBig.f l0 = some true) :
    Calls Try.prog 3 #[.slice A0 l0.length c0] w fun e w' => e = .returned (.bool true) ∧ Below w.heap.size w w' := by
  have HB := Aside0.mk (Below.refl w.heap.size w)
  go_enter Try.func3, Try.ntmps3
  (repeat ((fail_if_success (with_reducible refine gate_dst (N := 40) rfl ?_)); first | go_values | go_skip | go_guarded | go_step | go_upon))
  refine goesL_ (some 40) rfl rfl Try.func4 (by kernel_rfl) rfl #[.slice A0 l0.length c0] rfl (by (try simp only [List.map_toArray, List.map_cons, List.map_nil]); first | done | rfl) ?_
  refine (laws_vBig.calls A0 c0 l0 true w hr0 hc0 h).mono ?_
  rintro e w1 ⟨rfl, hdr⟩
  refine ⟨_, rfl, ?_⟩
  have nB := Aside0.mk (below_step HB.out hdr.below)
  clear HB hdr
  go_wp2
  go_ret
  exact ⟨rfl, nB.out⟩
def laws_FnQueues.Pure : Prop := ∀ (l0 : List Int), l0.length ≤ maxLen → l0.length * 1 ≤ 140737488351232 → (∀ x ∈ l0, (Lit.int .u8 x).wf = true) → laws_vBig.f l0 = some false → ∃ k o kk rise ok fall few qs ways tw cd n m al th bk tn less, laws_FnQueues.Fact k l0 o kk rise ok fall few qs ways tw cd n m al th bk tn less
theorem laws_FnQueues.walk (P : laws_FnQueues.Pure) (a0 : Option Addr) (len0 cap0 : Nat) (z0 : List Int) (w : World) (w0 : (a0 = none ∧ len0 = 0 ∧ cap0 = 0 ∧ z0 = []) ∨ ∃ x, a0 = some x ∧ len0 ≤ cap0 ∧ cap0 ≤ maxLen ∧ z0.length = cap0 ∧ (∀ i, i < z0.length → w.cell? (x.add i) = some (.int .u8 (z0.getD i 0))) ∧ ∀ n ∈ z0, (Lit.int .u8 n).wf = true) (y0 : len0 * 1 ≤ 140737488351232) :
    Calls Try.prog 3 #[.slice a0 len0 cap0] w fun e w' => e = .returned (.bool true) ∧ Below w.heap.size w w' := by
  obtain ⟨l0, rfl, hr0, hm0, hw0, hc0⟩ := ReadsInt.ofRowC w0
  have hC := Kd.C_of_reads (d := (0 : Int)) (h1 := fun _ => rfl) hr0
  cases hb : decide ((l0.length : Int) > 65536) with
  | true => exact laws_FnQueues.big _ _ l0 w hC hc0 (by unfold laws_vBig.f; rw [hb])
  | false =>
    obtain ⟨k, o, kk, rise, ok, fall, few, qs, ways, tw, cd, n, m, al, th, bk, tn, less, h⟩ := P l0 hm0 y0 hw0 (by unfold laws_vBig.f; rw [hb])
    exact laws_FnQueues.calls _ _ k l0 o kk rise ok fall few qs ways tw cd n m al th bk tn less w hC hc0 h
end Go.Proofs.Ytidiondgfoolbaa.PFnQueues
