-- laid by mkprint.py, a program of this claim's writer, over the kit's print program; parts of it are typed by hand
import Derived.Test.YtmgekfoiamjijaaPFnStacksx0
import Derived.Test.YtmgekfoiamjijaaPFnStacksx1
import Derived.Test.YtmgekfoiamjijaaPFnStacksx2
import Derived.Test.YtmgekfoiamjijaaPFnStacksx5
import Derived.Test.YtmgekfoiamjijaaPFnStacksx7
import Derived.Test.YtmgekfoiamjijaaPFnStacksx9
import Derived.Test.YtmgekfoiamjijaaPFnStacksx10
import Derived.Test.YtmgekfoiamjijaaPFnStacksx11
import Derived.Test.YtmgekfoiamjijaaPFnStacksx12
import Derived.Test.YtmgekfoiamjijaaPFnStacksx14
import Derived.Test.YtmgekfoiamjijaaPFnStacksx15
namespace Go.Proofs.Ytmgekfoiamjijaa.PFnStacks
open Go.RowKit Go.Proofs.YtmgekfoiamjijaaW.PrintWords Go.Proofs.YtmgekfoiamjijaaW.PrintLast Go.Proofs.YtmgekfoiamjijaaW.PrintMore
attribute [local go_sem] max2_int min2_int max_two min_two max_three min_three max_four min_four
set_option linter.unusedVariables false
set_option linter.unusedSimpArgs false
def hiM : List Int → Int → Int
  | [], m => m
  | x :: t, m => hiM t (if m < x then x else m)
theorem guard_any {P : Program} {ops : Array Oper} {rest : List Oper} {o : Oper} {a : Act} {Q : Exit → Act → World → Prop} {W : World} {N : Tmp} {c : Bool} {v : Value} (hw : Region.wanted o (yielded ops a.tmps) = c) (hN : o.dst = some N)
    (hrun : c = true → (execOp a.eval o).run P W = .ok (.value v) W) (h : ∀ x : Value, (c = true → x = v) → wpList P ops Q rest (a.put (some N) x) W) : wpList P ops Q (o :: rest) a W := by
  cases c with
  | false => exact wpList_skip hw (by rw [hN]; exact h undef (fun e => by cases e))
  | true =>
    refine wpList_step fun K hK => ?_
    rw [if_pos hw]
    unfold Oper.wp
    rw [hrun rfl]
    show K (a.put o.dst v) W
    rw [hN]
    exact hK _ _ (h v (fun _ => rfl))
theorem wup_s (i : Nat) (h : i ≤ 17592186044416) : wrap64 ((i : Int) + 1) = ((i + 1 : Nat) : Int) := by rw [IntWalk.wrap64_in _ (by omega)]; omega
structure laws_FnStacks.Fact (k : Nat) (l0 o first greedy c1 hard c2 : List Int) (kk few cnt hn top bx by_ bn bn2 : Int) (fewOk fo go co ho bo : Bool) : Prop where
  big : laws_vBig.f l0 = some false
  drw : spec_DrawCountSharings.f l0 = some (o, kk)
  fwI : impl_FewestStacks.f k o = some (few, fewOk)
  fwS : spec_FewestStacks.f k o = some (few, fewOk)
  fiI : impl_FirstSharing.f k o = some (first, fo)
  fiS : spec_FirstSharing.f k o = some (first, fo)
  grI : impl_GreedySharing.f k o = some (greedy, go)
  grS : spec_GreedySharing.f k o = some (greedy, go)
  csI : impl_CountSharings.f k o kk = some (cnt, co)
  csS : spec_CountSharings.f k o kk = some (cnt, co)
  cut1 : laws_vCut.f l0 1 = some c1
  dh : spec_DrawHardestOrder.f c1 = some hn
  hoI : impl_HardestOrder.f k hn = some (hard, top, ho)
  hoS : spec_HardestOrder.f k hn = some (hard, top, ho)
  cut2 : laws_vCut.f l0 2 = some c2
  db : spec_DrawCountBeside.f c2 = some (bx, by_)
  cbI : impl_CountBeside.f k bx by_ = some (bn, bo)
  cbS : spec_CountBeside.f k bx by_ = some (bn, bo)
  eqF : laws_vInts.f k first first = some true
  eqG : laws_vInts.f k greedy greedy = some true
  eqH : laws_vInts.f k hard hard = some true
  okC : co = true → fewOk = true
  okF : fo = true → fewOk = true
  okG : go = true → fewOk = true
  fitF : fo = true → impl_FitsSharing.f k o first = some (true, true)
  four : fo = true → few ≤ 4
  most : fo = true → hiM first 0 = wrap64 (few - 1)
  lenF : first.length ≤ 1000000
  fitG : go = true → impl_FitsSharing.f k o greedy = some (true, true)
  g0 : go = true → 0 < greedy.length ∧ rd greedy 0 = 0
  pos : co = true → (0 < cnt ↔ few ≤ kk)
  hrd : ho = true → impl_FewestStacks.f k hard = some (top, true) ∧ (hard.length : Int) = hn
  bes : bo = true → 1 < by_ → impl_CountBeside.f k bx (wrap64 (by_ - 1)) = some (bn2, true) ∧ bn2 ≤ bn
set_option maxHeartbeats 16000000 in
set_option maxRecDepth 100000 in
theorem laws_FnStacks.calls (A0 : Option Addr) (c0 : Nat) (k : Nat) (l0 o first greedy c1 hard c2 : List Int) (kk few cnt hn top bx by_ bn bn2 : Int) (fewOk fo go co ho bo : Bool) (w : World) (hr0 : Kd.C (Kd.int .u8) w A0 l0.length l0) (hc0 : l0.length ≤ c0) (hF : laws_FnStacks.Fact k l0 o first greedy c1 hard c2 kk few cnt hn top bx by_ bn bn2 fewOk fo go co ho bo) :
    Calls Try.prog 4 #[.slice A0 l0.length c0] w fun e w' => e = .returned (.bool true) ∧ Below w.heap.size w w' := by
  have HR0 := Aside0.mk hr0
  have HC0 := Aside0.mk hc0
  have HF := Aside0.mk hF
  have HB := Aside0.mk (Below.refl w.heap.size w)
  clear hr0 hc0 hF
  have q1 : (few != few) = false := bne_self_eq_false few
  have q2 : (fewOk != fewOk) = false := bne_self_eq_false fewOk
  have q3 : (fo != fo) = false := bne_self_eq_false fo
  have q4 : (go != go) = false := bne_self_eq_false go
  have q5 : (cnt != cnt) = false := bne_self_eq_false cnt
  have q6 : (co != co) = false := bne_self_eq_false co
  have q7 : (top != top) = false := bne_self_eq_false top
  have q8 : (ho != ho) = false := bne_self_eq_false ho
  have q9 : (bn != bn) = false := bne_self_eq_false bn
  have q10 : (bo != bo) = false := bne_self_eq_false bo
  go_enter Try.func4, Try.ntmps4
  (repeat ((fail_if_success (with_reducible refine gate_dst (N := 45) rfl ?_)); first | go_values | go_skip | go_guarded | go_step | go_upon))
  refine goesL_ (some 45) rfl rfl Try.func5 (by kernel_rfl) rfl #[.slice A0 l0.length c0] rfl (by (try simp only [List.map_toArray, List.map_cons, List.map_nil]); first | done | rfl) ?_
  refine (laws_vBig.calls  A0 c0 l0 false _ (Kd.C_below HR0.out HB.out) HC0.out HF.out.big).mono ?_
  rintro e w1 ⟨rfl, hdr⟩
  have hb := hdr.below
  clear hdr
  refine ⟨_, rfl, ?_⟩
  have nB := Aside0.mk (below_step HB.out hb)
  clear HB hb
  have HB := nB
  clear nB
  (repeat ((fail_if_success (with_reducible refine gate_dst (N := 48) rfl ?_)); first | go_values | go_skip | go_guarded | go_step | go_upon))
  refine goesL_ (some 48) rfl rfl Try.func22 (by kernel_rfl) rfl #[.slice A0 l0.length c0] rfl (by (try simp only [List.map_toArray, List.map_cons, List.map_nil]); first | done | rfl) ?_
  refine (spec_DrawCountSharings.calls  A0 c0 l0 o kk _ (Kd.C_below HR0.out HB.out) HC0.out HF.out.drw).mono ?_
  rintro e w2 ⟨v_, rfl, ho, hb⟩
  refine ⟨_, rfl, ?_⟩
  obtain ⟨ARO, cRO, e_RO⟩ := Kd.R_slice ho
  subst e_RO
  have nn_ := Aside0.mk (Kd.R_lower ho HB.out.size)
  have nB := Aside0.mk (below_step HB.out hb)
  clear HB hb  ho
  have HB := nB
  clear nB
  have RO := nn_
  clear nn_
  (repeat ((fail_if_success (with_reducible refine gate_dst (N := 53) rfl ?_)); first | go_values | go_skip | go_guarded | go_step | go_upon))
  refine goesL_ (some 53) rfl rfl Try.func23 (by kernel_rfl) rfl #[.slice ARO o.length cRO] rfl (by (try simp only [List.map_toArray, List.map_cons, List.map_nil]); first | done | rfl) ?_
  refine (impl_FewestStacks.calls k ARO cRO o few fewOk _ ((Kd.R_reads' RO.out).2.2) ((Kd.R_reads' RO.out).2.1) HF.out.fwI).mono ?_
  rintro e w3 ⟨rfl, hb⟩
  refine ⟨_, rfl, ?_⟩
  have nRO_ := Aside0.mk (Kd.R_below RO.out hb)
  have nB := Aside0.mk (below_step HB.out hb)
  clear HB hb RO
  have HB := nB
  clear nB
  have RO := nRO_
  clear nRO_
  (repeat ((fail_if_success (with_reducible refine gate_dst (N := 58) rfl ?_)); first | go_values | go_skip | go_guarded | go_step | go_upon))
  refine goesL_ (some 58) rfl rfl Try.func24 (by kernel_rfl) rfl #[.slice ARO o.length cRO] rfl (by (try simp only [List.map_toArray, List.map_cons, List.map_nil]); first | done | rfl) ?_
  refine (spec_FewestStacks.calls k ARO cRO o few fewOk _ ((Kd.R_reads' RO.out).2.2) ((Kd.R_reads' RO.out).2.1) HF.out.fwS).mono ?_
  rintro e w4 ⟨rfl, hb⟩
  refine ⟨_, rfl, ?_⟩
  have nRO_ := Aside0.mk (Kd.R_below RO.out hb)
  have nB := Aside0.mk (below_step HB.out hb)
  clear HB hb RO
  have HB := nB
  clear nB
  have RO := nRO_
  clear nRO_
  (repeat ((fail_if_success (with_reducible refine gate_dst (N := 63) rfl ?_)); first | go_values | go_skip | go_guarded | go_step | go_upon))
  refine goesL_ (some 63) rfl rfl Try.func25 (by kernel_rfl) rfl #[.slice ARO o.length cRO] rfl (by (try simp only [List.map_toArray, List.map_cons, List.map_nil]); first | done | rfl) ?_
  refine (impl_FirstSharing.calls k ARO cRO o first fo _ ((Kd.R_reads' RO.out).2.2) ((Kd.R_reads' RO.out).2.1) HF.out.fiI).mono ?_
  rintro e w5 ⟨v_, rfl, ho, hb⟩
  refine ⟨_, rfl, ?_⟩
  obtain ⟨ARF, cRF, e_RF⟩ := Kd.R_slice ho
  subst e_RF
  have nn_ := Aside0.mk (Kd.R_lower ho HB.out.size)
  have nRO_ := Aside0.mk (Kd.R_below RO.out hb)
  have nB := Aside0.mk (below_step HB.out hb)
  clear HB hb RO ho
  have HB := nB
  clear nB
  have RO := nRO_
  clear nRO_
  have RF := nn_
  clear nn_
  (repeat ((fail_if_success (with_reducible refine gate_dst (N := 68) rfl ?_)); first | go_values | go_skip | go_guarded | go_step | go_upon))
  refine goesL_ (some 68) rfl rfl Try.func26 (by kernel_rfl) rfl #[.slice ARO o.length cRO] rfl (by (try simp only [List.map_toArray, List.map_cons, List.map_nil]); first | done | rfl) ?_
  refine (spec_FirstSharing.calls k ARO cRO o first fo _ ((Kd.R_reads' RO.out).2.2) ((Kd.R_reads' RO.out).2.1) HF.out.fiS).mono ?_
  rintro e w6 ⟨v_, rfl, ho, hb⟩
  refine ⟨_, rfl, ?_⟩
  obtain ⟨ARF2, cRF2, e_RF2⟩ := Kd.R_slice ho
  subst e_RF2
  have nn_ := Aside0.mk (Kd.R_lower ho HB.out.size)
  have nRO_ := Aside0.mk (Kd.R_below RO.out hb)
  have nRF_ := Aside0.mk (Kd.R_below RF.out hb)
  have nB := Aside0.mk (below_step HB.out hb)
  clear HB hb RO RF ho
  have HB := nB
  clear nB
  have RO := nRO_
  clear nRO_
  have RF := nRF_
  clear nRF_
  have RF2 := nn_
  clear nn_
  (repeat ((fail_if_success (with_reducible refine gate_dst (N := 73) rfl ?_)); first | go_values | go_skip | go_guarded | go_step | go_upon))
  refine goesL_ (some 73) rfl rfl Try.func27 (by kernel_rfl) rfl #[.slice ARO o.length cRO] rfl (by (try simp only [List.map_toArray, List.map_cons, List.map_nil]); first | done | rfl) ?_
  refine (impl_GreedySharing.calls k ARO cRO o greedy go _ ((Kd.R_reads' RO.out).2.2) ((Kd.R_reads' RO.out).2.1) HF.out.grI).mono ?_
  rintro e w7 ⟨v_, rfl, ho, hb⟩
  refine ⟨_, rfl, ?_⟩
  obtain ⟨ARG, cRG, e_RG⟩ := Kd.R_slice ho
  subst e_RG
  have nn_ := Aside0.mk (Kd.R_lower ho HB.out.size)
  have nRO_ := Aside0.mk (Kd.R_below RO.out hb)
  have nRF_ := Aside0.mk (Kd.R_below RF.out hb)
  have nRF2_ := Aside0.mk (Kd.R_below RF2.out hb)
  have nB := Aside0.mk (below_step HB.out hb)
  clear HB hb RO RF RF2 ho
  have HB := nB
  clear nB
  have RO := nRO_
  clear nRO_
  have RF := nRF_
  clear nRF_
  have RF2 := nRF2_
  clear nRF2_
  have RG := nn_
  clear nn_
  (repeat ((fail_if_success (with_reducible refine gate_dst (N := 78) rfl ?_)); first | go_values | go_skip | go_guarded | go_step | go_upon))
  refine goesL_ (some 78) rfl rfl Try.func28 (by kernel_rfl) rfl #[.slice ARO o.length cRO] rfl (by (try simp only [List.map_toArray, List.map_cons, List.map_nil]); first | done | rfl) ?_
  refine (spec_GreedySharing.calls k ARO cRO o greedy go _ ((Kd.R_reads' RO.out).2.2) ((Kd.R_reads' RO.out).2.1) HF.out.grS).mono ?_
  rintro e w8 ⟨v_, rfl, ho, hb⟩
  refine ⟨_, rfl, ?_⟩
  obtain ⟨ARG2, cRG2, e_RG2⟩ := Kd.R_slice ho
  subst e_RG2
  have nn_ := Aside0.mk (Kd.R_lower ho HB.out.size)
  have nRO_ := Aside0.mk (Kd.R_below RO.out hb)
  have nRF_ := Aside0.mk (Kd.R_below RF.out hb)
  have nRF2_ := Aside0.mk (Kd.R_below RF2.out hb)
  have nRG_ := Aside0.mk (Kd.R_below RG.out hb)
  have nB := Aside0.mk (below_step HB.out hb)
  clear HB hb RO RF RF2 RG ho
  have HB := nB
  clear nB
  have RO := nRO_
  clear nRO_
  have RF := nRF_
  clear nRF_
  have RF2 := nRF2_
  clear nRF2_
  have RG := nRG_
  clear nRG_
  have RG2 := nn_
  clear nn_
  (repeat ((fail_if_success (with_reducible refine gate_dst (N := 84) rfl ?_)); first | go_values | go_skip | go_guarded | go_step | go_upon))
  refine goesL_ (some 84) rfl rfl Try.func29 (by kernel_rfl) rfl #[.slice ARO o.length cRO, .int .i64 kk] rfl (by (try simp only [List.map_toArray, List.map_cons, List.map_nil]); first | done | rfl) ?_
  refine (impl_CountSharings.calls k ARO cRO o kk cnt co _ ((Kd.R_reads' RO.out).2.2) ((Kd.R_reads' RO.out).2.1) HF.out.csI).mono ?_
  rintro e w9 ⟨rfl, hb⟩
  refine ⟨_, rfl, ?_⟩
  have nRO_ := Aside0.mk (Kd.R_below RO.out hb)
  have nRF_ := Aside0.mk (Kd.R_below RF.out hb)
  have nRF2_ := Aside0.mk (Kd.R_below RF2.out hb)
  have nRG_ := Aside0.mk (Kd.R_below RG.out hb)
  have nRG2_ := Aside0.mk (Kd.R_below RG2.out hb)
  have nB := Aside0.mk (below_step HB.out hb)
  clear HB hb RO RF RF2 RG RG2
  have HB := nB
  clear nB
  have RO := nRO_
  clear nRO_
  have RF := nRF_
  clear nRF_
  have RF2 := nRF2_
  clear nRF2_
  have RG := nRG_
  clear nRG_
  have RG2 := nRG2_
  clear nRG2_
  (repeat ((fail_if_success (with_reducible refine gate_dst (N := 90) rfl ?_)); first | go_values | go_skip | go_guarded | go_step | go_upon))
  refine goesL_ (some 90) rfl rfl Try.func30 (by kernel_rfl) rfl #[.slice ARO o.length cRO, .int .i64 kk] rfl (by (try simp only [List.map_toArray, List.map_cons, List.map_nil]); first | done | rfl) ?_
  refine (spec_CountSharings.calls k ARO cRO o kk cnt co _ ((Kd.R_reads' RO.out).2.2) ((Kd.R_reads' RO.out).2.1) HF.out.csS).mono ?_
  rintro e w10 ⟨rfl, hb⟩
  refine ⟨_, rfl, ?_⟩
  have nRO_ := Aside0.mk (Kd.R_below RO.out hb)
  have nRF_ := Aside0.mk (Kd.R_below RF.out hb)
  have nRF2_ := Aside0.mk (Kd.R_below RF2.out hb)
  have nRG_ := Aside0.mk (Kd.R_below RG.out hb)
  have nRG2_ := Aside0.mk (Kd.R_below RG2.out hb)
  have nB := Aside0.mk (below_step HB.out hb)
  clear HB hb RO RF RF2 RG RG2
  have HB := nB
  clear nB
  have RO := nRO_
  clear nRO_
  have RF := nRF_
  clear nRF_
  have RF2 := nRF2_
  clear nRF2_
  have RG := nRG_
  clear nRG_
  have RG2 := nRG2_
  clear nRG2_
  (repeat ((fail_if_success (with_reducible refine gate_dst (N := 94) rfl ?_)); first | go_values | go_skip | go_guarded | go_step | go_upon))
  refine goesL_ (some 94) rfl rfl Try.func32 (by kernel_rfl) rfl #[.slice A0 l0.length c0, .int .i64 1] rfl (by (try simp only [List.map_toArray, List.map_cons, List.map_nil]); first | done | rfl) ?_
  refine (laws_vCut.calls  A0 c0 l0 1 c1 _ (Kd.C_below HR0.out HB.out) HC0.out HF.out.cut1).mono ?_
  rintro e w11 ⟨v_, rfl, ho, hb⟩
  refine ⟨_, rfl, ?_⟩
  obtain ⟨ARC, cRC, e_RC⟩ := Kd.R_slice ho
  subst e_RC
  have nn_ := Aside0.mk (Kd.R_lower ho HB.out.size)
  have nRO_ := Aside0.mk (Kd.R_below RO.out hb)
  have nRF_ := Aside0.mk (Kd.R_below RF.out hb)
  have nRF2_ := Aside0.mk (Kd.R_below RF2.out hb)
  have nRG_ := Aside0.mk (Kd.R_below RG.out hb)
  have nRG2_ := Aside0.mk (Kd.R_below RG2.out hb)
  have nB := Aside0.mk (below_step HB.out hb)
  clear HB hb RO RF RF2 RG RG2 ho
  have HB := nB
  clear nB
  have RO := nRO_
  clear nRO_
  have RF := nRF_
  clear nRF_
  have RF2 := nRF2_
  clear nRF2_
  have RG := nRG_
  clear nRG_
  have RG2 := nRG2_
  clear nRG2_
  have RC := nn_
  clear nn_
  (repeat ((fail_if_success (with_reducible refine gate_dst (N := 95) rfl ?_)); first | go_values | go_skip | go_guarded | go_step | go_upon))
  refine goesL_ (some 95) rfl rfl Try.func31 (by kernel_rfl) rfl #[.slice ARC c1.length cRC] rfl (by (try simp only [List.map_toArray, List.map_cons, List.map_nil]); first | done | rfl) ?_
  refine (spec_DrawHardestOrder.calls  ARC cRC c1 hn _ ((Kd.R_reads' RC.out).2.2) ((Kd.R_reads' RC.out).2.1) HF.out.dh).mono ?_
  rintro e w12 ⟨rfl, hb⟩
  refine ⟨_, rfl, ?_⟩
  have nRO_ := Aside0.mk (Kd.R_below RO.out hb)
  have nRF_ := Aside0.mk (Kd.R_below RF.out hb)
  have nRF2_ := Aside0.mk (Kd.R_below RF2.out hb)
  have nRG_ := Aside0.mk (Kd.R_below RG.out hb)
  have nRG2_ := Aside0.mk (Kd.R_below RG2.out hb)
  have nRC_ := Aside0.mk (Kd.R_below RC.out hb)
  have nB := Aside0.mk (below_step HB.out hb)
  clear HB hb RO RF RF2 RG RG2 RC
  have HB := nB
  clear nB
  have RO := nRO_
  clear nRO_
  have RF := nRF_
  clear nRF_
  have RF2 := nRF2_
  clear nRF2_
  have RG := nRG_
  clear nRG_
  have RG2 := nRG2_
  clear nRG2_
  have RC := nRC_
  clear nRC_
  clear RC
  (repeat ((fail_if_success (with_reducible refine gate_dst (N := 98) rfl ?_)); first | go_values | go_skip | go_guarded | go_step | go_upon))
  refine goesL_ (some 98) rfl rfl Try.func33 (by kernel_rfl) rfl #[.int .i64 hn] rfl (by (try simp only [List.map_toArray, List.map_cons, List.map_nil]); first | done | rfl) ?_
  refine (impl_HardestOrder.calls k hn hard top ho _  HF.out.hoI).mono ?_
  rintro e w13 ⟨v_, rfl, ho, hb⟩
  refine ⟨_, rfl, ?_⟩
  obtain ⟨ARH, cRH, e_RH⟩ := Kd.R_slice ho
  subst e_RH
  have nn_ := Aside0.mk (Kd.R_lower ho HB.out.size)
  have nRO_ := Aside0.mk (Kd.R_below RO.out hb)
  have nRF_ := Aside0.mk (Kd.R_below RF.out hb)
  have nRF2_ := Aside0.mk (Kd.R_below RF2.out hb)
  have nRG_ := Aside0.mk (Kd.R_below RG.out hb)
  have nRG2_ := Aside0.mk (Kd.R_below RG2.out hb)
  have nB := Aside0.mk (below_step HB.out hb)
  clear HB hb RO RF RF2 RG RG2 ho
  have HB := nB
  clear nB
  have RO := nRO_
  clear nRO_
  have RF := nRF_
  clear nRF_
  have RF2 := nRF2_
  clear nRF2_
  have RG := nRG_
  clear nRG_
  have RG2 := nRG2_
  clear nRG2_
  have RH := nn_
  clear nn_
  (repeat ((fail_if_success (with_reducible refine gate_dst (N := 104) rfl ?_)); first | go_values | go_skip | go_guarded | go_step | go_upon))
  refine goesL_ (some 104) rfl rfl Try.func34 (by kernel_rfl) rfl #[.int .i64 hn] rfl (by (try simp only [List.map_toArray, List.map_cons, List.map_nil]); first | done | rfl) ?_
  refine (spec_HardestOrder.calls k hn hard top ho _  HF.out.hoS).mono ?_
  rintro e w14 ⟨v_, rfl, ho, hb⟩
  refine ⟨_, rfl, ?_⟩
  obtain ⟨ARH2, cRH2, e_RH2⟩ := Kd.R_slice ho
  subst e_RH2
  have nn_ := Aside0.mk (Kd.R_lower ho HB.out.size)
  have nRO_ := Aside0.mk (Kd.R_below RO.out hb)
  have nRF_ := Aside0.mk (Kd.R_below RF.out hb)
  have nRF2_ := Aside0.mk (Kd.R_below RF2.out hb)
  have nRG_ := Aside0.mk (Kd.R_below RG.out hb)
  have nRG2_ := Aside0.mk (Kd.R_below RG2.out hb)
  have nRH_ := Aside0.mk (Kd.R_below RH.out hb)
  have nB := Aside0.mk (below_step HB.out hb)
  clear HB hb RO RF RF2 RG RG2 RH ho
  have HB := nB
  clear nB
  have RO := nRO_
  clear nRO_
  have RF := nRF_
  clear nRF_
  have RF2 := nRF2_
  clear nRF2_
  have RG := nRG_
  clear nRG_
  have RG2 := nRG2_
  clear nRG2_
  have RH := nRH_
  clear nRH_
  have RH2 := nn_
  clear nn_
  (repeat ((fail_if_success (with_reducible refine gate_dst (N := 110) rfl ?_)); first | go_values | go_skip | go_guarded | go_step | go_upon))
  refine goesL_ (some 110) rfl rfl Try.func32 (by kernel_rfl) rfl #[.slice A0 l0.length c0, .int .i64 2] rfl (by (try simp only [List.map_toArray, List.map_cons, List.map_nil]); first | done | rfl) ?_
  refine (laws_vCut.calls  A0 c0 l0 2 c2 _ (Kd.C_below HR0.out HB.out) HC0.out HF.out.cut2).mono ?_
  rintro e w15 ⟨v_, rfl, ho, hb⟩
  refine ⟨_, rfl, ?_⟩
  obtain ⟨ARC, cRC, e_RC⟩ := Kd.R_slice ho
  subst e_RC
  have nn_ := Aside0.mk (Kd.R_lower ho HB.out.size)
  have nRO_ := Aside0.mk (Kd.R_below RO.out hb)
  have nRF_ := Aside0.mk (Kd.R_below RF.out hb)
  have nRF2_ := Aside0.mk (Kd.R_below RF2.out hb)
  have nRG_ := Aside0.mk (Kd.R_below RG.out hb)
  have nRG2_ := Aside0.mk (Kd.R_below RG2.out hb)
  have nRH_ := Aside0.mk (Kd.R_below RH.out hb)
  have nRH2_ := Aside0.mk (Kd.R_below RH2.out hb)
  have nB := Aside0.mk (below_step HB.out hb)
  clear HB hb RO RF RF2 RG RG2 RH RH2 ho
  have HB := nB
  clear nB
  have RO := nRO_
  clear nRO_
  have RF := nRF_
  clear nRF_
  have RF2 := nRF2_
  clear nRF2_
  have RG := nRG_
  clear nRG_
  have RG2 := nRG2_
  clear nRG2_
  have RH := nRH_
  clear nRH_
  have RH2 := nRH2_
  clear nRH2_
  have RC := nn_
  clear nn_
  (repeat ((fail_if_success (with_reducible refine gate_dst (N := 111) rfl ?_)); first | go_values | go_skip | go_guarded | go_step | go_upon))
  refine goesL_ (some 111) rfl rfl Try.func35 (by kernel_rfl) rfl #[.slice ARC c2.length cRC] rfl (by (try simp only [List.map_toArray, List.map_cons, List.map_nil]); first | done | rfl) ?_
  refine (spec_DrawCountBeside.calls  ARC cRC c2 bx by_ _ ((Kd.R_reads' RC.out).2.2) ((Kd.R_reads' RC.out).2.1) HF.out.db).mono ?_
  rintro e w16 ⟨rfl, hb⟩
  refine ⟨_, rfl, ?_⟩
  have nRO_ := Aside0.mk (Kd.R_below RO.out hb)
  have nRF_ := Aside0.mk (Kd.R_below RF.out hb)
  have nRF2_ := Aside0.mk (Kd.R_below RF2.out hb)
  have nRG_ := Aside0.mk (Kd.R_below RG.out hb)
  have nRG2_ := Aside0.mk (Kd.R_below RG2.out hb)
  have nRH_ := Aside0.mk (Kd.R_below RH.out hb)
  have nRH2_ := Aside0.mk (Kd.R_below RH2.out hb)
  have nRC_ := Aside0.mk (Kd.R_below RC.out hb)
  have nB := Aside0.mk (below_step HB.out hb)
  clear HB hb RO RF RF2 RG RG2 RH RH2 RC
  have HB := nB
  clear nB
  have RO := nRO_
  clear nRO_
  have RF := nRF_
  clear nRF_
  have RF2 := nRF2_
  clear nRF2_
  have RG := nRG_
  clear nRG_
  have RG2 := nRG2_
  clear nRG2_
  have RH := nRH_
  clear nRH_
  have RH2 := nRH2_
  clear nRH2_
  have RC := nRC_
  clear nRC_
  clear RC
  (repeat ((fail_if_success (with_reducible refine gate_dst (N := 117) rfl ?_)); first | go_values | go_skip | go_guarded | go_step | go_upon))
  refine goesL_ (some 117) rfl rfl Try.func36 (by kernel_rfl) rfl #[.int .i64 bx, .int .i64 by_] rfl (by (try simp only [List.map_toArray, List.map_cons, List.map_nil]); first | done | rfl) ?_
  refine (impl_CountBeside.calls k bx by_ bn bo _  HF.out.cbI).mono ?_
  rintro e w17 ⟨rfl, hb⟩
  refine ⟨_, rfl, ?_⟩
  have nRO_ := Aside0.mk (Kd.R_below RO.out hb)
  have nRF_ := Aside0.mk (Kd.R_below RF.out hb)
  have nRF2_ := Aside0.mk (Kd.R_below RF2.out hb)
  have nRG_ := Aside0.mk (Kd.R_below RG.out hb)
  have nRG2_ := Aside0.mk (Kd.R_below RG2.out hb)
  have nRH_ := Aside0.mk (Kd.R_below RH.out hb)
  have nRH2_ := Aside0.mk (Kd.R_below RH2.out hb)
  have nB := Aside0.mk (below_step HB.out hb)
  clear HB hb RO RF RF2 RG RG2 RH RH2
  have HB := nB
  clear nB
  have RO := nRO_
  clear nRO_
  have RF := nRF_
  clear nRF_
  have RF2 := nRF2_
  clear nRF2_
  have RG := nRG_
  clear nRG_
  have RG2 := nRG2_
  clear nRG2_
  have RH := nRH_
  clear nRH_
  have RH2 := nRH2_
  clear nRH2_
  (repeat ((fail_if_success (with_reducible refine gate_dst (N := 123) rfl ?_)); first | go_values | go_skip | go_guarded | go_step | go_upon))
  refine goesL_ (some 123) rfl rfl Try.func37 (by kernel_rfl) rfl #[.int .i64 bx, .int .i64 by_] rfl (by (try simp only [List.map_toArray, List.map_cons, List.map_nil]); first | done | rfl) ?_
  refine (spec_CountBeside.calls k bx by_ bn bo _  HF.out.cbS).mono ?_
  rintro e w18 ⟨rfl, hb⟩
  refine ⟨_, rfl, ?_⟩
  have nRO_ := Aside0.mk (Kd.R_below RO.out hb)
  have nRF_ := Aside0.mk (Kd.R_below RF.out hb)
  have nRF2_ := Aside0.mk (Kd.R_below RF2.out hb)
  have nRG_ := Aside0.mk (Kd.R_below RG.out hb)
  have nRG2_ := Aside0.mk (Kd.R_below RG2.out hb)
  have nRH_ := Aside0.mk (Kd.R_below RH.out hb)
  have nRH2_ := Aside0.mk (Kd.R_below RH2.out hb)
  have nB := Aside0.mk (below_step HB.out hb)
  clear HB hb RO RF RF2 RG RG2 RH RH2
  have HB := nB
  clear nB
  have RO := nRO_
  clear nRO_
  have RF := nRF_
  clear nRF_
  have RF2 := nRF2_
  clear nRF2_
  have RG := nRG_
  clear nRG_
  have RG2 := nRG2_
  clear nRG2_
  have RH := nRH_
  clear nRH_
  have RH2 := nRH2_
  clear nRH2_
  (repeat ((fail_if_success (with_reducible refine gate_dst (N := 142) rfl ?_)); first | go_values | go_skip | go_guarded | go_step | go_upon))
  try go_guarded
  refine (laws_vInts.calls k ARF cRF first ARF2 cRF2 first true _ ((Kd.R_reads' RF.out).2.2) ((Kd.R_reads' RF.out).2.1) ((Kd.R_reads' RF2.out).2.2) ((Kd.R_reads' RF2.out).2.1) HF.out.eqF).mono ?_
  rintro e w19 ⟨rfl, hdr⟩
  have hb := hdr.below
  clear hdr
  dsimp only
  have nRO_ := Aside0.mk (Kd.R_below RO.out hb)
  have nRF_ := Aside0.mk (Kd.R_below RF.out hb)
  have nRF2_ := Aside0.mk (Kd.R_below RF2.out hb)
  have nRG_ := Aside0.mk (Kd.R_below RG.out hb)
  have nRG2_ := Aside0.mk (Kd.R_below RG2.out hb)
  have nRH_ := Aside0.mk (Kd.R_below RH.out hb)
  have nRH2_ := Aside0.mk (Kd.R_below RH2.out hb)
  have nB := Aside0.mk (below_step HB.out hb)
  clear HB hb RO RF RF2 RG RG2 RH RH2
  have HB := nB
  clear nB
  have RO := nRO_
  clear nRO_
  have RF := nRF_
  clear nRF_
  have RF2 := nRF2_
  clear nRF2_
  have RG := nRG_
  clear nRG_
  have RG2 := nRG2_
  clear nRG2_
  have RH := nRH_
  clear nRH_
  have RH2 := nRH2_
  clear nRH2_
  clear RF2
  (repeat ((fail_if_success (with_reducible refine gate_dst (N := 153) rfl ?_)); first | go_values | go_skip | go_guarded | go_step | go_upon))
  try go_guarded
  refine (laws_vInts.calls k ARG cRG greedy ARG2 cRG2 greedy true _ ((Kd.R_reads' RG.out).2.2) ((Kd.R_reads' RG.out).2.1) ((Kd.R_reads' RG2.out).2.2) ((Kd.R_reads' RG2.out).2.1) HF.out.eqG).mono ?_
  rintro e w20 ⟨rfl, hdr⟩
  have hb := hdr.below
  clear hdr
  dsimp only
  have nRO_ := Aside0.mk (Kd.R_below RO.out hb)
  have nRF_ := Aside0.mk (Kd.R_below RF.out hb)
  have nRG_ := Aside0.mk (Kd.R_below RG.out hb)
  have nRG2_ := Aside0.mk (Kd.R_below RG2.out hb)
  have nRH_ := Aside0.mk (Kd.R_below RH.out hb)
  have nRH2_ := Aside0.mk (Kd.R_below RH2.out hb)
  have nB := Aside0.mk (below_step HB.out hb)
  clear HB hb RO RF RG RG2 RH RH2
  have HB := nB
  clear nB
  have RO := nRO_
  clear nRO_
  have RF := nRF_
  clear nRF_
  have RG := nRG_
  clear nRG_
  have RG2 := nRG2_
  clear nRG2_
  have RH := nRH_
  clear nRH_
  have RH2 := nRH2_
  clear nRH2_
  clear RG2
  (repeat ((fail_if_success (with_reducible refine gate_dst (N := 179) rfl ?_)); first | go_values | go_skip | go_guarded | go_step | go_upon))
  try go_guarded
  refine (laws_vInts.calls k ARH cRH hard ARH2 cRH2 hard true _ ((Kd.R_reads' RH.out).2.2) ((Kd.R_reads' RH.out).2.1) ((Kd.R_reads' RH2.out).2.2) ((Kd.R_reads' RH2.out).2.1) HF.out.eqH).mono ?_
  rintro e w21 ⟨rfl, hdr⟩
  have hb := hdr.below
  clear hdr
  dsimp only
  have nRO_ := Aside0.mk (Kd.R_below RO.out hb)
  have nRF_ := Aside0.mk (Kd.R_below RF.out hb)
  have nRG_ := Aside0.mk (Kd.R_below RG.out hb)
  have nRH_ := Aside0.mk (Kd.R_below RH.out hb)
  have nRH2_ := Aside0.mk (Kd.R_below RH2.out hb)
  have nB := Aside0.mk (below_step HB.out hb)
  clear HB hb RO RF RG RH RH2
  have HB := nB
  clear nB
  have RO := nRO_
  clear nRO_
  have RF := nRF_
  clear nRF_
  have RG := nRG_
  clear nRG_
  have RH := nRH_
  clear nRH_
  have RH2 := nRH2_
  clear nRH2_
  clear RH2
  (repeat ((fail_if_success (with_reducible refine gate_dst (N := 195) rfl ?_)); first | go_values | go_skip | go_guarded | go_step | go_upon))
  refine guard_any (N := 195) (c := co) (v := .bool fewOk) ?hw rfl ?hr ?_
  case hw => cases co <;> rfl
  case hr => intro _; first | (go_simp; done) | (go_simp; rfl)
  intro x195 hx195
  simp only [Act.put, List.setIfInBounds_toArray, List.set_cons_zero, List.set_cons_succ]
  refine guard_any (N := 196) (c := co) (v := .bool (!fewOk)) ?hw rfl ?hr ?_
  case hw => cases co <;> rfl
  case hr => intro h_; have h2_ := hx195 h_; subst h2_; first | (go_simp; done) | (go_simp; rfl)
  intro x196 hx196
  simp only [Act.put, List.setIfInBounds_toArray, List.set_cons_zero, List.set_cons_succ]
  refine guard_any (N := 197) (c := true) (v := .bool false) ?hw rfl ?hr ?_
  case hw => rfl
  case hr =>
    intro _
    cases hc_ : co
    · first | (go_simp; done) | (go_simp; rfl)
    · have h3_ : x196 = .bool false := (hx196 hc_).trans (by rw [HF.out.okC hc_]; rfl)
      subst h3_
      first | (go_simp; done) | (go_simp; rfl)
  intro x_ hx_
  obtain rfl := hx_ rfl
  simp only [Act.put, List.setIfInBounds_toArray, List.set_cons_zero, List.set_cons_succ]
  (repeat ((fail_if_success (with_reducible refine gate_dst (N := 202) rfl ?_)); first | go_values | go_skip | go_guarded | go_step | go_upon))
  refine guard_any (N := 202) (c := fo) (v := .bool fewOk) ?hw rfl ?hr ?_
  case hw => cases fo <;> rfl
  case hr => intro _; first | (go_simp; done) | (go_simp; rfl)
  intro x202 hx202
  simp only [Act.put, List.setIfInBounds_toArray, List.set_cons_zero, List.set_cons_succ]
  refine guard_any (N := 203) (c := fo) (v := .bool (!fewOk)) ?hw rfl ?hr ?_
  case hw => cases fo <;> rfl
  case hr => intro h_; have h2_ := hx202 h_; subst h2_; first | (go_simp; done) | (go_simp; rfl)
  intro x203 hx203
  simp only [Act.put, List.setIfInBounds_toArray, List.set_cons_zero, List.set_cons_succ]
  refine guard_any (N := 204) (c := true) (v := .bool false) ?hw rfl ?hr ?_
  case hw => rfl
  case hr =>
    intro _
    cases hc_ : fo
    · first | (go_simp; done) | (go_simp; rfl)
    · have h3_ : x203 = .bool false := (hx203 hc_).trans (by rw [HF.out.okF hc_]; rfl)
      subst h3_
      first | (go_simp; done) | (go_simp; rfl)
  intro x_ hx_
  obtain rfl := hx_ rfl
  simp only [Act.put, List.setIfInBounds_toArray, List.set_cons_zero, List.set_cons_succ]
  (repeat ((fail_if_success (with_reducible refine gate_dst (N := 209) rfl ?_)); first | go_values | go_skip | go_guarded | go_step | go_upon))
  refine guard_any (N := 209) (c := go) (v := .bool fewOk) ?hw rfl ?hr ?_
  case hw => cases go <;> rfl
  case hr => intro _; first | (go_simp; done) | (go_simp; rfl)
  intro x209 hx209
  simp only [Act.put, List.setIfInBounds_toArray, List.set_cons_zero, List.set_cons_succ]
  refine guard_any (N := 210) (c := go) (v := .bool (!fewOk)) ?hw rfl ?hr ?_
  case hw => cases go <;> rfl
  case hr => intro h_; have h2_ := hx209 h_; subst h2_; first | (go_simp; done) | (go_simp; rfl)
  intro x210 hx210
  simp only [Act.put, List.setIfInBounds_toArray, List.set_cons_zero, List.set_cons_succ]
  refine guard_any (N := 211) (c := true) (v := .bool false) ?hw rfl ?hr ?_
  case hw => rfl
  case hr =>
    intro _
    cases hc_ : go
    · first | (go_simp; done) | (go_simp; rfl)
    · have h3_ : x210 = .bool false := (hx210 hc_).trans (by rw [HF.out.okG hc_]; rfl)
      subst h3_
      first | (go_simp; done) | (go_simp; rfl)
  intro x_ hx_
  obtain rfl := hx_ rfl
  simp only [Act.put, List.setIfInBounds_toArray, List.set_cons_zero, List.set_cons_succ]
  (repeat ((fail_if_success (with_reducible refine gate_dst (N := 213) rfl ?_)); first | go_values | go_skip | go_guarded | go_step | go_upon))
  cases fo with
  | false =>
    cases go with
    | false =>
      cases co
      case' true =>
        obtain ⟨q_, hq_⟩ : ∃ q : Bool, decide (0 < cnt) = q := ⟨_, rfl⟩
        have hq2_ : decide (few ≤ kk) = q_ := by rw [← hq_]; exact decide_eq_decide.2 (HF.out.pos rfl).symm
        have hq3_ : (q_ != q_) = false := bne_self_eq_false q_
      all_goals
        (repeat ((fail_if_success (with_reducible refine gate_dst (N := 278) rfl ?_)); first | go_values | go_skip | go_guarded | go_step | go_upon))
        cases ho with
        | false =>
          (repeat ((fail_if_success (with_reducible refine gate_dst (N := 297) rfl ?_)); first | go_values | go_skip | go_guarded | go_step | go_upon))
          cases bo with
          | false =>
            go_wp2
            go_ret
            exact ⟨rfl, HB.out⟩
          | true =>
            by_cases hby : 1 < by_
            · skip
              have d1 : decide (1 < by_) = true := decide_eq_true hby
              have HBE := Aside0.mk (HF.out.bes rfl hby)
              clear hby
              have d2 : decide (bn2 ≤ bn) = true := decide_eq_true HBE.out.2
              (repeat ((fail_if_success (with_reducible refine gate_dst (N := 306) rfl ?_)); first | go_values | go_skip | go_guarded | go_step | go_upon))
              refine goesL_ (some 306) rfl rfl Try.func36 (by kernel_rfl) rfl #[.int .i64 bx, .int .i64 (wrap64 (by_ - 1))] rfl (by (try simp only [List.map_toArray, List.map_cons, List.map_nil]); first | done | rfl) ?_
              refine (impl_CountBeside.calls k bx (wrap64 (by_ - 1)) bn2 true _  HBE.out.1).mono ?_
              rintro e w22 ⟨rfl, hb⟩
              refine ⟨_, rfl, ?_⟩
              have nRO_ := Aside0.mk (Kd.R_below RO.out hb)
              have nRF_ := Aside0.mk (Kd.R_below RF.out hb)
              have nRG_ := Aside0.mk (Kd.R_below RG.out hb)
              have nRH_ := Aside0.mk (Kd.R_below RH.out hb)
              have nB := Aside0.mk (below_step HB.out hb)
              clear HB hb RO RF RG RH
              have HB := nB
              clear nB
              have RO := nRO_
              clear nRO_
              have RF := nRF_
              clear nRF_
              have RG := nRG_
              clear nRG_
              have RH := nRH_
              clear nRH_
              go_wp2
              go_ret
              exact ⟨rfl, HB.out⟩
            · skip
              have d1 : decide (1 < by_) = false := decide_eq_false hby
              clear hby
              go_wp2
              go_ret
              exact ⟨rfl, HB.out⟩
        | true =>
          have HH := Aside0.mk (HF.out.hrd rfl)
          have h1 : ((hard.length : Int) != hn) = false := by rw [HH.out.2]; exact bne_self_eq_false hn
          (repeat ((fail_if_success (with_reducible refine gate_dst (N := 281) rfl ?_)); first | go_values | go_skip | go_guarded | go_step | go_upon))
          refine goesL_ (some 281) rfl rfl Try.func23 (by kernel_rfl) rfl #[.slice ARH hard.length cRH] rfl (by (try simp only [List.map_toArray, List.map_cons, List.map_nil]); first | done | rfl) ?_
          refine (impl_FewestStacks.calls k ARH cRH hard top true _ ((Kd.R_reads' RH.out).2.2) ((Kd.R_reads' RH.out).2.1) HH.out.1).mono ?_
          rintro e w22 ⟨rfl, hb⟩
          refine ⟨_, rfl, ?_⟩
          have nRO_ := Aside0.mk (Kd.R_below RO.out hb)
          have nRF_ := Aside0.mk (Kd.R_below RF.out hb)
          have nRG_ := Aside0.mk (Kd.R_below RG.out hb)
          have nRH_ := Aside0.mk (Kd.R_below RH.out hb)
          have nB := Aside0.mk (below_step HB.out hb)
          clear HB hb RO RF RG RH
          have HB := nB
          clear nB
          have RO := nRO_
          clear nRO_
          have RF := nRF_
          clear nRF_
          have RG := nRG_
          clear nRG_
          have RH := nRH_
          clear nRH_
          (repeat ((fail_if_success (with_reducible refine gate_dst (N := 297) rfl ?_)); first | go_values | go_skip | go_guarded | go_step | go_upon))
          cases bo with
          | false =>
            go_wp2
            go_ret
            exact ⟨rfl, HB.out⟩
          | true =>
            by_cases hby : 1 < by_
            · skip
              have d1 : decide (1 < by_) = true := decide_eq_true hby
              have HBE := Aside0.mk (HF.out.bes rfl hby)
              clear hby
              have d2 : decide (bn2 ≤ bn) = true := decide_eq_true HBE.out.2
              (repeat ((fail_if_success (with_reducible refine gate_dst (N := 306) rfl ?_)); first | go_values | go_skip | go_guarded | go_step | go_upon))
              refine goesL_ (some 306) rfl rfl Try.func36 (by kernel_rfl) rfl #[.int .i64 bx, .int .i64 (wrap64 (by_ - 1))] rfl (by (try simp only [List.map_toArray, List.map_cons, List.map_nil]); first | done | rfl) ?_
              refine (impl_CountBeside.calls k bx (wrap64 (by_ - 1)) bn2 true _  HBE.out.1).mono ?_
              rintro e w23 ⟨rfl, hb⟩
              refine ⟨_, rfl, ?_⟩
              have nRO_ := Aside0.mk (Kd.R_below RO.out hb)
              have nRF_ := Aside0.mk (Kd.R_below RF.out hb)
              have nRG_ := Aside0.mk (Kd.R_below RG.out hb)
              have nRH_ := Aside0.mk (Kd.R_below RH.out hb)
              have nB := Aside0.mk (below_step HB.out hb)
              clear HB hb RO RF RG RH
              have HB := nB
              clear nB
              have RO := nRO_
              clear nRO_
              have RF := nRF_
              clear nRF_
              have RG := nRG_
              clear nRG_
              have RH := nRH_
              clear nRH_
              go_wp2
              go_ret
              exact ⟨rfl, HB.out⟩
            · skip
              have d1 : decide (1 < by_) = false := decide_eq_false hby
              clear hby
              go_wp2
              go_ret
              exact ⟨rfl, HB.out⟩
    | true =>
      have HG := Aside0.mk (HF.out.g0 rfl)
      have p0_ : (0 < greedy.length) = True := eq_true HG.out.1
      (repeat ((fail_if_success (with_reducible refine gate_dst (N := 254) rfl ?_)); first | go_values | go_skip | go_guarded | go_step | go_upon))
      refine goesL_ (some 254) rfl rfl Try.func7 (by kernel_rfl) rfl #[.slice ARO o.length cRO, .slice ARG greedy.length cRG] rfl (by (try simp only [List.map_toArray, List.map_cons, List.map_nil]); first | done | rfl) ?_
      refine (impl_FitsSharing.calls k ARO cRO o ARG cRG greedy true true _ ((Kd.R_reads' RO.out).2.2) ((Kd.R_reads' RO.out).2.1) ((Kd.R_reads' RG.out).2.2) ((Kd.R_reads' RG.out).2.1) (HF.out.fitG rfl)).mono ?_
      rintro e w22 ⟨rfl, hb⟩
      refine ⟨_, rfl, ?_⟩
      have nRO_ := Aside0.mk (Kd.R_below RO.out hb)
      have nRF_ := Aside0.mk (Kd.R_below RF.out hb)
      have nRG_ := Aside0.mk (Kd.R_below RG.out hb)
      have nRH_ := Aside0.mk (Kd.R_below RH.out hb)
      have nB := Aside0.mk (below_step HB.out hb)
      clear HB hb RO RF RG RH
      have HB := nB
      clear nB
      have RO := nRO_
      clear nRO_
      have RF := nRF_
      clear nRF_
      have RG := nRG_
      clear nRG_
      have RH := nRH_
      clear nRH_
      obtain ⟨ag, eg_, xg_⟩ : ∃ ad, ARG = some ad ∧ w22.cell? (ad.add 0) = some (.int .i64 0) := by
        obtain ⟨ad, e_, hc_⟩ := Kd.at_int (Kd.R_reads' RG.out).2.2 0 (by omega) (by have := HG.out.1; omega)
        rw [HG.out.2] at hc_
        exact ⟨ad, e_, hc_⟩
      subst eg_
      have xg2_ : w22.cell? ag = some (.int .i64 0) := by simpa [Addr.add] using xg_
      cases co
      case' true =>
        obtain ⟨q_, hq_⟩ : ∃ q : Bool, decide (0 < cnt) = q := ⟨_, rfl⟩
        have hq2_ : decide (few ≤ kk) = q_ := by rw [← hq_]; exact decide_eq_decide.2 (HF.out.pos rfl).symm
        have hq3_ : (q_ != q_) = false := bne_self_eq_false q_
      all_goals
        (repeat ((fail_if_success (with_reducible refine gate_dst (N := 278) rfl ?_)); first | go_values | go_skip | go_guarded | go_step | go_upon))
        cases ho with
        | false =>
          (repeat ((fail_if_success (with_reducible refine gate_dst (N := 297) rfl ?_)); first | go_values | go_skip | go_guarded | go_step | go_upon))
          cases bo with
          | false =>
            go_wp2
            go_ret
            exact ⟨rfl, HB.out⟩
          | true =>
            by_cases hby : 1 < by_
            · skip
              have d1 : decide (1 < by_) = true := decide_eq_true hby
              have HBE := Aside0.mk (HF.out.bes rfl hby)
              clear hby
              have d2 : decide (bn2 ≤ bn) = true := decide_eq_true HBE.out.2
              (repeat ((fail_if_success (with_reducible refine gate_dst (N := 306) rfl ?_)); first | go_values | go_skip | go_guarded | go_step | go_upon))
              refine goesL_ (some 306) rfl rfl Try.func36 (by kernel_rfl) rfl #[.int .i64 bx, .int .i64 (wrap64 (by_ - 1))] rfl (by (try simp only [List.map_toArray, List.map_cons, List.map_nil]); first | done | rfl) ?_
              refine (impl_CountBeside.calls k bx (wrap64 (by_ - 1)) bn2 true _  HBE.out.1).mono ?_
              rintro e w23 ⟨rfl, hb⟩
              refine ⟨_, rfl, ?_⟩
              have nRO_ := Aside0.mk (Kd.R_below RO.out hb)
              have nRF_ := Aside0.mk (Kd.R_below RF.out hb)
              have nRG_ := Aside0.mk (Kd.R_below RG.out hb)
              have nRH_ := Aside0.mk (Kd.R_below RH.out hb)
              have nB := Aside0.mk (below_step HB.out hb)
              clear HB hb RO RF RG RH
              have HB := nB
              clear nB
              have RO := nRO_
              clear nRO_
              have RF := nRF_
              clear nRF_
              have RG := nRG_
              clear nRG_
              have RH := nRH_
              clear nRH_
              go_wp2
              go_ret
              exact ⟨rfl, HB.out⟩
            · skip
              have d1 : decide (1 < by_) = false := decide_eq_false hby
              clear hby
              go_wp2
              go_ret
              exact ⟨rfl, HB.out⟩
        | true =>
          have HH := Aside0.mk (HF.out.hrd rfl)
          have h1 : ((hard.length : Int) != hn) = false := by rw [HH.out.2]; exact bne_self_eq_false hn
          (repeat ((fail_if_success (with_reducible refine gate_dst (N := 281) rfl ?_)); first | go_values | go_skip | go_guarded | go_step | go_upon))
          refine goesL_ (some 281) rfl rfl Try.func23 (by kernel_rfl) rfl #[.slice ARH hard.length cRH] rfl (by (try simp only [List.map_toArray, List.map_cons, List.map_nil]); first | done | rfl) ?_
          refine (impl_FewestStacks.calls k ARH cRH hard top true _ ((Kd.R_reads' RH.out).2.2) ((Kd.R_reads' RH.out).2.1) HH.out.1).mono ?_
          rintro e w23 ⟨rfl, hb⟩
          refine ⟨_, rfl, ?_⟩
          have nRO_ := Aside0.mk (Kd.R_below RO.out hb)
          have nRF_ := Aside0.mk (Kd.R_below RF.out hb)
          have nRG_ := Aside0.mk (Kd.R_below RG.out hb)
          have nRH_ := Aside0.mk (Kd.R_below RH.out hb)
          have nB := Aside0.mk (below_step HB.out hb)
          clear HB hb RO RF RG RH
          have HB := nB
          clear nB
          have RO := nRO_
          clear nRO_
          have RF := nRF_
          clear nRF_
          have RG := nRG_
          clear nRG_
          have RH := nRH_
          clear nRH_
          (repeat ((fail_if_success (with_reducible refine gate_dst (N := 297) rfl ?_)); first | go_values | go_skip | go_guarded | go_step | go_upon))
          cases bo with
          | false =>
            go_wp2
            go_ret
            exact ⟨rfl, HB.out⟩
          | true =>
            by_cases hby : 1 < by_
            · skip
              have d1 : decide (1 < by_) = true := decide_eq_true hby
              have HBE := Aside0.mk (HF.out.bes rfl hby)
              clear hby
              have d2 : decide (bn2 ≤ bn) = true := decide_eq_true HBE.out.2
              (repeat ((fail_if_success (with_reducible refine gate_dst (N := 306) rfl ?_)); first | go_values | go_skip | go_guarded | go_step | go_upon))
              refine goesL_ (some 306) rfl rfl Try.func36 (by kernel_rfl) rfl #[.int .i64 bx, .int .i64 (wrap64 (by_ - 1))] rfl (by (try simp only [List.map_toArray, List.map_cons, List.map_nil]); first | done | rfl) ?_
              refine (impl_CountBeside.calls k bx (wrap64 (by_ - 1)) bn2 true _  HBE.out.1).mono ?_
              rintro e w24 ⟨rfl, hb⟩
              refine ⟨_, rfl, ?_⟩
              have nRO_ := Aside0.mk (Kd.R_below RO.out hb)
              have nRF_ := Aside0.mk (Kd.R_below RF.out hb)
              have nRG_ := Aside0.mk (Kd.R_below RG.out hb)
              have nRH_ := Aside0.mk (Kd.R_below RH.out hb)
              have nB := Aside0.mk (below_step HB.out hb)
              clear HB hb RO RF RG RH
              have HB := nB
              clear nB
              have RO := nRO_
              clear nRO_
              have RF := nRF_
              clear nRF_
              have RG := nRG_
              clear nRG_
              have RH := nRH_
              clear nRH_
              go_wp2
              go_ret
              exact ⟨rfl, HB.out⟩
            · skip
              have d1 : decide (1 < by_) = false := decide_eq_false hby
              clear hby
              go_wp2
              go_ret
              exact ⟨rfl, HB.out⟩
  | true =>
    cases go with
    | false =>
      have f4_ : decide (4 < few) = false := decide_eq_false (by have := HF.out.four rfl; omega)
      (repeat ((fail_if_success (with_reducible refine gate_dst (N := 217) rfl ?_)); first | go_values | go_skip | go_guarded | go_step | go_upon))
      refine goesL_ (some 217) rfl rfl Try.func7 (by kernel_rfl) rfl #[.slice ARO o.length cRO, .slice ARF first.length cRF] rfl (by (try simp only [List.map_toArray, List.map_cons, List.map_nil]); first | done | rfl) ?_
      refine (impl_FitsSharing.calls k ARO cRO o ARF cRF first true true _ ((Kd.R_reads' RO.out).2.2) ((Kd.R_reads' RO.out).2.1) ((Kd.R_reads' RF.out).2.2) ((Kd.R_reads' RF.out).2.1) (HF.out.fitF rfl)).mono ?_
      rintro e w22 ⟨rfl, hb⟩
      refine ⟨_, rfl, ?_⟩
      have nRO_ := Aside0.mk (Kd.R_below RO.out hb)
      have nRF_ := Aside0.mk (Kd.R_below RF.out hb)
      have nRG_ := Aside0.mk (Kd.R_below RG.out hb)
      have nRH_ := Aside0.mk (Kd.R_below RH.out hb)
      have nB := Aside0.mk (below_step HB.out hb)
      clear HB hb RO RF RG RH
      have HB := nB
      clear nB
      have RO := nRO_
      clear nRO_
      have RF := nRF_
      clear nRF_
      have RG := nRG_
      clear nRG_
      have RH := nRH_
      clear nRH_
      obtain ⟨fw, hfw⟩ : ∃ x : Int, wrap64 (few - 1) = x := ⟨_, rfl⟩
      have hfq : (fw != fw) = false := bne_self_eq_false fw
      have HM := Aside0.mk ((HF.out.most rfl).trans hfw)
      go_wp2
      go_loopg [36, 37] first.length (fun kq v36 v37 w' => ∃ (i : Nat) (m : Int), v36 = .int .i64 m ∧ v37 = .int .i64 (i : Int) ∧ Aside0 (i + kq = first.length) ∧ Aside0 (hiM (first.drop i) m = fw) ∧ Aside0 (Below w.heap.size w w') ∧ Aside0 (Kd.R (Kd.int .i64) 3 w' w.heap.size (fun _ => True) (.slice ARO o.length cRO) o) ∧ Aside0 (Kd.R (Kd.int .i64) 3 w' w.heap.size (fun _ => True) (.slice ARF first.length cRF) first) ∧ Aside0 (Kd.R (Kd.int .i64) 3 w' w.heap.size (fun _ => True) (.slice ARG greedy.length cRG) greedy) ∧ Aside0 (Kd.R (Kd.int .i64) 3 w' w.heap.size (fun _ => True) (.slice ARH hard.length cRH) hard))
      case atStart => exact ⟨0, 0, rfl, rfl, ⟨by omega⟩, ⟨by simpa using HM.out⟩, HB, RO, RF, RG, RH⟩
      case round =>
        clear HM HB RO RF RG RH
        obtain ⟨i, m, rfl, rfl, HI, HM, HB, RO, RF, RG, RH⟩ := hrel
        cases gk with
        | zero =>
          have c1 : decide (i < first.length) = false := decide_eq_false (by have := HI.out; omega)
          have c1b : decide ((i : Int) < (first.length : Int)) = false := decide_eq_false (by have := HI.out; omega)
          have hm_ : m = fw := by have h_ := HM.out; rw [List.drop_eq_nil_of_le (by have := HI.out; omega)] at h_; exact h_
          subst hm_
          obtain ⟨w99, hw99⟩ : ∃ w', w' = wr := ⟨_, rfl⟩
          subst hw99
          clear HM HI
          cases co
          case' true =>
            obtain ⟨q_, hq_⟩ : ∃ q : Bool, decide (0 < cnt) = q := ⟨_, rfl⟩
            have hq2_ : decide (few ≤ kk) = q_ := by rw [← hq_]; exact decide_eq_decide.2 (HF.out.pos rfl).symm
            have hq3_ : (q_ != q_) = false := bne_self_eq_false q_
          all_goals
            (repeat ((fail_if_success (with_reducible refine gate_dst (N := 278) rfl ?_)); first | go_values | go_skip | go_guarded | go_step | go_upon))
            cases ho with
            | false =>
              (repeat ((fail_if_success (with_reducible refine gate_dst (N := 297) rfl ?_)); first | go_values | go_skip | go_guarded | go_step | go_upon))
              cases bo with
              | false =>
                go_wp2
                go_ret
                exact ⟨rfl, HB.out⟩
              | true =>
                by_cases hby : 1 < by_
                · skip
                  have d1 : decide (1 < by_) = true := decide_eq_true hby
                  have HBE := Aside0.mk (HF.out.bes rfl hby)
                  clear hby
                  have d2 : decide (bn2 ≤ bn) = true := decide_eq_true HBE.out.2
                  (repeat ((fail_if_success (with_reducible refine gate_dst (N := 306) rfl ?_)); first | go_values | go_skip | go_guarded | go_step | go_upon))
                  refine goesL_ (some 306) rfl rfl Try.func36 (by kernel_rfl) rfl #[.int .i64 bx, .int .i64 (wrap64 (by_ - 1))] rfl (by (try simp only [List.map_toArray, List.map_cons, List.map_nil]); first | done | rfl) ?_
                  refine (impl_CountBeside.calls k bx (wrap64 (by_ - 1)) bn2 true _  HBE.out.1).mono ?_
                  rintro e w100 ⟨rfl, hb⟩
                  refine ⟨_, rfl, ?_⟩
                  have nRO_ := Aside0.mk (Kd.R_below RO.out hb)
                  have nRF_ := Aside0.mk (Kd.R_below RF.out hb)
                  have nRG_ := Aside0.mk (Kd.R_below RG.out hb)
                  have nRH_ := Aside0.mk (Kd.R_below RH.out hb)
                  have nB := Aside0.mk (below_step HB.out hb)
                  clear HB hb RO RF RG RH
                  have HB := nB
                  clear nB
                  have RO := nRO_
                  clear nRO_
                  have RF := nRF_
                  clear nRF_
                  have RG := nRG_
                  clear nRG_
                  have RH := nRH_
                  clear nRH_
                  go_wp2
                  go_ret
                  exact ⟨rfl, HB.out⟩
                · skip
                  have d1 : decide (1 < by_) = false := decide_eq_false hby
                  clear hby
                  go_wp2
                  go_ret
                  exact ⟨rfl, HB.out⟩
            | true =>
              have HH := Aside0.mk (HF.out.hrd rfl)
              have h1 : ((hard.length : Int) != hn) = false := by rw [HH.out.2]; exact bne_self_eq_false hn
              (repeat ((fail_if_success (with_reducible refine gate_dst (N := 281) rfl ?_)); first | go_values | go_skip | go_guarded | go_step | go_upon))
              refine goesL_ (some 281) rfl rfl Try.func23 (by kernel_rfl) rfl #[.slice ARH hard.length cRH] rfl (by (try simp only [List.map_toArray, List.map_cons, List.map_nil]); first | done | rfl) ?_
              refine (impl_FewestStacks.calls k ARH cRH hard top true _ ((Kd.R_reads' RH.out).2.2) ((Kd.R_reads' RH.out).2.1) HH.out.1).mono ?_
              rintro e w100 ⟨rfl, hb⟩
              refine ⟨_, rfl, ?_⟩
              have nRO_ := Aside0.mk (Kd.R_below RO.out hb)
              have nRF_ := Aside0.mk (Kd.R_below RF.out hb)
              have nRG_ := Aside0.mk (Kd.R_below RG.out hb)
              have nRH_ := Aside0.mk (Kd.R_below RH.out hb)
              have nB := Aside0.mk (below_step HB.out hb)
              clear HB hb RO RF RG RH
              have HB := nB
              clear nB
              have RO := nRO_
              clear nRO_
              have RF := nRF_
              clear nRF_
              have RG := nRG_
              clear nRG_
              have RH := nRH_
              clear nRH_
              (repeat ((fail_if_success (with_reducible refine gate_dst (N := 297) rfl ?_)); first | go_values | go_skip | go_guarded | go_step | go_upon))
              cases bo with
              | false =>
                go_wp2
                go_ret
                exact ⟨rfl, HB.out⟩
              | true =>
                by_cases hby : 1 < by_
                · skip
                  have d1 : decide (1 < by_) = true := decide_eq_true hby
                  have HBE := Aside0.mk (HF.out.bes rfl hby)
                  clear hby
                  have d2 : decide (bn2 ≤ bn) = true := decide_eq_true HBE.out.2
                  (repeat ((fail_if_success (with_reducible refine gate_dst (N := 306) rfl ?_)); first | go_values | go_skip | go_guarded | go_step | go_upon))
                  refine goesL_ (some 306) rfl rfl Try.func36 (by kernel_rfl) rfl #[.int .i64 bx, .int .i64 (wrap64 (by_ - 1))] rfl (by (try simp only [List.map_toArray, List.map_cons, List.map_nil]); first | done | rfl) ?_
                  refine (impl_CountBeside.calls k bx (wrap64 (by_ - 1)) bn2 true _  HBE.out.1).mono ?_
                  rintro e w101 ⟨rfl, hb⟩
                  refine ⟨_, rfl, ?_⟩
                  have nRO_ := Aside0.mk (Kd.R_below RO.out hb)
                  have nRF_ := Aside0.mk (Kd.R_below RF.out hb)
                  have nRG_ := Aside0.mk (Kd.R_below RG.out hb)
                  have nRH_ := Aside0.mk (Kd.R_below RH.out hb)
                  have nB := Aside0.mk (below_step HB.out hb)
                  clear HB hb RO RF RG RH
                  have HB := nB
                  clear nB
                  have RO := nRO_
                  clear nRO_
                  have RF := nRF_
                  clear nRF_
                  have RG := nRG_
                  clear nRG_
                  have RH := nRH_
                  clear nRH_
                  go_wp2
                  go_ret
                  exact ⟨rfl, HB.out⟩
                · skip
                  have d1 : decide (1 < by_) = false := decide_eq_false hby
                  clear hby
                  go_wp2
                  go_ret
                  exact ⟨rfl, HB.out⟩
        | succ d =>
          have c1 : decide (i < first.length) = true := decide_eq_true (by have := HI.out; omega)
          have c1b : decide ((i : Int) < (first.length : Int)) = true := decide_eq_true (by have := HI.out; omega)
          have p1 : (i < first.length) = True := eq_true (by have := HI.out; omega)
          have zi := wup_s i (by have h1_ := HI.out; have h2_ := HF.out.lenF; omega)
          obtain ⟨nn, hnn⟩ : ∃ n : Int, rd first (i : Int) = n := ⟨_, rfl⟩
          obtain ⟨af, ef_, xf_⟩ : ∃ ad, ARF = some ad ∧ wr.cell? (ad.add i) = some (.int .i64 nn) := by
            obtain ⟨ad, e_, hc_⟩ := Kd.at_int (Kd.R_reads' RF.out).2.2 (i : Int) (by omega) (by have := HI.out; omega)
            rw [hnn, Int.toNat_natCast] at hc_
            exact ⟨ad, e_, hc_⟩
          subst ef_
          have hd_ : hiM (first.drop (i + 1)) (if m < nn then nn else m) = fw := by
            have h_ := HM.out
            rw [List.drop_eq_getElem_cons (by have := HI.out; omega), hiM, show first[i]'(by have := HI.out; omega) = nn from by rw [← hnn, rd, Int.toNat_natCast, List.getD_eq_getElem?_getD, List.getElem?_eq_getElem (by have := HI.out; omega)]; rfl] at h_
            exact h_
          by_cases hx : m < nn
          · skip
            rw [if_pos hx] at hd_
            have c2 : decide (m < nn) = true := decide_eq_true hx
            go_wp2
            go_roundg d
            case measure => omega
            case rel => exact ⟨i + 1, nn, rfl, (by first | rfl | rw [zi]), ⟨by have := HI.out; omega⟩, ⟨hd_⟩, HB, RO, RF, RG, RH⟩
          · skip
            rw [if_neg hx] at hd_
            have c2 : decide (m < nn) = false := decide_eq_false hx
            go_wp2
            go_roundg d
            case measure => omega
            case rel => exact ⟨i + 1, m, rfl, (by first | rfl | rw [zi]), ⟨by have := HI.out; omega⟩, ⟨hd_⟩, HB, RO, RF, RG, RH⟩
    | true =>
      have f4_ : decide (4 < few) = false := decide_eq_false (by have := HF.out.four rfl; omega)
      (repeat ((fail_if_success (with_reducible refine gate_dst (N := 217) rfl ?_)); first | go_values | go_skip | go_guarded | go_step | go_upon))
      refine goesL_ (some 217) rfl rfl Try.func7 (by kernel_rfl) rfl #[.slice ARO o.length cRO, .slice ARF first.length cRF] rfl (by (try simp only [List.map_toArray, List.map_cons, List.map_nil]); first | done | rfl) ?_
      refine (impl_FitsSharing.calls k ARO cRO o ARF cRF first true true _ ((Kd.R_reads' RO.out).2.2) ((Kd.R_reads' RO.out).2.1) ((Kd.R_reads' RF.out).2.2) ((Kd.R_reads' RF.out).2.1) (HF.out.fitF rfl)).mono ?_
      rintro e w22 ⟨rfl, hb⟩
      refine ⟨_, rfl, ?_⟩
      have nRO_ := Aside0.mk (Kd.R_below RO.out hb)
      have nRF_ := Aside0.mk (Kd.R_below RF.out hb)
      have nRG_ := Aside0.mk (Kd.R_below RG.out hb)
      have nRH_ := Aside0.mk (Kd.R_below RH.out hb)
      have nB := Aside0.mk (below_step HB.out hb)
      clear HB hb RO RF RG RH
      have HB := nB
      clear nB
      have RO := nRO_
      clear nRO_
      have RF := nRF_
      clear nRF_
      have RG := nRG_
      clear nRG_
      have RH := nRH_
      clear nRH_
      obtain ⟨fw, hfw⟩ : ∃ x : Int, wrap64 (few - 1) = x := ⟨_, rfl⟩
      have hfq : (fw != fw) = false := bne_self_eq_false fw
      have HM := Aside0.mk ((HF.out.most rfl).trans hfw)
      go_wp2
      go_loopg [36, 37] first.length (fun kq v36 v37 w' => ∃ (i : Nat) (m : Int), v36 = .int .i64 m ∧ v37 = .int .i64 (i : Int) ∧ Aside0 (i + kq = first.length) ∧ Aside0 (hiM (first.drop i) m = fw) ∧ Aside0 (Below w.heap.size w w') ∧ Aside0 (Kd.R (Kd.int .i64) 3 w' w.heap.size (fun _ => True) (.slice ARO o.length cRO) o) ∧ Aside0 (Kd.R (Kd.int .i64) 3 w' w.heap.size (fun _ => True) (.slice ARF first.length cRF) first) ∧ Aside0 (Kd.R (Kd.int .i64) 3 w' w.heap.size (fun _ => True) (.slice ARG greedy.length cRG) greedy) ∧ Aside0 (Kd.R (Kd.int .i64) 3 w' w.heap.size (fun _ => True) (.slice ARH hard.length cRH) hard))
      case atStart => exact ⟨0, 0, rfl, rfl, ⟨by omega⟩, ⟨by simpa using HM.out⟩, HB, RO, RF, RG, RH⟩
      case round =>
        clear HM HB RO RF RG RH
        obtain ⟨i, m, rfl, rfl, HI, HM, HB, RO, RF, RG, RH⟩ := hrel
        cases gk with
        | zero =>
          have c1 : decide (i < first.length) = false := decide_eq_false (by have := HI.out; omega)
          have c1b : decide ((i : Int) < (first.length : Int)) = false := decide_eq_false (by have := HI.out; omega)
          have hm_ : m = fw := by have h_ := HM.out; rw [List.drop_eq_nil_of_le (by have := HI.out; omega)] at h_; exact h_
          subst hm_
          obtain ⟨w99, hw99⟩ : ∃ w', w' = wr := ⟨_, rfl⟩
          subst hw99
          clear HM HI
          have HG := Aside0.mk (HF.out.g0 rfl)
          have p0_ : (0 < greedy.length) = True := eq_true HG.out.1
          (repeat ((fail_if_success (with_reducible refine gate_dst (N := 254) rfl ?_)); first | go_values | go_skip | go_guarded | go_step | go_upon))
          refine goesL_ (some 254) rfl rfl Try.func7 (by kernel_rfl) rfl #[.slice ARO o.length cRO, .slice ARG greedy.length cRG] rfl (by (try simp only [List.map_toArray, List.map_cons, List.map_nil]); first | done | rfl) ?_
          refine (impl_FitsSharing.calls k ARO cRO o ARG cRG greedy true true _ ((Kd.R_reads' RO.out).2.2) ((Kd.R_reads' RO.out).2.1) ((Kd.R_reads' RG.out).2.2) ((Kd.R_reads' RG.out).2.1) (HF.out.fitG rfl)).mono ?_
          rintro e w100 ⟨rfl, hb⟩
          refine ⟨_, rfl, ?_⟩
          have nRO_ := Aside0.mk (Kd.R_below RO.out hb)
          have nRF_ := Aside0.mk (Kd.R_below RF.out hb)
          have nRG_ := Aside0.mk (Kd.R_below RG.out hb)
          have nRH_ := Aside0.mk (Kd.R_below RH.out hb)
          have nB := Aside0.mk (below_step HB.out hb)
          clear HB hb RO RF RG RH
          have HB := nB
          clear nB
          have RO := nRO_
          clear nRO_
          have RF := nRF_
          clear nRF_
          have RG := nRG_
          clear nRG_
          have RH := nRH_
          clear nRH_
          obtain ⟨ag, eg_, xg_⟩ : ∃ ad, ARG = some ad ∧ w100.cell? (ad.add 0) = some (.int .i64 0) := by
            obtain ⟨ad, e_, hc_⟩ := Kd.at_int (Kd.R_reads' RG.out).2.2 0 (by omega) (by have := HG.out.1; omega)
            rw [HG.out.2] at hc_
            exact ⟨ad, e_, hc_⟩
          subst eg_
          have xg2_ : w100.cell? ag = some (.int .i64 0) := by simpa [Addr.add] using xg_
          cases co
          case' true =>
            obtain ⟨q_, hq_⟩ : ∃ q : Bool, decide (0 < cnt) = q := ⟨_, rfl⟩
            have hq2_ : decide (few ≤ kk) = q_ := by rw [← hq_]; exact decide_eq_decide.2 (HF.out.pos rfl).symm
            have hq3_ : (q_ != q_) = false := bne_self_eq_false q_
          all_goals
            (repeat ((fail_if_success (with_reducible refine gate_dst (N := 278) rfl ?_)); first | go_values | go_skip | go_guarded | go_step | go_upon))
            cases ho with
            | false =>
              (repeat ((fail_if_success (with_reducible refine gate_dst (N := 297) rfl ?_)); first | go_values | go_skip | go_guarded | go_step | go_upon))
              cases bo with
              | false =>
                go_wp2
                go_ret
                exact ⟨rfl, HB.out⟩
              | true =>
                by_cases hby : 1 < by_
                · skip
                  have d1 : decide (1 < by_) = true := decide_eq_true hby
                  have HBE := Aside0.mk (HF.out.bes rfl hby)
                  clear hby
                  have d2 : decide (bn2 ≤ bn) = true := decide_eq_true HBE.out.2
                  (repeat ((fail_if_success (with_reducible refine gate_dst (N := 306) rfl ?_)); first | go_values | go_skip | go_guarded | go_step | go_upon))
                  refine goesL_ (some 306) rfl rfl Try.func36 (by kernel_rfl) rfl #[.int .i64 bx, .int .i64 (wrap64 (by_ - 1))] rfl (by (try simp only [List.map_toArray, List.map_cons, List.map_nil]); first | done | rfl) ?_
                  refine (impl_CountBeside.calls k bx (wrap64 (by_ - 1)) bn2 true _  HBE.out.1).mono ?_
                  rintro e w101 ⟨rfl, hb⟩
                  refine ⟨_, rfl, ?_⟩
                  have nRO_ := Aside0.mk (Kd.R_below RO.out hb)
                  have nRF_ := Aside0.mk (Kd.R_below RF.out hb)
                  have nRG_ := Aside0.mk (Kd.R_below RG.out hb)
                  have nRH_ := Aside0.mk (Kd.R_below RH.out hb)
                  have nB := Aside0.mk (below_step HB.out hb)
                  clear HB hb RO RF RG RH
                  have HB := nB
                  clear nB
                  have RO := nRO_
                  clear nRO_
                  have RF := nRF_
                  clear nRF_
                  have RG := nRG_
                  clear nRG_
                  have RH := nRH_
                  clear nRH_
                  go_wp2
                  go_ret
                  exact ⟨rfl, HB.out⟩
                · skip
                  have d1 : decide (1 < by_) = false := decide_eq_false hby
                  clear hby
                  go_wp2
                  go_ret
                  exact ⟨rfl, HB.out⟩
            | true =>
              have HH := Aside0.mk (HF.out.hrd rfl)
              have h1 : ((hard.length : Int) != hn) = false := by rw [HH.out.2]; exact bne_self_eq_false hn
              (repeat ((fail_if_success (with_reducible refine gate_dst (N := 281) rfl ?_)); first | go_values | go_skip | go_guarded | go_step | go_upon))
              refine goesL_ (some 281) rfl rfl Try.func23 (by kernel_rfl) rfl #[.slice ARH hard.length cRH] rfl (by (try simp only [List.map_toArray, List.map_cons, List.map_nil]); first | done | rfl) ?_
              refine (impl_FewestStacks.calls k ARH cRH hard top true _ ((Kd.R_reads' RH.out).2.2) ((Kd.R_reads' RH.out).2.1) HH.out.1).mono ?_
              rintro e w101 ⟨rfl, hb⟩
              refine ⟨_, rfl, ?_⟩
              have nRO_ := Aside0.mk (Kd.R_below RO.out hb)
              have nRF_ := Aside0.mk (Kd.R_below RF.out hb)
              have nRG_ := Aside0.mk (Kd.R_below RG.out hb)
              have nRH_ := Aside0.mk (Kd.R_below RH.out hb)
              have nB := Aside0.mk (below_step HB.out hb)
              clear HB hb RO RF RG RH
              have HB := nB
              clear nB
              have RO := nRO_
              clear nRO_
              have RF := nRF_
              clear nRF_
              have RG := nRG_
              clear nRG_
              have RH := nRH_
              clear nRH_
              (repeat ((fail_if_success (with_reducible refine gate_dst (N := 297) rfl ?_)); first | go_values | go_skip | go_guarded | go_step | go_upon))
              cases bo with
              | false =>
                go_wp2
                go_ret
                exact ⟨rfl, HB.out⟩
              | true =>
                by_cases hby : 1 < by_
                · skip
                  have d1 : decide (1 < by_) = true := decide_eq_true hby
                  have HBE := Aside0.mk (HF.out.bes rfl hby)
                  clear hby
                  have d2 : decide (bn2 ≤ bn) = true := decide_eq_true HBE.out.2
                  (repeat ((fail_if_success (with_reducible refine gate_dst (N := 306) rfl ?_)); first | go_values | go_skip | go_guarded | go_step | go_upon))
                  refine goesL_ (some 306) rfl rfl Try.func36 (by kernel_rfl) rfl #[.int .i64 bx, .int .i64 (wrap64 (by_ - 1))] rfl (by (try simp only [List.map_toArray, List.map_cons, List.map_nil]); first | done | rfl) ?_
                  refine (impl_CountBeside.calls k bx (wrap64 (by_ - 1)) bn2 true _  HBE.out.1).mono ?_
                  rintro e w102 ⟨rfl, hb⟩
                  refine ⟨_, rfl, ?_⟩
                  have nRO_ := Aside0.mk (Kd.R_below RO.out hb)
                  have nRF_ := Aside0.mk (Kd.R_below RF.out hb)
                  have nRG_ := Aside0.mk (Kd.R_below RG.out hb)
                  have nRH_ := Aside0.mk (Kd.R_below RH.out hb)
                  have nB := Aside0.mk (below_step HB.out hb)
                  clear HB hb RO RF RG RH
                  have HB := nB
                  clear nB
                  have RO := nRO_
                  clear nRO_
                  have RF := nRF_
                  clear nRF_
                  have RG := nRG_
                  clear nRG_
                  have RH := nRH_
                  clear nRH_
                  go_wp2
                  go_ret
                  exact ⟨rfl, HB.out⟩
                · skip
                  have d1 : decide (1 < by_) = false := decide_eq_false hby
                  clear hby
                  go_wp2
                  go_ret
                  exact ⟨rfl, HB.out⟩
        | succ d =>
          have c1 : decide (i < first.length) = true := decide_eq_true (by have := HI.out; omega)
          have c1b : decide ((i : Int) < (first.length : Int)) = true := decide_eq_true (by have := HI.out; omega)
          have p1 : (i < first.length) = True := eq_true (by have := HI.out; omega)
          have zi := wup_s i (by have h1_ := HI.out; have h2_ := HF.out.lenF; omega)
          obtain ⟨nn, hnn⟩ : ∃ n : Int, rd first (i : Int) = n := ⟨_, rfl⟩
          obtain ⟨af, ef_, xf_⟩ : ∃ ad, ARF = some ad ∧ wr.cell? (ad.add i) = some (.int .i64 nn) := by
            obtain ⟨ad, e_, hc_⟩ := Kd.at_int (Kd.R_reads' RF.out).2.2 (i : Int) (by omega) (by have := HI.out; omega)
            rw [hnn, Int.toNat_natCast] at hc_
            exact ⟨ad, e_, hc_⟩
          subst ef_
          have hd_ : hiM (first.drop (i + 1)) (if m < nn then nn else m) = fw := by
            have h_ := HM.out
            rw [List.drop_eq_getElem_cons (by have := HI.out; omega), hiM, show first[i]'(by have := HI.out; omega) = nn from by rw [← hnn, rd, Int.toNat_natCast, List.getD_eq_getElem?_getD, List.getElem?_eq_getElem (by have := HI.out; omega)]; rfl] at h_
            exact h_
          by_cases hx : m < nn
          · skip
            rw [if_pos hx] at hd_
            have c2 : decide (m < nn) = true := decide_eq_true hx
            go_wp2
            go_roundg d
            case measure => omega
            case rel => exact ⟨i + 1, nn, rfl, (by first | rfl | rw [zi]), ⟨by have := HI.out; omega⟩, ⟨hd_⟩, HB, RO, RF, RG, RH⟩
          · skip
            rw [if_neg hx] at hd_
            have c2 : decide (m < nn) = false := decide_eq_false hx
            go_wp2
            go_roundg d
            case measure => omega
            case rel => exact ⟨i + 1, m, rfl, (by first | rfl | rw [zi]), ⟨by have := HI.out; omega⟩, ⟨hd_⟩, HB, RO, RF, RG, RH⟩
set_option maxHeartbeats 4000000 in
set_option maxRecDepth 100000 in
theorem laws_FnStacks.big (A0 : Option Addr) (c0 : Nat) (l0 : List Int) (w : World) (hr0 : Kd.C (Kd.int .u8) w A0 l0.length l0) (hc0 : l0.length ≤ c0) (h : laws_vBig.f l0 = some true) :
    Calls Try.prog 4 #[.slice A0 l0.length c0] w fun e w' => e = .returned (.bool true) ∧ Below w.heap.size w w' := by
  have HB := Aside0.mk (Below.refl w.heap.size w)
  go_enter Try.func4, Try.ntmps4
  (repeat ((fail_if_success (with_reducible refine gate_dst (N := 45) rfl ?_)); first | go_values | go_skip | go_guarded | go_step | go_upon))
  refine goesL_ (some 45) rfl rfl Try.func5 (by kernel_rfl) rfl #[.slice A0 l0.length c0] rfl (by (try simp only [List.map_toArray, List.map_cons, List.map_nil]); first | done | rfl) ?_
  refine (laws_vBig.calls A0 c0 l0 true w hr0 hc0 h).mono ?_
  rintro e w1 ⟨rfl, hdr⟩
  refine ⟨_, rfl, ?_⟩
  have nB := Aside0.mk (below_step HB.out hdr.below)
  clear HB hdr
  go_wp2
  go_ret
  exact ⟨rfl, nB.out⟩
def laws_FnStacks.Pure : Prop := ∀ (l0 : List Int), l0.length ≤ maxLen → l0.length * 1 ≤ 140737488351232 → (∀ x ∈ l0, (Lit.int .u8 x).wf = true) → laws_vBig.f l0 = some false → ∃ k o first greedy c1 hard c2 kk few cnt hn top bx by_ bn bn2 fewOk fo go co ho bo, laws_FnStacks.Fact k l0 o first greedy c1 hard c2 kk few cnt hn top bx by_ bn bn2 fewOk fo go co ho bo
theorem laws_FnStacks.walk (P : laws_FnStacks.Pure) (a0 : Option Addr) (len0 cap0 : Nat) (z0 : List Int) (w : World) (w0 : (a0 = none ∧ len0 = 0 ∧ cap0 = 0 ∧ z0 = []) ∨ ∃ x, a0 = some x ∧ len0 ≤ cap0 ∧ cap0 ≤ maxLen ∧ z0.length = cap0 ∧ (∀ i, i < z0.length → w.cell? (x.add i) = some (.int .u8 (z0.getD i 0))) ∧ ∀ n ∈ z0, (Lit.int .u8 n).wf = true) (y0 : len0 * 1 ≤ 140737488351232) :
    Calls Try.prog 4 #[.slice a0 len0 cap0] w fun e w' => e = .returned (.bool true) ∧ Below w.heap.size w w' := by
  obtain ⟨l0, rfl, hr0, hm0, hw0, hc0⟩ := ReadsInt.ofRowC w0
  have hC := Kd.C_of_reads (d := (0 : Int)) (h1 := fun _ => rfl) hr0
  cases hb : decide ((l0.length : Int) > 65536) with
  | true => exact laws_FnStacks.big _ _ l0 w hC hc0 (by unfold laws_vBig.f; rw [hb])
  | false =>
    obtain ⟨k, o, first, greedy, c1, hard, c2, kk, few, cnt, hn, top, bx, by_, bn, bn2, fewOk, fo, go, co, ho, bo, h⟩ := P l0 hm0 y0 hw0 (by unfold laws_vBig.f; rw [hb])
    exact laws_FnStacks.calls _ _ k l0 o first greedy c1 hard c2 kk few cnt hn top bx by_ bn bn2 fewOk fo go co ho bo w hC hc0 h
end Go.Proofs.Ytmgekfoiamjijaa.PFnStacks
