-- laid by mkprint.py, a program of this claim's writer, over the kit's print program; parts of it are typed by hand
import Derived.Test.YtmgekfoiamjijaaPFnConflictsx0
import Derived.Test.YtmgekfoiamjijaaPFnConflictsx2
import Derived.Test.YtmgekfoiamjijaaPFnConflictsx6
import Derived.Test.YtmgekfoiamjijaaPFnConflictsx8
import Derived.Test.YtmgekfoiamjijaaPFnConflictsx9
import Derived.Test.YtmgekfoiamjijaaPFnConflictsx11
import Derived.Test.YtmgekfoiamjijaaPFnConflictsx13
import Derived.Test.YtmgekfoiamjijaaPFnConflictsx14
import Derived.Test.YtmgekfoiamjijaaPFnConflictsx15
import Derived.Test.YtmgekfoiamjijaaPFnConflictsx18
namespace Go.Proofs.Ytmgekfoiamjijaa.PFnConflicts
open Go.RowKit Go.Proofs.YtmgekfoiamjijaaW.PrintWords Go.Proofs.YtmgekfoiamjijaaW.PrintLast Go.Proofs.YtmgekfoiamjijaaW.PrintMore
attribute [local go_sem] max2_int min2_int max_two min_two max_three min_three max_four min_four
set_option linter.unusedVariables false
set_option linter.unusedSimpArgs false
theorem guard_any {P : Program} {ops : Array Oper} {rest : List Oper} {o : Oper} {a : Act} {Q : Exit → Act → World → Prop} {W : World} {N : Tmp} {c : Bool} {v : Value} (hw : Region.wanted o (yielded ops a.tmps) = c) (hN : o.dst = some N)
    (hrun : c = true → (execOp a.eval o).run P W = .ok (.value v) W) (h : ∀ x : Value, (c = true → x = v) → wpList P ops Q rest (a.put (some N) x) W) : wpList P ops Q (o :: rest) a W := by
  cases c with
  | false => exact wpList_skip hw (by rw [hN]; exact h undef (fun e => by cases e))
  | true =>
    refine wpList_step fun K hK => ?_
    rw [if_pos hw]
    unfold Oper.wp
    rw [hrun rfl]
    show K (a.put o.dst v) W
    rw [hN]
    exact hK _ _ (h v (fun _ => rfl))
theorem wup_s (i : Nat) (h : i ≤ 17592186044416) : wrap64 ((i : Int) + 1) = ((i + 1 : Nat) : Int) := by rw [IntWalk.wrap64_in _ (by omega)]; omega
def clashM (sh : List Int) : List S41 → Bool → Bool
  | [], c => c
  | x :: t, c => clashM sh t (c || (rd sh x.f0 == rd sh x.f1))
def usedM (j : Int) : List Int → Bool → Bool
  | [], c => c
  | x :: t, c => usedM j t (c || (x == j))
def sumM : List Int → Int → Int
  | [], s => s
  | x :: t, s => sumM t (wrap64 (s + x))
theorem eqA4i (d : Nat) (w : World) (x0 x1 x2 x3 y0 y1 y2 y3 : Int) :
    (Op.equalIn (d + 2) 33 (.agg #[.int .i64 x0, .int .i64 x1, .int .i64 x2, .int .i64 x3]) (.agg #[.int .i64 y0, .int .i64 y1, .int .i64 y2, .int .i64 y3])).run Try.prog w = .ok (x0 == y0 && (x1 == y1 && (x2 == y2 && x3 == y3))) w := by
  obtain ⟨i_, hi_, -, -, -⟩ := info_parts info3
  rw [Go.run_equalIn_array (P := Try.prog) w (d + 1) _ _ Try.underlying33 hi_, show Try.prog.cellsOf 3 = 1 from by kernel_rfl]
  have hp_ : ∀ (xs : Array Value) (off : Nat) (v : Value), xs[off]? = some v → (part 3 xs off).run Try.prog w = .ok v w := fun xs off v h => run_part_plain w (by kernel_rfl) h
  have he_ : ∀ a b : Int, (Op.equalIn (d + 1) 3 (.int .i64 a) (.int .i64 b)).run Try.prog w = .ok (a == b) w := fun a b => by simp [Op.equalIn, run_underlying Try.underlying3]
  obtain ⟨b0, hb0⟩ : ∃ b, (x0 == y0) = b := ⟨_, rfl⟩
  have e0 := he_ x0 y0
  rw [hb0] at e0 ⊢
  obtain ⟨b1, hb1⟩ : ∃ b, (x1 == y1) = b := ⟨_, rfl⟩
  have e1 := he_ x1 y1
  rw [hb1] at e1 ⊢
  obtain ⟨b2, hb2⟩ : ∃ b, (x2 == y2) = b := ⟨_, rfl⟩
  have e2 := he_ x2 y2
  rw [hb2] at e2 ⊢
  obtain ⟨b3, hb3⟩ : ∃ b, (x3 == y3) = b := ⟨_, rfl⟩
  have e3 := he_ x3 y3
  rw [hb3] at e3 ⊢
  clear he_ hi_
  cases b0 <;> cases b1 <;> cases b2 <;> cases b3 <;> simp [Op.eqItems, List.range, List.range.loop, hp_ #[.int .i64 x0, .int .i64 x1, .int .i64 x2, .int .i64 x3] 0 (.int .i64 x0) rfl, hp_ #[.int .i64 x0, .int .i64 x1, .int .i64 x2, .int .i64 x3] 1 (.int .i64 x1) rfl, hp_ #[.int .i64 x0, .int .i64 x1, .int .i64 x2, .int .i64 x3] 2 (.int .i64 x2) rfl, hp_ #[.int .i64 x0, .int .i64 x1, .int .i64 x2, .int .i64 x3] 3 (.int .i64 x3) rfl, hp_ #[.int .i64 y0, .int .i64 y1, .int .i64 y2, .int .i64 y3] 0 (.int .i64 y0) rfl, hp_ #[.int .i64 y0, .int .i64 y1, .int .i64 y2, .int .i64 y3] 1 (.int .i64 y1) rfl, hp_ #[.int .i64 y0, .int .i64 y1, .int .i64 y2, .int .i64 y3] 2 (.int .i64 y2) rfl, hp_ #[.int .i64 y0, .int .i64 y1, .int .i64 y2, .int .i64 y3] 3 (.int .i64 y3) rfl, e0, e1, e2, e3]
attribute [local go_sem high] eqA4i
structure laws_FnConflicts.Law (o sh out : List Int) (cl : List S41) (mv : ByteArray) (d0 d1 d2 d3 : Int) (fits : Bool) : Prop where
  cla : clashM sh cl false = !fits
  clb : ∀ x ∈ cl, 0 ≤ x.f0 ∧ x.f0 < (sh.length : Int) ∧ 0 ≤ x.f1 ∧ x.f1 < (sh.length : Int)
  all : decide (out.length = o.length) = fits
  mvl : (mv.size : Int) = wrap64 ((o.length : Int) + (out.length : Int))
  outs : ∀ i, i < out.length → rd out (i : Int) = (i : Int) + 1
  used : ∀ j : Nat, j < 4 → usedM (j : Int) sh false = decide (0 < [d0, d1, d2, d3].getD j 0)
  sum : sumM [d0, d1, d2, d3] 0 ≤ (o.length : Int)
  lenC : cl.length ≤ 1000000
  lenU : out.length ≤ 1000000
  lenS : sh.length ≤ 1000000
structure laws_FnConflicts.Fact (k : Nat) (l0 : List Int) (o : List Int) (sh : List Int) (fits : Bool) (ok : Bool) (mv : ByteArray) (out : List Int) (d0 : Int) (d1 : Int) (d2 : Int) (d3 : Int) (cl : List S41) (cf : Bool) : Prop where
  f35 : laws_vBig.f l0 = some (false)
  f38 : spec_DrawFitsSharing.f k l0 = some (o, sh)
  f44 : impl_FitsSharing.f k o sh = some (fits, ok)
  f50 : spec_FitsSharing.f k o sh = some (fits, ok)
  f56 : impl_MovesOf.f k o sh = some (mv, ok)
  f62 : spec_MovesOf.f k o sh = some (mv, ok)
  f68 : impl_ComesOut.f k o sh = some (out, ok)
  f74 : spec_ComesOut.f k o sh = some (out, ok)
  f80 : impl_DepthsOf.f k o sh = some (d0, d1, d2, d3, ok)
  f86 : spec_DepthsOf.f k o sh = some (d0, d1, d2, d3, ok)
  f91 : impl_ConflictsOf.f k o = some (cl, cf)
  f96 : spec_ConflictsOf.f k o = some (cl, cf)
  f125 : laws_vInts.f k out out = some (true)
  f146 : laws_vPairs.f k cl cl = some (true)
  f152 : impl_IsSharing.f k o sh = some (ok)
  f155 : spec_IsSharing.f k o sh = some (ok)
  f162 : impl_IsSharing.f k o sh = some (ok)
  okC : ok = true → cf = true
  con : cf = true → impl_ContainsPattern.f k o [2, 3, 1] = some (decide (0 < cl.length), true)
  law : ok = true → laws_FnConflicts.Law o sh out cl mv d0 d1 d2 d3 fits
set_option maxHeartbeats 16000000 in
set_option maxRecDepth 100000 in
theorem laws_FnConflicts.calls (A0 : Option Addr) (c0 : Nat) (k : Nat) (l0 : List Int) (o : List Int) (sh : List Int) (fits : Bool) (ok : Bool) (mv : ByteArray) (out : List Int) (d0 : Int) (d1 : Int) (d2 : Int) (d3 : Int) (cl : List S41) (cf : Bool) (w : World) (hr0 : Kd.C (Kd.int .u8) w A0 l0.length l0) (hc0 : l0.length ≤ c0) (hF : laws_FnConflicts.Fact k l0 o sh fits ok mv out d0 d1 d2 d3 cl cf) :
    Calls Try.prog 3 #[.slice A0 l0.length c0] w fun e w' => e = .returned (.bool true) ∧ Below w.heap.size w w' := by
  have HR0 := Aside0.mk hr0
  have HC0 := Aside0.mk hc0
  have HF := Aside0.mk hF
  have HB := Aside0.mk (Below.refl w.heap.size w)
  clear hr0 hc0 hF
  go_enter Try.func3, Try.ntmps3
  have q_ok : (ok != ok) = false := bne_self_eq_false ok
  have q_fits : (fits != fits) = false := bne_self_eq_false fits
  have q_cf : (cf != cf) = false := bne_self_eq_false cf
  have q_mv : (mv != mv) = false := by rw [bne, (Go.MapKept.bytes_beq mv mv).mpr rfl]; rfl
  (repeat ((fail_if_success (with_reducible refine gate_dst (N := 35) rfl ?_)); first | go_values | go_skip | go_guarded | go_step | go_upon))
  refine goesL_ (some 35) rfl rfl Try.func5 (by kernel_rfl) rfl #[.slice A0 l0.length c0] rfl (by (try simp only [List.map_toArray, List.map_cons, List.map_nil]); first | done | rfl) ?_
  refine (laws_vBig.calls A0 c0 l0 false _ (Kd.C_below HR0.out HB.out) HC0.out HF.out.f35).mono ?_
  rintro e w1 ⟨rfl, hdr⟩
  have hb := hdr.below
  clear hdr
  refine ⟨_, rfl, ?_⟩
  have nB := Aside0.mk (below_step HB.out hb)
  clear HB hb
  have HB := nB
  clear nB
  (repeat ((fail_if_success (with_reducible refine gate_dst (N := 38) rfl ?_)); first | go_values | go_skip | go_guarded | go_step | go_upon))
  refine goesL_ (some 38) rfl rfl Try.func6 (by kernel_rfl) rfl #[.slice A0 l0.length c0] rfl (by (try simp only [List.map_toArray, List.map_cons, List.map_nil]); first | done | rfl) ?_
  refine (spec_DrawFitsSharing.calls k A0 c0 l0 o sh _ (Kd.C_below HR0.out HB.out) HC0.out HF.out.f38).mono ?_
  rintro e w2 ⟨v0_, v1_, rfl, ho0, ho1, hb⟩
  refine ⟨_, rfl, ?_⟩
  obtain ⟨ARO, cRO, e_RO⟩ := Kd.R_slice ho0
  subst e_RO
  have nn0_ := Aside0.mk (Kd.R_lower (Kd.R_mono ho0 (fun _ _ => trivial)) HB.out.size)
  obtain ⟨ARS, cRS, e_RS⟩ := Kd.R_slice ho1
  subst e_RS
  have nn1_ := Aside0.mk (Kd.R_lower (Kd.R_mono ho1 (fun _ _ => trivial)) HB.out.size)
  have nB := Aside0.mk (below_step HB.out hb)
  clear HB hb  ho0 ho1
  have HB := nB
  clear nB
  have RO := nn0_
  clear nn0_
  have RS := nn1_
  clear nn1_
  (repeat ((fail_if_success (with_reducible refine gate_dst (N := 44) rfl ?_)); first | go_values | go_skip | go_guarded | go_step | go_upon))
  refine goesL_ (some 44) rfl rfl Try.func7 (by kernel_rfl) rfl #[.slice ARO o.length cRO, .slice ARS sh.length cRS] rfl (by (try simp only [List.map_toArray, List.map_cons, List.map_nil]); first | done | rfl) ?_
  refine (impl_FitsSharing.calls k ARO cRO o ARS cRS sh fits ok _ (Kd.R_reads' RO.out).2.2 (Kd.R_reads' RO.out).2.1 (Kd.R_reads' RS.out).2.2 (Kd.R_reads' RS.out).2.1 HF.out.f44).mono ?_
  rintro e w3 ⟨rfl, hb⟩
  refine ⟨_, rfl, ?_⟩
  have nRO_ := Aside0.mk (Kd.R_below RO.out hb)
  have nRS_ := Aside0.mk (Kd.R_below RS.out hb)
  have nB := Aside0.mk (below_step HB.out hb)
  clear HB hb RO RS
  have HB := nB
  clear nB
  have RO := nRO_
  clear nRO_
  have RS := nRS_
  clear nRS_
  (repeat ((fail_if_success (with_reducible refine gate_dst (N := 50) rfl ?_)); first | go_values | go_skip | go_guarded | go_step | go_upon))
  refine goesL_ (some 50) rfl rfl Try.func8 (by kernel_rfl) rfl #[.slice ARO o.length cRO, .slice ARS sh.length cRS] rfl (by (try simp only [List.map_toArray, List.map_cons, List.map_nil]); first | done | rfl) ?_
  refine (spec_FitsSharing.calls k ARO cRO o ARS cRS sh fits ok _ (Kd.R_reads' RO.out).2.2 (Kd.R_reads' RO.out).2.1 (Kd.R_reads' RS.out).2.2 (Kd.R_reads' RS.out).2.1 HF.out.f50).mono ?_
  rintro e w4 ⟨rfl, hdr⟩
  have hb := hdr.below
  clear hdr
  refine ⟨_, rfl, ?_⟩
  have nRO_ := Aside0.mk (Kd.R_below RO.out hb)
  have nRS_ := Aside0.mk (Kd.R_below RS.out hb)
  have nB := Aside0.mk (below_step HB.out hb)
  clear HB hb RO RS
  have HB := nB
  clear nB
  have RO := nRO_
  clear nRO_
  have RS := nRS_
  clear nRS_
  (repeat ((fail_if_success (with_reducible refine gate_dst (N := 56) rfl ?_)); first | go_values | go_skip | go_guarded | go_step | go_upon))
  refine goesL_ (some 56) rfl rfl Try.func9 (by kernel_rfl) rfl #[.slice ARO o.length cRO, .slice ARS sh.length cRS] rfl (by (try simp only [List.map_toArray, List.map_cons, List.map_nil]); first | done | rfl) ?_
  refine (impl_MovesOf.calls k ARO cRO o ARS cRS sh mv ok _ (Kd.R_reads' RO.out).2.2 (Kd.R_reads' RO.out).2.1 (Kd.R_reads' RS.out).2.2 (Kd.R_reads' RS.out).2.1 HF.out.f56).mono ?_
  rintro e w5 ⟨rfl, hb⟩
  refine ⟨_, rfl, ?_⟩
  have nRO_ := Aside0.mk (Kd.R_below RO.out hb)
  have nRS_ := Aside0.mk (Kd.R_below RS.out hb)
  have nB := Aside0.mk (below_step HB.out hb)
  clear HB hb RO RS
  have HB := nB
  clear nB
  have RO := nRO_
  clear nRO_
  have RS := nRS_
  clear nRS_
  (repeat ((fail_if_success (with_reducible refine gate_dst (N := 62) rfl ?_)); first | go_values | go_skip | go_guarded | go_step | go_upon))
  refine goesL_ (some 62) rfl rfl Try.func10 (by kernel_rfl) rfl #[.slice ARO o.length cRO, .slice ARS sh.length cRS] rfl (by (try simp only [List.map_toArray, List.map_cons, List.map_nil]); first | done | rfl) ?_
  refine (spec_MovesOf.calls k ARO cRO o ARS cRS sh mv ok _ (Kd.R_reads' RO.out).2.2 (Kd.R_reads' RO.out).2.1 (Kd.R_reads' RS.out).2.2 (Kd.R_reads' RS.out).2.1 HF.out.f62).mono ?_
  rintro e w6 ⟨rfl, hb⟩
  refine ⟨_, rfl, ?_⟩
  have nRO_ := Aside0.mk (Kd.R_below RO.out hb)
  have nRS_ := Aside0.mk (Kd.R_below RS.out hb)
  have nB := Aside0.mk (below_step HB.out hb)
  clear HB hb RO RS
  have HB := nB
  clear nB
  have RO := nRO_
  clear nRO_
  have RS := nRS_
  clear nRS_
  (repeat ((fail_if_success (with_reducible refine gate_dst (N := 68) rfl ?_)); first | go_values | go_skip | go_guarded | go_step | go_upon))
  refine goesL_ (some 68) rfl rfl Try.func11 (by kernel_rfl) rfl #[.slice ARO o.length cRO, .slice ARS sh.length cRS] rfl (by (try simp only [List.map_toArray, List.map_cons, List.map_nil]); first | done | rfl) ?_
  refine (impl_ComesOut.calls k ARO cRO o ARS cRS sh out ok _ (Kd.R_reads' RO.out).2.2 (Kd.R_reads' RO.out).2.1 (Kd.R_reads' RS.out).2.2 (Kd.R_reads' RS.out).2.1 HF.out.f68).mono ?_
  rintro e w7 ⟨v0_, rfl, ho0, hb⟩
  refine ⟨_, rfl, ?_⟩
  obtain ⟨ARU, cRU, e_RU⟩ := Kd.R_slice ho0
  subst e_RU
  have nn0_ := Aside0.mk (Kd.R_lower (Kd.R_mono ho0 (fun _ _ => trivial)) HB.out.size)
  have nRO_ := Aside0.mk (Kd.R_below RO.out hb)
  have nRS_ := Aside0.mk (Kd.R_below RS.out hb)
  have nB := Aside0.mk (below_step HB.out hb)
  clear HB hb RO RS ho0
  have HB := nB
  clear nB
  have RO := nRO_
  clear nRO_
  have RS := nRS_
  clear nRS_
  have RU := nn0_
  clear nn0_
  (repeat ((fail_if_success (with_reducible refine gate_dst (N := 74) rfl ?_)); first | go_values | go_skip | go_guarded | go_step | go_upon))
  refine goesL_ (some 74) rfl rfl Try.func12 (by kernel_rfl) rfl #[.slice ARO o.length cRO, .slice ARS sh.length cRS] rfl (by (try simp only [List.map_toArray, List.map_cons, List.map_nil]); first | done | rfl) ?_
  refine (spec_ComesOut.calls k ARO cRO o ARS cRS sh out ok _ (Kd.R_reads' RO.out).2.2 (Kd.R_reads' RO.out).2.1 (Kd.R_reads' RS.out).2.2 (Kd.R_reads' RS.out).2.1 HF.out.f74).mono ?_
  rintro e w8 ⟨v0_, rfl, ho0, hb⟩
  refine ⟨_, rfl, ?_⟩
  obtain ⟨ARU2, cRU2, e_RU2⟩ := Kd.R_slice ho0
  subst e_RU2
  have nn0_ := Aside0.mk (Kd.R_lower (Kd.R_mono ho0 (fun _ _ => trivial)) HB.out.size)
  have nRO_ := Aside0.mk (Kd.R_below RO.out hb)
  have nRS_ := Aside0.mk (Kd.R_below RS.out hb)
  have nRU_ := Aside0.mk (Kd.R_below RU.out hb)
  have nB := Aside0.mk (below_step HB.out hb)
  clear HB hb RO RS RU ho0
  have HB := nB
  clear nB
  have RO := nRO_
  clear nRO_
  have RS := nRS_
  clear nRS_
  have RU := nRU_
  clear nRU_
  have RU2 := nn0_
  clear nn0_
  (repeat ((fail_if_success (with_reducible refine gate_dst (N := 80) rfl ?_)); first | go_values | go_skip | go_guarded | go_step | go_upon))
  refine goesL_ (some 80) rfl rfl Try.func13 (by kernel_rfl) rfl #[.slice ARO o.length cRO, .slice ARS sh.length cRS] rfl (by (try simp only [List.map_toArray, List.map_cons, List.map_nil]); first | done | rfl) ?_
  refine (impl_DepthsOf.calls k ARO cRO o ARS cRS sh d0 d1 d2 d3 ok _ (Kd.R_reads' RO.out).2.2 (Kd.R_reads' RO.out).2.1 (Kd.R_reads' RS.out).2.2 (Kd.R_reads' RS.out).2.1 HF.out.f80).mono ?_
  rintro e w9 ⟨rfl, hb⟩
  refine ⟨_, rfl, ?_⟩
  have nRO_ := Aside0.mk (Kd.R_below RO.out hb)
  have nRS_ := Aside0.mk (Kd.R_below RS.out hb)
  have nRU_ := Aside0.mk (Kd.R_below RU.out hb)
  have nRU2_ := Aside0.mk (Kd.R_below RU2.out hb)
  have nB := Aside0.mk (below_step HB.out hb)
  clear HB hb RO RS RU RU2
  have HB := nB
  clear nB
  have RO := nRO_
  clear nRO_
  have RS := nRS_
  clear nRS_
  have RU := nRU_
  clear nRU_
  have RU2 := nRU2_
  clear nRU2_
  (repeat ((fail_if_success (with_reducible refine gate_dst (N := 17) rfl ?_)); first | go_values | go_skip | go_guarded | go_step | go_upon))
  refine box_event ?hg (N := 17) ?hd (cs := #[.int .i64 0, .int .i64 0, .int .i64 0, .int .i64 0]) (t := 33) ?hr ?_
  case hd => rfl
  case hg => rfl
  case hr => first | (go_simp; done) | (go_simp; rfl)
  intro gBD hg w10 hbox hb
  have GBD := Aside0.mk (show w.heap.size ≤ gBD by rw [hg]; exact below_size HB.out)
  have nRO_ := Aside0.mk (Kd.R_mono (ok' := fun q_ => q_ < gBD) (Kd.R_below (Kd.R_bound RO.out) hb) (fun q_ h_ => by have h1_ := h_.2.2; rw [hg]; exact h1_.1))
  have nRS_ := Aside0.mk (Kd.R_mono (ok' := fun q_ => q_ < gBD) (Kd.R_below (Kd.R_bound RS.out) hb) (fun q_ h_ => by have h1_ := h_.2.2; rw [hg]; exact h1_.1))
  have nRU_ := Aside0.mk (Kd.R_mono (ok' := fun q_ => q_ < gBD) (Kd.R_below (Kd.R_bound RU.out) hb) (fun q_ h_ => by have h1_ := h_.2.2; rw [hg]; exact h1_.1))
  have nRU2_ := Aside0.mk (Kd.R_mono (ok' := fun q_ => q_ < gBD) (Kd.R_below (Kd.R_bound RU2.out) hb) (fun q_ h_ => by have h1_ := h_.2.2; rw [hg]; exact h1_.1))
  have nn_ := Aside0.mk hbox
  have nB := Aside0.mk (below_step HB.out hb)
  clear HB hg hb hbox RO RS RU RU2
  have HB := nB
  clear nB
  have RO := nRO_
  clear nRO_
  have RS := nRS_
  clear nRS_
  have RU := nRU_
  clear nRU_
  have RU2 := nRU2_
  clear nRU2_
  have BD := nn_
  clear nn_
  (repeat ((fail_if_success (with_reducible refine gate_store (t := 33) (p := 17) rfl ?_)); first | go_values | go_skip | go_guarded | go_step | go_upon))
  refine put_event (by rfl) (by rfl) (t := 33) (p := .tmp 17) (by rfl) (g := _) (off := 0) (#[.int .i64 d0, .int .i64 d1, .int .i64 d2, .int .i64 d3]) ([.int .i64 d0, .int .i64 d1, .int .i64 d2, .int .i64 d3]) (by rfl) (by rfl) BD.out (by rfl) (by first | rfl | decide) (by simp [Value.oneCell']) ?hfit ?hc ?_
  case hfit => simp
  case hc => rfl
  intro w11 hw_ hgr_
  have hk_ : Kept w10 w11 (fun q_ => q_ = gBD) := Kept.of_grown hgr_ (Kept.refl _ _) (fun k_ e_ => by cases e_; exact .inl rfl)
  have nRO_ := Aside0.mk (Kd.R_mono (ok' := fun _ => True) (Kd.R_kept RO.out hk_ (fun q_ h_ he_ => by omega)) (fun q_ h_ => trivial))
  have nRS_ := Aside0.mk (Kd.R_mono (ok' := fun _ => True) (Kd.R_kept RS.out hk_ (fun q_ h_ he_ => by omega)) (fun q_ h_ => trivial))
  have nRU_ := Aside0.mk (Kd.R_mono (ok' := fun _ => True) (Kd.R_kept RU.out hk_ (fun q_ h_ he_ => by omega)) (fun q_ h_ => trivial))
  have nRU2_ := Aside0.mk (Kd.R_mono (ok' := fun _ => True) (Kd.R_kept RU2.out hk_ (fun q_ h_ he_ => by omega)) (fun q_ h_ => trivial))
  have nn_ := Aside0.mk hw_
  have nB := Aside0.mk (HB.out.grown hgr_ HB.out.size (fun k_ e_ => by cases e_; exact GBD.out))
  clear HB hw_ hgr_ hk_ BD RO RS RU RU2
  have HB := nB
  clear nB
  have RO := nRO_
  clear nRO_
  have RS := nRS_
  clear nRS_
  have RU := nRU_
  clear nRU_
  have RU2 := nRU2_
  clear nRU2_
  have BD := nn_
  clear nn_
  (repeat ((fail_if_success (with_reducible refine gate_dst (N := 86) rfl ?_)); first | go_values | go_skip | go_guarded | go_step | go_upon))
  refine goesL_ (some 86) rfl rfl Try.func14 (by kernel_rfl) rfl #[.slice ARO o.length cRO, .slice ARS sh.length cRS] rfl (by (try simp only [List.map_toArray, List.map_cons, List.map_nil]); first | done | rfl) ?_
  refine (spec_DepthsOf.calls k ARO cRO o ARS cRS sh d0 d1 d2 d3 ok _ (Kd.R_reads' RO.out).2.2 (Kd.R_reads' RO.out).2.1 (Kd.R_reads' RS.out).2.2 (Kd.R_reads' RS.out).2.1 HF.out.f86).mono ?_
  rintro e w12 ⟨rfl, hb⟩
  refine ⟨_, rfl, ?_⟩
  have nRO_ := Aside0.mk (Kd.R_below RO.out hb)
  have nRS_ := Aside0.mk (Kd.R_below RS.out hb)
  have nRU_ := Aside0.mk (Kd.R_below RU.out hb)
  have nRU2_ := Aside0.mk (Kd.R_below RU2.out hb)
  have nBD_ := Aside0.mk (blk_below BD.out hb)
  have nB := Aside0.mk (below_step HB.out hb)
  clear HB hb RO RS RU RU2 BD
  have HB := nB
  clear nB
  have RO := nRO_
  clear nRO_
  have RS := nRS_
  clear nRS_
  have RU := nRU_
  clear nRU_
  have RU2 := nRU2_
  clear nRU2_
  have BD := nBD_
  clear nBD_
  (repeat ((fail_if_success (with_reducible refine gate_dst (N := 19) rfl ?_)); first | go_values | go_skip | go_guarded | go_step | go_upon))
  refine box_event ?hg (N := 19) ?hd (cs := #[.int .i64 0, .int .i64 0, .int .i64 0, .int .i64 0]) (t := 33) ?hr ?_
  case hd => rfl
  case hg => rfl
  case hr => first | (go_simp; done) | (go_simp; rfl)
  intro gBE hg w13 hbox hb
  have GBE := Aside0.mk (show w.heap.size ≤ gBE by rw [hg]; exact below_size HB.out)
  have nRO_ := Aside0.mk (Kd.R_mono (ok' := fun q_ => q_ < gBE) (Kd.R_below (Kd.R_bound RO.out) hb) (fun q_ h_ => by have h1_ := h_.2.2; rw [hg]; exact h1_.1))
  have nRS_ := Aside0.mk (Kd.R_mono (ok' := fun q_ => q_ < gBE) (Kd.R_below (Kd.R_bound RS.out) hb) (fun q_ h_ => by have h1_ := h_.2.2; rw [hg]; exact h1_.1))
  have nRU_ := Aside0.mk (Kd.R_mono (ok' := fun q_ => q_ < gBE) (Kd.R_below (Kd.R_bound RU.out) hb) (fun q_ h_ => by have h1_ := h_.2.2; rw [hg]; exact h1_.1))
  have nRU2_ := Aside0.mk (Kd.R_mono (ok' := fun q_ => q_ < gBE) (Kd.R_below (Kd.R_bound RU2.out) hb) (fun q_ h_ => by have h1_ := h_.2.2; rw [hg]; exact h1_.1))
  have nBD_ := Aside0.mk (blk_below BD.out hb)
  have LBDBE := Aside0.mk (show gBD < gBE by rw [hg]; exact blk_lt BD.out)
  have nn_ := Aside0.mk hbox
  have nB := Aside0.mk (below_step HB.out hb)
  clear HB hg hb hbox RO RS RU RU2 BD
  have HB := nB
  clear nB
  have RO := nRO_
  clear nRO_
  have RS := nRS_
  clear nRS_
  have RU := nRU_
  clear nRU_
  have RU2 := nRU2_
  clear nRU2_
  have BD := nBD_
  clear nBD_
  have BE := nn_
  clear nn_
  (repeat ((fail_if_success (with_reducible refine gate_store (t := 33) (p := 19) rfl ?_)); first | go_values | go_skip | go_guarded | go_step | go_upon))
  refine put_event (by rfl) (by rfl) (t := 33) (p := .tmp 19) (by rfl) (g := _) (off := 0) (#[.int .i64 d0, .int .i64 d1, .int .i64 d2, .int .i64 d3]) ([.int .i64 d0, .int .i64 d1, .int .i64 d2, .int .i64 d3]) (by rfl) (by rfl) BE.out (by rfl) (by first | rfl | decide) (by simp [Value.oneCell']) ?hfit ?hc ?_
  case hfit => simp
  case hc => rfl
  intro w14 hw_ hgr_
  have hk_ : Kept w13 w14 (fun q_ => q_ = gBE) := Kept.of_grown hgr_ (Kept.refl _ _) (fun k_ e_ => by cases e_; exact .inl rfl)
  have nRO_ := Aside0.mk (Kd.R_mono (ok' := fun _ => True) (Kd.R_kept RO.out hk_ (fun q_ h_ he_ => by omega)) (fun q_ h_ => trivial))
  have nRS_ := Aside0.mk (Kd.R_mono (ok' := fun _ => True) (Kd.R_kept RS.out hk_ (fun q_ h_ he_ => by omega)) (fun q_ h_ => trivial))
  have nRU_ := Aside0.mk (Kd.R_mono (ok' := fun _ => True) (Kd.R_kept RU.out hk_ (fun q_ h_ he_ => by omega)) (fun q_ h_ => trivial))
  have nRU2_ := Aside0.mk (Kd.R_mono (ok' := fun _ => True) (Kd.R_kept RU2.out hk_ (fun q_ h_ he_ => by omega)) (fun q_ h_ => trivial))
  have nBD_ := Aside0.mk (blk_kept BD.out hk_ (fun h_ => by have := LBDBE.out; omega))
  have nn_ := Aside0.mk hw_
  have nB := Aside0.mk (HB.out.grown hgr_ HB.out.size (fun k_ e_ => by cases e_; exact GBE.out))
  clear HB hw_ hgr_ hk_ BE RO RS RU RU2 BD
  have HB := nB
  clear nB
  have RO := nRO_
  clear nRO_
  have RS := nRS_
  clear nRS_
  have RU := nRU_
  clear nRU_
  have RU2 := nRU2_
  clear nRU2_
  have BD := nBD_
  clear nBD_
  have BE := nn_
  clear nn_
  (repeat ((fail_if_success (with_reducible refine gate_dst (N := 91) rfl ?_)); first | go_values | go_skip | go_guarded | go_step | go_upon))
  refine goesL_ (some 91) rfl rfl Try.func15 (by kernel_rfl) rfl #[.slice ARO o.length cRO] rfl (by (try simp only [List.map_toArray, List.map_cons, List.map_nil]); first | done | rfl) ?_
  refine (impl_ConflictsOf.calls k ARO cRO o cl cf _ (Kd.R_reads' RO.out).2.2 (Kd.R_reads' RO.out).2.1 HF.out.f91).mono ?_
  rintro e w15 ⟨v0_, rfl, ho0, hb⟩
  refine ⟨_, rfl, ?_⟩
  obtain ⟨ARL, cRL, e_RL⟩ := Kd.R_slice ho0
  subst e_RL
  have nn0_ := Aside0.mk (Kd.R_lower (Kd.R_mono ho0 (fun _ _ => trivial)) HB.out.size)
  have nRO_ := Aside0.mk (Kd.R_below RO.out hb)
  have nRS_ := Aside0.mk (Kd.R_below RS.out hb)
  have nRU_ := Aside0.mk (Kd.R_below RU.out hb)
  have nRU2_ := Aside0.mk (Kd.R_below RU2.out hb)
  have nBD_ := Aside0.mk (blk_below BD.out hb)
  have nBE_ := Aside0.mk (blk_below BE.out hb)
  have nB := Aside0.mk (below_step HB.out hb)
  clear HB hb RO RS RU RU2 BD BE ho0
  have HB := nB
  clear nB
  have RO := nRO_
  clear nRO_
  have RS := nRS_
  clear nRS_
  have RU := nRU_
  clear nRU_
  have RU2 := nRU2_
  clear nRU2_
  have BD := nBD_
  clear nBD_
  have BE := nBE_
  clear nBE_
  have RL := nn0_
  clear nn0_
  (repeat ((fail_if_success (with_reducible refine gate_dst (N := 96) rfl ?_)); first | go_values | go_skip | go_guarded | go_step | go_upon))
  refine goesL_ (some 96) rfl rfl Try.func16 (by kernel_rfl) rfl #[.slice ARO o.length cRO] rfl (by (try simp only [List.map_toArray, List.map_cons, List.map_nil]); first | done | rfl) ?_
  refine (spec_ConflictsOf.calls k ARO cRO o cl cf _ (Kd.R_reads' RO.out).2.2 (Kd.R_reads' RO.out).2.1 HF.out.f96).mono ?_
  rintro e w16 ⟨v0_, rfl, ho0, hb⟩
  refine ⟨_, rfl, ?_⟩
  obtain ⟨ARL2, cRL2, e_RL2⟩ := Kd.R_slice ho0
  subst e_RL2
  have nn0_ := Aside0.mk (Kd.R_lower (Kd.R_mono ho0 (fun _ _ => trivial)) HB.out.size)
  have nRO_ := Aside0.mk (Kd.R_below RO.out hb)
  have nRS_ := Aside0.mk (Kd.R_below RS.out hb)
  have nRU_ := Aside0.mk (Kd.R_below RU.out hb)
  have nRU2_ := Aside0.mk (Kd.R_below RU2.out hb)
  have nRL_ := Aside0.mk (Kd.R_below RL.out hb)
  have nBD_ := Aside0.mk (blk_below BD.out hb)
  have nBE_ := Aside0.mk (blk_below BE.out hb)
  have nB := Aside0.mk (below_step HB.out hb)
  clear HB hb RO RS RU RU2 RL BD BE ho0
  have HB := nB
  clear nB
  have RO := nRO_
  clear nRO_
  have RS := nRS_
  clear nRS_
  have RU := nRU_
  clear nRU_
  have RU2 := nRU2_
  clear nRU2_
  have RL := nRL_
  clear nRL_
  have BD := nBD_
  clear nBD_
  have BE := nBE_
  clear nBE_
  have RL2 := nn0_
  clear nn0_
  (repeat ((fail_if_success (with_reducible refine gate_dst (N := 125) rfl ?_)); first | go_values | go_skip | go_guarded | go_step | go_upon))
  try go_guarded
  refine (laws_vInts.calls k ARU cRU out ARU2 cRU2 out true _ (Kd.R_reads' RU.out).2.2 (Kd.R_reads' RU.out).2.1 (Kd.R_reads' RU2.out).2.2 (Kd.R_reads' RU2.out).2.1 HF.out.f125).mono ?_
  rintro e w17 ⟨rfl, hdr⟩
  have hb := hdr.below
  clear hdr
  dsimp only
  have nRO_ := Aside0.mk (Kd.R_below RO.out hb)
  have nRS_ := Aside0.mk (Kd.R_below RS.out hb)
  have nRU_ := Aside0.mk (Kd.R_below RU.out hb)
  have nRU2_ := Aside0.mk (Kd.R_below RU2.out hb)
  have nRL_ := Aside0.mk (Kd.R_below RL.out hb)
  have nRL2_ := Aside0.mk (Kd.R_below RL2.out hb)
  have nBD_ := Aside0.mk (blk_below BD.out hb)
  have nBE_ := Aside0.mk (blk_below BE.out hb)
  have nB := Aside0.mk (below_step HB.out hb)
  clear HB hb RO RS RU RU2 RL RL2 BD BE
  have HB := nB
  clear nB
  have RO := nRO_
  clear nRO_
  have RS := nRS_
  clear nRS_
  have RU := nRU_
  clear nRU_
  have RU2 := nRU2_
  clear nRU2_
  have RL := nRL_
  clear nRL_
  have RL2 := nRL2_
  clear nRL2_
  have BD := nBD_
  clear nBD_
  have BE := nBE_
  clear nBE_
  clear RU2
  have eBD0 : w17.cell? ⟨gBD, 0, none⟩ = some (.int .i64 d0) := (blk_cell BD.out 0).trans rfl
  have eBD1 : w17.cell? ⟨gBD, 1, none⟩ = some (.int .i64 d1) := (blk_cell BD.out 1).trans rfl
  have eBD2 : w17.cell? ⟨gBD, 2, none⟩ = some (.int .i64 d2) := (blk_cell BD.out 2).trans rfl
  have eBD3 : w17.cell? ⟨gBD, 3, none⟩ = some (.int .i64 d3) := (blk_cell BD.out 3).trans rfl
  have eBE0 : w17.cell? ⟨gBE, 0, none⟩ = some (.int .i64 d0) := (blk_cell BE.out 0).trans rfl
  have eBE1 : w17.cell? ⟨gBE, 1, none⟩ = some (.int .i64 d1) := (blk_cell BE.out 1).trans rfl
  have eBE2 : w17.cell? ⟨gBE, 2, none⟩ = some (.int .i64 d2) := (blk_cell BE.out 2).trans rfl
  have eBE3 : w17.cell? ⟨gBE, 3, none⟩ = some (.int .i64 d3) := (blk_cell BE.out 3).trans rfl
  (repeat ((fail_if_success (with_reducible refine gate_dst (N := 132) rfl ?_)); first | go_values | go_skip | go_guarded | go_step | go_upon))
  clear eBD0 eBD1 eBD2 eBD3 eBE0 eBE1 eBE2 eBE3
  clear BE
  (repeat ((fail_if_success (with_reducible refine gate_dst (N := 146) rfl ?_)); first | go_values | go_skip | go_guarded | go_step | go_upon))
  try go_guarded
  refine (laws_vPairs.calls k ARL cRL cl ARL2 cRL2 cl true _ (Kd.R_reads' RL.out).2.2 (Kd.R_reads' RL.out).2.1 (Kd.R_reads' RL2.out).2.2 (Kd.R_reads' RL2.out).2.1 HF.out.f146).mono ?_
  rintro e w18 ⟨rfl, hdr⟩
  have hb := hdr.below
  clear hdr
  dsimp only
  have nRO_ := Aside0.mk (Kd.R_below RO.out hb)
  have nRS_ := Aside0.mk (Kd.R_below RS.out hb)
  have nRU_ := Aside0.mk (Kd.R_below RU.out hb)
  have nRL_ := Aside0.mk (Kd.R_below RL.out hb)
  have nRL2_ := Aside0.mk (Kd.R_below RL2.out hb)
  have nBD_ := Aside0.mk (blk_below BD.out hb)
  have nB := Aside0.mk (below_step HB.out hb)
  clear HB hb RO RS RU RL RL2 BD
  have HB := nB
  clear nB
  have RO := nRO_
  clear nRO_
  have RS := nRS_
  clear nRS_
  have RU := nRU_
  clear nRU_
  have RL := nRL_
  clear nRL_
  have RL2 := nRL2_
  clear nRL2_
  have BD := nBD_
  clear nBD_
  clear RL2
  (repeat ((fail_if_success (with_reducible refine gate_dst (N := 152) rfl ?_)); first | go_values | go_skip | go_guarded | go_step | go_upon))
  try go_guarded
  refine (impl_IsSharing.calls k ARO cRO o ARS cRS sh ok _ (Kd.R_reads' RO.out).2.2 (Kd.R_reads' RO.out).2.1 (Kd.R_reads' RS.out).2.2 (Kd.R_reads' RS.out).2.1 HF.out.f152).mono ?_
  rintro e w19 ⟨rfl, hdr⟩
  have hb := hdr.below
  clear hdr
  dsimp only
  have nRO_ := Aside0.mk (Kd.R_below RO.out hb)
  have nRS_ := Aside0.mk (Kd.R_below RS.out hb)
  have nRU_ := Aside0.mk (Kd.R_below RU.out hb)
  have nRL_ := Aside0.mk (Kd.R_below RL.out hb)
  have nBD_ := Aside0.mk (blk_below BD.out hb)
  have nB := Aside0.mk (below_step HB.out hb)
  clear HB hb RO RS RU RL BD
  have HB := nB
  clear nB
  have RO := nRO_
  clear nRO_
  have RS := nRS_
  clear nRS_
  have RU := nRU_
  clear nRU_
  have RL := nRL_
  clear nRL_
  have BD := nBD_
  clear nBD_
  (repeat ((fail_if_success (with_reducible refine gate_dst (N := 155) rfl ?_)); first | go_values | go_skip | go_guarded | go_step | go_upon))
  try go_guarded
  refine (spec_IsSharing.calls k ARO cRO o ARS cRS sh ok _ (Kd.R_reads' RO.out).2.2 (Kd.R_reads' RO.out).2.1 (Kd.R_reads' RS.out).2.2 (Kd.R_reads' RS.out).2.1 HF.out.f155).mono ?_
  rintro e w20 ⟨rfl, hdr⟩
  have hb := hdr.below
  clear hdr
  dsimp only
  have nRO_ := Aside0.mk (Kd.R_below RO.out hb)
  have nRS_ := Aside0.mk (Kd.R_below RS.out hb)
  have nRU_ := Aside0.mk (Kd.R_below RU.out hb)
  have nRL_ := Aside0.mk (Kd.R_below RL.out hb)
  have nBD_ := Aside0.mk (blk_below BD.out hb)
  have nB := Aside0.mk (below_step HB.out hb)
  clear HB hb RO RS RU RL BD
  have HB := nB
  clear nB
  have RO := nRO_
  clear nRO_
  have RS := nRS_
  clear nRS_
  have RU := nRU_
  clear nRU_
  have RL := nRL_
  clear nRL_
  have BD := nBD_
  clear nBD_
  (repeat ((fail_if_success (with_reducible refine gate_dst (N := 162) rfl ?_)); first | go_values | go_skip | go_guarded | go_step | go_upon))
  try go_guarded
  refine (impl_IsSharing.calls k ARO cRO o ARS cRS sh ok _ (Kd.R_reads' RO.out).2.2 (Kd.R_reads' RO.out).2.1 (Kd.R_reads' RS.out).2.2 (Kd.R_reads' RS.out).2.1 HF.out.f162).mono ?_
  rintro e w21 ⟨rfl, hdr⟩
  have hb := hdr.below
  clear hdr
  dsimp only
  have nRO_ := Aside0.mk (Kd.R_below RO.out hb)
  have nRS_ := Aside0.mk (Kd.R_below RS.out hb)
  have nRU_ := Aside0.mk (Kd.R_below RU.out hb)
  have nRL_ := Aside0.mk (Kd.R_below RL.out hb)
  have nBD_ := Aside0.mk (blk_below BD.out hb)
  have nB := Aside0.mk (below_step HB.out hb)
  clear HB hb RO RS RU RL BD
  have HB := nB
  clear nB
  have RO := nRO_
  clear nRO_
  have RS := nRS_
  clear nRS_
  have RU := nRU_
  clear nRU_
  have RL := nRL_
  clear nRL_
  have BD := nBD_
  clear nBD_
  (repeat ((fail_if_success (with_reducible refine gate_dst (N := 183) rfl ?_)); first | go_values | go_skip | go_guarded | go_step | go_upon))
  refine guard_any (N := 183) (c := ok) (v := .bool cf) ?hw rfl ?hr ?_
  case hw => cases ok <;> rfl
  case hr => intro _; first | (go_simp; done) | (go_simp; rfl)
  intro x183 hx183
  simp only [Act.put, List.setIfInBounds_toArray, List.set_cons_zero, List.set_cons_succ]
  refine guard_any (N := 184) (c := ok) (v := .bool (!cf)) ?hw rfl ?hr ?_
  case hw => cases ok <;> rfl
  case hr => intro h_; have h2_ := hx183 h_; subst h2_; first | (go_simp; done) | (go_simp; rfl)
  intro x184 hx184
  simp only [Act.put, List.setIfInBounds_toArray, List.set_cons_zero, List.set_cons_succ]
  refine guard_any (N := 185) (c := true) (v := .bool false) ?hw rfl ?hr ?_
  case hw => rfl
  case hr =>
    intro _
    cases hc_ : ok
    · first | (go_simp; done) | (go_simp; rfl)
    · have h3_ : x184 = .bool false := (hx184 hc_).trans (by rw [HF.out.okC hc_]; rfl)
      subst h3_
      first | (go_simp; done) | (go_simp; rfl)
  intro x_ hx_
  obtain rfl := hx_ rfl
  simp only [Act.put, List.setIfInBounds_toArray, List.set_cons_zero, List.set_cons_succ]
  (repeat ((fail_if_success (with_reducible refine gate_dst (N := 187) rfl ?_)); first | go_values | go_skip | go_guarded | go_step | go_upon))
  cases ok with
  | false =>
    cases cf with
    | false =>
      go_wp2
      go_ret
      exact ⟨rfl, HB.out⟩
    | true =>
      (repeat ((fail_if_success (with_reducible refine gate_dst (N := 190) rfl ?_)); first | go_values | go_skip | go_guarded | go_step | go_upon))
      refine Kd.R_lit (Kd.int .i64) _ 3 ?hg (N := 190) ?hd (xs := ([2, 3, 1] : List Int)) (inner := [.int .i64 2, .int .i64 3, .int .i64 1]) (ok := fun _ => True) (okp := fun _ => True) ?hr ?hp (fun _ hk => hk) trivial (Below.refl _ _) (Nat.le_refl _) (by simp) ?_
      case hd => rfl
      case hg => rfl
      case hr => first | (go_simp; done) | (go_simp; rfl)
      case hp => exact (Reps.one (show Kd.M (Kd.int .i64) _ _ _ 2 [.int .i64 2] from rfl) (Reps.one (show Kd.M (Kd.int .i64) _ _ _ 3 [.int .i64 3] from rfl) (Reps.one (show Kd.M (Kd.int .i64) _ _ _ 1 [.int .i64 1] from rfl) (Reps.none _ _))))
      intro v_ w22 ho hb hg_ hnew_
      clear hg_ hnew_
      obtain ⟨ARP, cRP, e_RP⟩ := Kd.R_slice ho
      subst e_RP
      have nn_ := Aside0.mk (Kd.R_lower ho HB.out.size)
      have nRO_ := Aside0.mk (Kd.R_below RO.out hb)
      have nRS_ := Aside0.mk (Kd.R_below RS.out hb)
      have nRU_ := Aside0.mk (Kd.R_below RU.out hb)
      have nRL_ := Aside0.mk (Kd.R_below RL.out hb)
      have nBD_ := Aside0.mk (blk_below BD.out hb)
      have nB := Aside0.mk (below_step HB.out hb)
      clear HB hb ho RO RS RU RL BD
      have HB := nB
      clear nB
      have RO := nRO_
      clear nRO_
      have RS := nRS_
      clear nRS_
      have RU := nRU_
      clear nRU_
      have RL := nRL_
      clear nRL_
      have BD := nBD_
      clear nBD_
      have RP := nn_
      clear nn_
      (repeat ((fail_if_success (with_reducible refine gate_dst (N := 191) rfl ?_)); first | go_values | go_skip | go_guarded | go_step | go_upon))
      refine goesL_ (some 191) rfl rfl Try.func21 (by kernel_rfl) rfl #[.slice ARO o.length cRO, .slice ARP [2, 3, 1].length cRP] rfl (by (try simp only [List.map_toArray, List.map_cons, List.map_nil]); first | done | rfl) ?_
      refine (impl_ContainsPattern.calls k ARO cRO o ARP cRP [2, 3, 1] (decide (0 < cl.length)) true _ (Kd.R_reads' RO.out).2.2 (Kd.R_reads' RO.out).2.1 (Kd.R_reads' RP.out).2.2 (Kd.R_reads' RP.out).2.1 (HF.out.con rfl)).mono ?_
      rintro e w23 ⟨rfl, hb⟩
      refine ⟨_, rfl, ?_⟩
      have nRO_ := Aside0.mk (Kd.R_below RO.out hb)
      have nRS_ := Aside0.mk (Kd.R_below RS.out hb)
      have nRU_ := Aside0.mk (Kd.R_below RU.out hb)
      have nRL_ := Aside0.mk (Kd.R_below RL.out hb)
      have nRP_ := Aside0.mk (Kd.R_below RP.out hb)
      have nBD_ := Aside0.mk (blk_below BD.out hb)
      have nB := Aside0.mk (below_step HB.out hb)
      clear HB hb RO RS RU RL RP BD
      have HB := nB
      clear nB
      have RO := nRO_
      clear nRO_
      have RS := nRS_
      clear nRS_
      have RU := nRU_
      clear nRU_
      have RL := nRL_
      clear nRL_
      have RP := nRP_
      clear nRP_
      have BD := nBD_
      clear nBD_
      obtain ⟨nn, hnn⟩ : ∃ b, decide (0 < cl.length) = b := ⟨_, rfl⟩
      have hnn2 : decide ((cl.length : Int) > 0) = nn := by rw [← hnn]; exact decide_eq_decide.2 (by omega)
      have qn : (nn != nn) = false := bne_self_eq_false nn
      rw [hnn]
      clear RP
      go_wp2
      go_ret
      exact ⟨rfl, HB.out⟩
  | true =>
    obtain rfl := HF.out.okC rfl
    (repeat ((fail_if_success (with_reducible refine gate_dst (N := 190) rfl ?_)); first | go_values | go_skip | go_guarded | go_step | go_upon))
    refine Kd.R_lit (Kd.int .i64) _ 3 ?hg (N := 190) ?hd (xs := ([2, 3, 1] : List Int)) (inner := [.int .i64 2, .int .i64 3, .int .i64 1]) (ok := fun _ => True) (okp := fun _ => True) ?hr ?hp (fun _ hk => hk) trivial (Below.refl _ _) (Nat.le_refl _) (by simp) ?_
    case hd => rfl
    case hg => rfl
    case hr => first | (go_simp; done) | (go_simp; rfl)
    case hp => exact (Reps.one (show Kd.M (Kd.int .i64) _ _ _ 2 [.int .i64 2] from rfl) (Reps.one (show Kd.M (Kd.int .i64) _ _ _ 3 [.int .i64 3] from rfl) (Reps.one (show Kd.M (Kd.int .i64) _ _ _ 1 [.int .i64 1] from rfl) (Reps.none _ _))))
    intro v_ w22 ho hb hg_ hnew_
    clear hg_ hnew_
    obtain ⟨ARP, cRP, e_RP⟩ := Kd.R_slice ho
    subst e_RP
    have nn_ := Aside0.mk (Kd.R_lower ho HB.out.size)
    have nRO_ := Aside0.mk (Kd.R_below RO.out hb)
    have nRS_ := Aside0.mk (Kd.R_below RS.out hb)
    have nRU_ := Aside0.mk (Kd.R_below RU.out hb)
    have nRL_ := Aside0.mk (Kd.R_below RL.out hb)
    have nBD_ := Aside0.mk (blk_below BD.out hb)
    have nB := Aside0.mk (below_step HB.out hb)
    clear HB hb ho RO RS RU RL BD
    have HB := nB
    clear nB
    have RO := nRO_
    clear nRO_
    have RS := nRS_
    clear nRS_
    have RU := nRU_
    clear nRU_
    have RL := nRL_
    clear nRL_
    have BD := nBD_
    clear nBD_
    have RP := nn_
    clear nn_
    (repeat ((fail_if_success (with_reducible refine gate_dst (N := 191) rfl ?_)); first | go_values | go_skip | go_guarded | go_step | go_upon))
    refine goesL_ (some 191) rfl rfl Try.func21 (by kernel_rfl) rfl #[.slice ARO o.length cRO, .slice ARP [2, 3, 1].length cRP] rfl (by (try simp only [List.map_toArray, List.map_cons, List.map_nil]); first | done | rfl) ?_
    refine (impl_ContainsPattern.calls k ARO cRO o ARP cRP [2, 3, 1] (decide (0 < cl.length)) true _ (Kd.R_reads' RO.out).2.2 (Kd.R_reads' RO.out).2.1 (Kd.R_reads' RP.out).2.2 (Kd.R_reads' RP.out).2.1 (HF.out.con rfl)).mono ?_
    rintro e w23 ⟨rfl, hb⟩
    refine ⟨_, rfl, ?_⟩
    have nRO_ := Aside0.mk (Kd.R_below RO.out hb)
    have nRS_ := Aside0.mk (Kd.R_below RS.out hb)
    have nRU_ := Aside0.mk (Kd.R_below RU.out hb)
    have nRL_ := Aside0.mk (Kd.R_below RL.out hb)
    have nRP_ := Aside0.mk (Kd.R_below RP.out hb)
    have nBD_ := Aside0.mk (blk_below BD.out hb)
    have nB := Aside0.mk (below_step HB.out hb)
    clear HB hb RO RS RU RL RP BD
    have HB := nB
    clear nB
    have RO := nRO_
    clear nRO_
    have RS := nRS_
    clear nRS_
    have RU := nRU_
    clear nRU_
    have RL := nRL_
    clear nRL_
    have RP := nRP_
    clear nRP_
    have BD := nBD_
    clear nBD_
    obtain ⟨nn, hnn⟩ : ∃ b, decide (0 < cl.length) = b := ⟨_, rfl⟩
    have hnn2 : decide ((cl.length : Int) > 0) = nn := by rw [← hnn]; exact decide_eq_decide.2 (by omega)
    have qn : (nn != nn) = false := bne_self_eq_false nn
    rw [hnn]
    clear RP
    have HG := Aside0.mk (HF.out.law rfl)
    go_wp2
    clear hnn hnn2 qn
    go_loopg [27, 28] cl.length (fun kq v27 v28 w' => ∃ (i : Nat) (c : Bool), v27 = .bool c ∧ v28 = .int .i64 (i : Int) ∧ Aside0 (i + kq = cl.length) ∧ Aside0 (clashM sh (cl.drop i) c = !fits) ∧ Aside0 (Below w.heap.size w w') ∧ Aside0 (Kd.R (Kd.int .i64) 3 w' w.heap.size (fun _ => True) (.slice ARO o.length cRO) o) ∧ Aside0 (Kd.R (Kd.int .i64) 3 w' w.heap.size (fun _ => True) (.slice ARS sh.length cRS) sh) ∧ Aside0 (Kd.R (Kd.int .i64) 3 w' w.heap.size (fun _ => True) (.slice ARU out.length cRU) out) ∧ Aside0 (Kd.R k41 41 w' w.heap.size (fun _ => True) (.slice ARL cl.length cRL) cl) ∧ Aside0 (w'.heap[gBD]? = some (.cells #[.int .i64 d0, .int .i64 d1, .int .i64 d2, .int .i64 d3] 33 (0, 0))))
    case atStart => exact ⟨0, false, rfl, rfl, ⟨by omega⟩, ⟨HG.out.cla⟩, HB, RO, RS, RU, RL, BD⟩
    case round =>
      clear HB RO RS RU RL BD
      obtain ⟨i, c, rfl, rfl, HI, HM, HB, RO, RS, RU, RL, BD⟩ := hrel
      cases gk with
      | zero =>
        have c1 : decide (i < cl.length) = false := decide_eq_false (by have := HI.out; omega)
        have c1b : decide ((i : Int) < (cl.length : Int)) = false := decide_eq_false (by have := HI.out; omega)
        have hc_ : c = !fits := by have h_ := HM.out; rw [List.drop_eq_nil_of_le (by have := HI.out; omega)] at h_; exact h_
        subst hc_
        clear HM HI
        have k1 : (fits == !fits) = false := by cases fits <;> rfl
        have k2 : ((out.length : Int) == (o.length : Int)) = fits := by rw [← HG.out.all]; exact Bool.eq_iff_iff.2 (by simp only [beq_iff_eq, decide_eq_true_eq]; omega)
        have k2b : (out.length == o.length) = fits := by rw [← HG.out.all]; exact Bool.eq_iff_iff.2 (by simp only [beq_iff_eq, decide_eq_true_eq])
        have k3 : ((mv.size : Int) != wrap64 ((o.length : Int) + (out.length : Int))) = false := by rw [← HG.out.mvl]; exact bne_self_eq_false _
        have k4 := i64_w ((o.length : Int) + (out.length : Int))
        obtain ⟨w50, hw50⟩ : ∃ w', w' = wr := ⟨_, rfl⟩
        subst hw50
        go_wp2
        go_loopg [29] out.length (fun kq v29 w' => ∃ (i : Nat), v29 = .int .i64 (i : Int) ∧ Aside0 (i + kq = out.length) ∧ Aside0 (Below w.heap.size w w') ∧ Aside0 (Kd.R (Kd.int .i64) 3 w' w.heap.size (fun _ => True) (.slice ARO o.length cRO) o) ∧ Aside0 (Kd.R (Kd.int .i64) 3 w' w.heap.size (fun _ => True) (.slice ARS sh.length cRS) sh) ∧ Aside0 (Kd.R (Kd.int .i64) 3 w' w.heap.size (fun _ => True) (.slice ARU out.length cRU) out) ∧ Aside0 (Kd.R k41 41 w' w.heap.size (fun _ => True) (.slice ARL cl.length cRL) cl) ∧ Aside0 (w'.heap[gBD]? = some (.cells #[.int .i64 d0, .int .i64 d1, .int .i64 d2, .int .i64 d3] 33 (0, 0))))
        case atStart => exact ⟨0, rfl, ⟨by omega⟩, HB, RO, RS, RU, RL, BD⟩
        case round =>
          clear HB RO RS RU RL BD
          obtain ⟨i, rfl, HI, HB, RO, RS, RU, RL, BD⟩ := hrel
          cases gk with
          | zero =>
            have c1 : decide (i < out.length) = false := decide_eq_false (by have := HI.out; omega)
            have c1b : decide ((i : Int) < (out.length : Int)) = false := decide_eq_false (by have := HI.out; omega)
            clear HI
            obtain ⟨w60, hw60⟩ : ∃ w', w' = wr := ⟨_, rfl⟩
            subst hw60
            go_wp2
            go_loopg [30, 31] 4 (fun kq v30 v31 w' => ∃ (j : Nat) (s : Int), v30 = .int .i64 s ∧ v31 = .int .i64 (j : Int) ∧ Aside0 (j + kq = 4) ∧ Aside0 (sumM ([d0, d1, d2, d3].drop j) s = sumM [d0, d1, d2, d3] 0) ∧ Aside0 (Below w.heap.size w w') ∧ Aside0 (Kd.R (Kd.int .i64) 3 w' w.heap.size (fun _ => True) (.slice ARO o.length cRO) o) ∧ Aside0 (Kd.R (Kd.int .i64) 3 w' w.heap.size (fun _ => True) (.slice ARS sh.length cRS) sh) ∧ Aside0 (Kd.R (Kd.int .i64) 3 w' w.heap.size (fun _ => True) (.slice ARU out.length cRU) out) ∧ Aside0 (Kd.R k41 41 w' w.heap.size (fun _ => True) (.slice ARL cl.length cRL) cl) ∧ Aside0 (w'.heap[gBD]? = some (.cells #[.int .i64 d0, .int .i64 d1, .int .i64 d2, .int .i64 d3] 33 (0, 0))))
            case atStart => exact ⟨0, 0, rfl, rfl, ⟨by omega⟩, ⟨rfl⟩, HB, RO, RS, RU, RL, BD⟩
            case round =>
              clear HB RO RS RU RL BD
              obtain ⟨j, s, rfl, rfl, HJ, HS, HB, RO, RS, RU, RL, BD⟩ := hrel
              cases gk with
              | zero =>
                have c1 : decide (j < 4) = false := decide_eq_false (by have := HJ.out; omega)
                have c1b : decide ((j : Int) < 4) = false := decide_eq_false (by have := HJ.out; omega)
                have hs_ : s = sumM [d0, d1, d2, d3] 0 := by have h_ := HS.out; rw [List.drop_eq_nil_of_le (by have := HJ.out; simp; omega)] at h_; exact h_
                have c2 : decide (s ≤ (o.length : Int)) = true := decide_eq_true (by rw [hs_]; exact HG.out.sum)
                clear hs_ HS
                go_wp2
                go_ret
                exact ⟨rfl, HB.out⟩
              | succ m =>
                have hj_ : j < 4 := by have := HJ.out; omega
                have HJ4 := Aside0.mk hj_
                have c1 : decide (j < 4) = true := decide_eq_true hj_
                have c1b : decide ((j : Int) < 4) = true := decide_eq_true (by omega)
                clear hj_
                go_wp2
                go_loopg [32, 33] sh.length (fun kq v32 v33 w' => ∃ (i : Nat) (c : Bool), v32 = .bool c ∧ v33 = .int .i64 (i : Int) ∧ Aside0 (i + kq = sh.length) ∧ Aside0 (usedM (j : Int) (sh.drop i) c = usedM (j : Int) sh false) ∧ Aside0 (Below w.heap.size w w') ∧ Aside0 (Kd.R (Kd.int .i64) 3 w' w.heap.size (fun _ => True) (.slice ARO o.length cRO) o) ∧ Aside0 (Kd.R (Kd.int .i64) 3 w' w.heap.size (fun _ => True) (.slice ARS sh.length cRS) sh) ∧ Aside0 (Kd.R (Kd.int .i64) 3 w' w.heap.size (fun _ => True) (.slice ARU out.length cRU) out) ∧ Aside0 (Kd.R k41 41 w' w.heap.size (fun _ => True) (.slice ARL cl.length cRL) cl) ∧ Aside0 (w'.heap[gBD]? = some (.cells #[.int .i64 d0, .int .i64 d1, .int .i64 d2, .int .i64 d3] 33 (0, 0))))
                case atStart => exact ⟨0, false, rfl, rfl, ⟨by omega⟩, ⟨rfl⟩, HB, RO, RS, RU, RL, BD⟩
                case round =>
                  clear HB RO RS RU RL BD
                  obtain ⟨i, c, rfl, rfl, HI, HM, HB, RO, RS, RU, RL, BD⟩ := hrel
                  cases gk with
                  | zero =>
                    have c3 : decide (i < sh.length) = false := decide_eq_false (by have := HI.out; omega)
                    have c3b : decide ((i : Int) < (sh.length : Int)) = false := decide_eq_false (by have := HI.out; omega)
                    obtain ⟨dj, hdj⟩ : ∃ x : Int, [d0, d1, d2, d3].getD j 0 = x := ⟨_, rfl⟩
                    have hc_ : c = decide (0 < dj) := by have h_ := HM.out; rw [List.drop_eq_nil_of_le (by have := HI.out; omega)] at h_; exact (show c = usedM (j : Int) sh false from h_).trans (by rw [HG.out.used j HJ4.out, hdj])
                    subst hc_
                    have e1 : wr.cell? ⟨gBD, j, none⟩ = some (.int .i64 dj) := by
                      rw [← hdj]
                      refine (blk_cell BD.out j).trans ?_
                      have h_ := HJ4.out
                      rcases j with _ | _ | _ | _ | j <;> first | rfl | (exfalso; omega)
                    have hs_ : sumM ([d0, d1, d2, d3].drop (j + 1)) (wrap64 (s + dj)) = sumM [d0, d1, d2, d3] 0 := by
                      have h_ := HS.out
                      have h4_ := HJ4.out
                      rw [List.drop_eq_getElem_cons (show j < [d0, d1, d2, d3].length from h4_), sumM] at h_
                      rw [← hdj, List.getD_eq_getElem?_getD, List.getElem?_eq_getElem (show j < [d0, d1, d2, d3].length from h4_)]
                      exact h_
                    have p4 : (j < 4) = True := eq_true HJ4.out
                    have p4b : ((j : Int) < 4) = True := eq_true (by have := HJ4.out; omega)
                    have k1 : (decide (0 < dj) != decide (0 < dj)) = false := bne_self_eq_false _
                    have zj := wup_s j (by have := HJ4.out; omega)
                    clear hdj HM HI HS
                    obtain ⟨s2, hs2⟩ : ∃ x, wrap64 (s + dj) = x := ⟨_, rfl⟩
                    rw [hs2] at hs_
                    have hs3 := (i64_w (s + dj)).trans hs2
                    go_wp2
                    go_roundg m
                    case measure => omega
                    case rel => exact ⟨j + 1, s2, (by first | rfl | rw [hs2] | rw [hs3]), (by first | rfl | rw [zj]), ⟨by have := HJ.out; omega⟩, ⟨hs_⟩, HB, RO, RS, RU, RL, BD⟩
                  | succ d =>
                    have hi_ : i < sh.length := by have := HI.out; omega
                    have c3 : decide (i < sh.length) = true := decide_eq_true hi_
                    have c3b : decide ((i : Int) < (sh.length : Int)) = true := decide_eq_true (by omega)
                    have p1 : (i < sh.length) = True := eq_true hi_
                    have zi := wup_s i (by have := HG.out.lenS; omega)
                    obtain ⟨ad1, e1, y1⟩ := Kd.at_int (Kd.R_reads' RS.out).2.2 (i : Int) (by omega) (by omega)
                    subst e1
                    obtain ⟨x, hx⟩ : ∃ x, rd sh (i : Int) = x := ⟨_, rfl⟩
                    rw [hx, Int.toNat_natCast] at y1
                    have hxm : sh[i]'hi_ = x := by rw [← hx]; simp [rd, hi_]
                    have hm_ : usedM (j : Int) (sh.drop (i + 1)) (c || (x == (j : Int))) = usedM (j : Int) sh false := by
                      have h_ := HM.out
                      rw [List.drop_eq_getElem_cons hi_, hxm, usedM] at h_
                      exact h_
                    clear hx hxm HM hi_
                    cases c with
                    | true =>
                      rw [Bool.true_or] at hm_
                      go_wp2
                      go_roundg d
                      case measure => omega
                      case rel => exact ⟨i + 1, true, rfl, (by first | rfl | rw [zi]), ⟨by have := HI.out; omega⟩, ⟨hm_⟩, HB, RO, RS, RU, RL, BD⟩
                    | false =>
                      rw [Bool.false_or] at hm_
                      obtain ⟨b_, hb_⟩ : ∃ b_, (x == (j : Int)) = b_ := ⟨_, rfl⟩
                      rw [hb_] at hm_
                      go_wp2
                      go_roundg d
                      case measure => omega
                      case rel => exact ⟨i + 1, b_, rfl, (by first | rfl | rw [zi]), ⟨by have := HI.out; omega⟩, ⟨hm_⟩, HB, RO, RS, RU, RL, BD⟩
          | succ d =>
            have hi_ : i < out.length := by have := HI.out; omega
            have c1 : decide (i < out.length) = true := decide_eq_true hi_
            have c1b : decide ((i : Int) < (out.length : Int)) = true := decide_eq_true (by omega)
            have p1 : (i < out.length) = True := eq_true hi_
            have zi := wup_s i (by have := HG.out.lenU; omega)
            obtain ⟨ad1, e1, y1⟩ := Kd.at_int (Kd.R_reads' RU.out).2.2 (i : Int) (by omega) (by omega)
            rw [Int.toNat_natCast, HG.out.outs i hi_] at y1
            subst e1
            have k1 : (((i : Int) + 1) != wrap64 ((i : Int) + 1)) = false := by rw [zi]; exact bne_self_eq_false _
            have k2 : (((i + 1 : Nat) : Int) != wrap64 ((i : Int) + 1)) = false := by rw [zi]; exact bne_self_eq_false _
            go_wp2
            go_roundg d
            case measure => omega
            case rel => exact ⟨i + 1, (by first | rfl | rw [zi]), ⟨by have := HI.out; omega⟩, HB, RO, RS, RU, RL, BD⟩
      | succ d =>
        have hi_ : i < cl.length := by have := HI.out; omega
        have c1 : decide (i < cl.length) = true := decide_eq_true hi_
        have c1b : decide ((i : Int) < (cl.length : Int)) = true := decide_eq_true (by omega)
        have p1 : (i < cl.length) = True := eq_true hi_
        have zi := wup_s i (by have := HG.out.lenC; omega)
        obtain ⟨x, hx⟩ : ∃ x, rd_T41 cl (i : Int) = x := ⟨_, rfl⟩
        have hxm : cl[i]'hi_ = x := by rw [← hx]; simp [rd_T41, hi_]
        obtain ⟨ad1, e1, y1, y2⟩ := at_T41 (Kd.R_reads' RL.out).2.2 (i : Int) (by omega) (by omega)
        rw [hx] at y1 y2
        rw [Int.toNat_natCast] at y1 y2
        subst e1
        have hb_ := HG.out.clb x (by rw [← hxm]; exact List.getElem_mem hi_)
        obtain ⟨ad2, e2, y3⟩ := Kd.at_int (Kd.R_reads' RS.out).2.2 x.f0 hb_.1 hb_.2.1
        obtain ⟨ad3, e3, y4⟩ := Kd.at_int (Kd.R_reads' RS.out).2.2 x.f1 hb_.2.2.1 hb_.2.2.2
        obtain rfl : ad2 = ad3 := Option.some.inj (e2.symm.trans e3)
        clear e3
        subst e2
        have p2 := eq_true hb_.1
        have p3 := eq_true hb_.2.1
        have p4 := eq_true hb_.2.2.1
        have p5 := eq_true hb_.2.2.2
        have hm_ : clashM sh (cl.drop (i + 1)) (c || (rd sh x.f0 == rd sh x.f1)) = !fits := by
          have h_ := HM.out
          rw [List.drop_eq_getElem_cons hi_, hxm, clashM] at h_
          exact h_
        clear hb_ hx hxm hi_ HM
        cases c with
        | true =>
          rw [Bool.true_or] at hm_
          go_wp2
          repeat (go_quiet (fail); try go_wp2)
          go_roundg d
          case measure => omega
          case rel => exact ⟨i + 1, true, rfl, (by first | rfl | rw [zi]), ⟨by have := HI.out; omega⟩, ⟨hm_⟩, ⟨(by repeat (first | (with_reducible first | exact HB.out | apply below_alloc | apply pw_below_drewN | apply below_drew1) | exact HB.out))⟩, ⟨(by (with_reducible repeat (first | apply Kd.R_alloc | apply Kd.R_drewN | apply Kd.R_drew)); exact RO.out)⟩, ⟨(by (with_reducible repeat (first | apply Kd.R_alloc | apply Kd.R_drewN | apply Kd.R_drew)); exact RS.out)⟩, ⟨(by (with_reducible repeat (first | apply Kd.R_alloc | apply Kd.R_drewN | apply Kd.R_drew)); exact RU.out)⟩, ⟨(by (with_reducible repeat (first | apply Kd.R_alloc | apply Kd.R_drewN | apply Kd.R_drew)); exact RL.out)⟩, ⟨(by first | exact blk_drewN BD.out _ | exact blk_drew BD.out | exact BD.out)⟩⟩
        | false =>
          rw [Bool.false_or] at hm_
          obtain ⟨b_, hb_⟩ : ∃ b_, (rd sh x.f0 == rd sh x.f1) = b_ := ⟨_, rfl⟩
          rw [hb_] at hm_
          go_wp2
          repeat (go_quiet (fail); try go_wp2)
          go_roundg d
          case measure => omega
          case rel => exact ⟨i + 1, b_, rfl, (by first | rfl | rw [zi]), ⟨by have := HI.out; omega⟩, ⟨hm_⟩, ⟨(by repeat (first | (with_reducible first | exact HB.out | apply below_alloc | apply pw_below_drewN | apply below_drew1) | exact HB.out))⟩, ⟨(by (with_reducible repeat (first | apply Kd.R_alloc | apply Kd.R_drewN | apply Kd.R_drew)); exact RO.out)⟩, ⟨(by (with_reducible repeat (first | apply Kd.R_alloc | apply Kd.R_drewN | apply Kd.R_drew)); exact RS.out)⟩, ⟨(by (with_reducible repeat (first | apply Kd.R_alloc | apply Kd.R_drewN | apply Kd.R_drew)); exact RU.out)⟩, ⟨(by (with_reducible repeat (first | apply Kd.R_alloc | apply Kd.R_drewN | apply Kd.R_drew)); exact RL.out)⟩, ⟨(by first | exact blk_drewN BD.out _ | exact blk_drew BD.out | exact BD.out)⟩⟩
set_option maxHeartbeats 4000000 in
set_option maxRecDepth 100000 in
theorem laws_FnConflicts.big (A0 : Option Addr) (c0 : Nat) (l0 : List Int) (w : World) (hr0 : Kd.C (Kd.int .u8) w A0 l0.length l0) (hc0 : l0.length ≤ c0) (h : laws_vBig.f l0 = some true) :
    Calls Try.prog 3 #[.slice A0 l0.length c0] w fun e w' => e = .returned (.bool true) ∧ Below w.heap.size w w' := by
  have HB := Aside0.mk (Below.refl w.heap.size w)
  go_enter Try.func3, Try.ntmps3
  (repeat ((fail_if_success (with_reducible refine gate_dst (N := 35) rfl ?_)); first | go_values | go_skip | go_guarded | go_step | go_upon))
  refine goesL_ (some 35) rfl rfl Try.func5 (by kernel_rfl) rfl #[.slice A0 l0.length c0] rfl (by (try simp only [List.map_toArray, List.map_cons, List.map_nil]); first | done | rfl) ?_
  refine (laws_vBig.calls A0 c0 l0 true w hr0 hc0 h).mono ?_
  rintro e w1 ⟨rfl, hdr⟩
  refine ⟨_, rfl, ?_⟩
  have nB := Aside0.mk (below_step HB.out hdr.below)
  clear HB hdr
  go_wp2
  go_ret
  exact ⟨rfl, nB.out⟩
def laws_FnConflicts.Pure : Prop := ∀ (l0 : List Int), l0.length ≤ maxLen → l0.length * 1 ≤ 140737488351232 → (∀ x ∈ l0, (Lit.int .u8 x).wf = true) → laws_vBig.f l0 = some false → ∃ k o sh fits ok mv out d0 d1 d2 d3 cl cf, laws_FnConflicts.Fact k l0 o sh fits ok mv out d0 d1 d2 d3 cl cf
theorem laws_FnConflicts.walk (P : laws_FnConflicts.Pure) (a0 : Option Addr) (len0 cap0 : Nat) (z0 : List Int) (w : World) (w0 : (a0 = none ∧ len0 = 0 ∧ cap0 = 0 ∧ z0 = []) ∨ ∃ x, a0 = some x ∧ len0 ≤ cap0 ∧ cap0 ≤ maxLen ∧ z0.length = cap0 ∧ (∀ i, i < z0.length → w.cell? (x.add i) = some (.int .u8 (z0.getD i 0))) ∧ ∀ n ∈ z0, (Lit.int .u8 n).wf = true) (y0 : len0 * 1 ≤ 140737488351232) :
    Calls Try.prog 3 #[.slice a0 len0 cap0] w fun e w' => e = .returned (.bool true) ∧ Below w.heap.size w w' := by
  obtain ⟨l0, rfl, hr0, hm0, hw0, hc0⟩ := ReadsInt.ofRowC w0
  have hC := Kd.C_of_reads (d := (0 : Int)) (h1 := fun _ => rfl) hr0
  cases hb : decide ((l0.length : Int) > 65536) with
  | true => exact laws_FnConflicts.big _ _ l0 w hC hc0 (by unfold laws_vBig.f; rw [hb])
  | false =>
    obtain ⟨k, o, sh, fits, ok, mv, out, d0, d1, d2, d3, cl, cf, h⟩ := P l0 hm0 y0 hw0 (by unfold laws_vBig.f; rw [hb])
    exact laws_FnConflicts.calls _ _ k l0 o sh fits ok mv out d0 d1 d2 d3 cl cf w hC hc0 h
end Go.Proofs.Ytmgekfoiamjijaa.PFnConflicts
