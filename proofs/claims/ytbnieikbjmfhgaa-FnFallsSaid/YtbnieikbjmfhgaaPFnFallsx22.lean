-- laid by mkprint.py, a program of this claim's writer, over the kit's print program; parts of it are typed by hand
import Derived.Test.YtbnieikbjmfhgaaPFnFallsx0
import Derived.Test.YtbnieikbjmfhgaaPFnFallsx1
import Derived.Test.YtbnieikbjmfhgaaPFnFallsx2
import Derived.Test.YtbnieikbjmfhgaaPFnFallsx6
import Derived.Test.YtbnieikbjmfhgaaPFnFallsx8
import Derived.Test.YtbnieikbjmfhgaaPFnFallsx9
import Derived.Test.YtbnieikbjmfhgaaPFnFallsx11
import Derived.Test.YtbnieikbjmfhgaaPFnFallsx13
import Derived.Test.YtbnieikbjmfhgaaPFnFallsx16
import Derived.Test.YtbnieikbjmfhgaaPFnFallsx17
import Derived.Test.YtbnieikbjmfhgaaPFnFallsx18
import Derived.Test.YtbnieikbjmfhgaaPFnFallsx19
import Derived.Test.YtbnieikbjmfhgaaPFnFallsx20
import Derived.Test.YtbnieikbjmfhgaaPFnFallsx21
namespace Go.Proofs.Ytbnieikbjmfhgaa.PFnFalls
open Go.RowKit Go.Proofs.YtbnieikbjmfhgaaW.PrintWords Go.Proofs.YtbnieikbjmfhgaaW.PrintLast Go.Proofs.YtbnieikbjmfhgaaW.PrintMore
attribute [local go_sem] max2_int min2_int max_two min_two max_three min_three max_four min_four
set_option linter.unusedVariables false
set_option linter.unusedSimpArgs false
theorem gate_reg {P : Program} (id : Nat) {ops : Array Oper} {dr : Bool} {x : Code} {Q : Exit → Act → World → Prop} {a : Act} {w : World} (h : ((Code.region id ops dr).seq x).wp P Q a w) : ((Code.region id ops dr).seq x).wp P Q a w := h
theorem gate_if {P : Program} (id : Nat) {ops : Array Oper} {dr : Bool} {x y : Code} {Q : Exit → Act → World → Prop} {a : Act} {w : World} (h : (((Code.region id ops dr).seq x).seq y).wp P Q a w) : (((Code.region id ops dr).seq x).seq y).wp P Q a w := h
theorem wp_joina {P : Program} {x y : Code} {Q : Exit → Act → World → Prop} {a : Act} {w : World} (R : Act → Act → World → Prop) (hx : x.wp P (Exit.then (R a) Q) a w) (hy : ∀ a' w', R a a' w' → y.wp P Q a' w') : (x.seq y).wp P Q a w :=
  wp_seq (wp_mono hx (by intro e a w h; cases e <;> first | exact hy _ _ h | exact h))
theorem guard_any {P : Program} {ops : Array Oper} {rest : List Oper} {o : Oper} {a : Act} {Q : Exit → Act → World → Prop} {W : World} {N : Tmp} {c : Bool} {v : Value} (hw : Region.wanted o (yielded ops a.tmps) = c) (hN : o.dst = some N)
    (hrun : c = true → (execOp a.eval o).run P W = .ok (.value v) W) (h : ∀ x : Value, (c = true → x = v) → wpList P ops Q rest (a.put (some N) x) W) : wpList P ops Q (o :: rest) a W := by
  cases c with
  | false => exact wpList_skip hw (by rw [hN]; exact h undef (fun e => by cases e))
  | true =>
    refine wpList_step fun K hK => ?_
    rw [if_pos hw]
    unfold Oper.wp
    rw [hrun rfl]
    show K (a.put o.dst v) W
    rw [hN]
    exact hK _ _ (h v (fun _ => rfl))
def overL : List Value → List Value → List Value
  | l, [] => l
  | _ :: l, x :: xs => x :: overL l xs
  | [], _ :: _ => []
def setRun : List Value → Nat → List Value → List Value
  | l, 0, xs => overL l xs
  | a :: l, n + 1, xs => a :: setRun l n xs
  | [], _ + 1, _ => []
theorem overL_nil (l : List Value) : overL l [] = l := by cases l <;> rfl
theorem overL_cons (a x : Value) (l xs : List Value) : overL (a :: l) (x :: xs) = x :: overL l xs := rfl
theorem setRun_zero (l xs : List Value) : setRun l 0 xs = overL l xs := by cases l <;> rfl
theorem setRun_succ (a : Value) (l : List Value) (n : Nat) (xs : List Value) : setRun (a :: l) (n + 1) xs = a :: setRun l n xs := rfl
def putRuns (a : Act) (r : List (Nat × List Value)) : Act := ⟨(r.foldl (fun l p => setRun l p.1 p.2) a.tmps.toList).toArray, a.defers⟩
def cutRun (a : Act) : Nat → Nat → List Value
  | _, 0 => []
  | p, n + 1 => a.tmps.toList.getD p undef :: cutRun a (p + 1) n
def Joined (a a' : Act) (rs : List (Nat × Nat)) : Prop := a' = putRuns a (rs.map fun p => (p.1, cutRun a' p.1 p.2))
theorem Joined.of {a a' : Act} {rs : List (Nat × Nat)} (h : a' = putRuns a (rs.map fun p => (p.1, cutRun a' p.1 p.2))) : Joined a a' rs := h
theorem wdn_s (j q : Nat) (h : q + 1 = j) (hj : j ≤ 17592186044416) : wrap64 ((j : Int) - 1) = (q : Int) := by rw [IntWalk.wrap64_in _ (by omega)]; omega
theorem wadd_s (a m s : Nat) (h : a + m = s) (hs : s ≤ 17592186044416) : wrap64 ((a : Int) + (m : Int)) = (s : Int) := by rw [IntWalk.wrap64_in _ (by omega)]; omega
theorem wup_s (i : Nat) (h : i ≤ 17592186044416) : wrap64 ((i : Int) + 1) = ((i + 1 : Nat) : Int) := by rw [IntWalk.wrap64_in _ (by omega)]; omega
def okFalls (x : List Int) : List Int → Nat → Prop
  | [], _ => True
  | f :: t, a => ∃ m : Nat, f = (m : Int) ∧ 1 ≤ m ∧ a + m ≤ x.length ∧ (∀ j : Nat, a < j → j < a + m → rd x (j : Int) ≤ rd x ((j - 1 : Nat) : Int)) ∧ (a + m < x.length → rd x ((a + m - 1 : Nat) : Int) ≤ rd x ((a + m : Nat) : Int)) ∧ okFalls x t (a + m)
def swOk (k : Nat) : Nat → List Int → Prop
  | 0, l => laws_rSorted.f k l = some true
  | m + 1, l => laws_rSorted.f k l = some false ∧ ∃ l2 : List Int, impl_FallSweep.f k l = some (l2, true) ∧ swOk k m l2
structure laws_FnFalls.Fact (k : Nat) (l0 : List Int) (o : List Int) (many : Int) (ok : Bool) (x : List Int) (lay : Bool) (one : Bool) (fl : List Int) (sw : List Int) (y : List Int) (tc : Int) (four : Bool) (n : Int) (most : Int) (first : List Int) (five : Bool) (z : List Int) (fr : List (List Int)) (six : Bool) : Prop where
  f51 : laws_rBig.f l0 = some (false)
  f53 : spec_DrawCountFallSweeps.f l0 = some (o)
  f56 : impl_CountFallSweeps.f k o = some (many, ok)
  f61 : spec_CountFallSweeps.f k o = some (many, ok)
  f82 : spec_DrawIsLayered.f k l0 = some (x)
  f85 : impl_IsLayered.f k x = some (lay, one)
  f90 : spec_IsLayered.f k x = some (lay, one)
  f104 : impl_IsOrder.f k x = some (one)
  f109 : impl_FallsOf.f k x = some (fl, one)
  f114 : spec_FallsOf.f k x = some (fl, one)
  f128 : laws_rInts.f k fl fl = some (true)
  f133 : impl_FallSweep.f k x = some (sw, one)
  f138 : spec_FallSweep.f k x = some (sw, one)
  f152 : laws_rInts.f k sw sw = some (true)
  f165 : spec_DrawCountTwoCuts.f l0 = some (y)
  f168 : impl_CountTwoCuts.f k y = some (tc, four)
  f173 : spec_CountTwoCuts.f k y = some (tc, four)
  f185 : spec_DrawMostFallSweeps.f l0 = some (n)
  f188 : impl_MostFallSweeps.f k n = some (most, first, five)
  f194 : spec_MostFallSweeps.f k n = some (most, first, five)
  f209 : laws_rInts.f k first first = some (true)
  f213 : spec_DrawFallSweptFrom.f k l0 = some (z)
  f216 : impl_FallSweptFrom.f k z = some (fr, six)
  f221 : spec_FallSweptFrom.f k z = some (fr, six)
  f230 : laws_rLists.f k fr fr = some (true)
  manyL : ok = true → decide (many ≥ (o.length : Int)) = false
  srt : one = true → laws_rSorted.f k sw = some lay
  lenR : fr.length ≤ 1000000
  each : ∀ q ∈ fr, impl_FallSweep.f k q = some (z, true)
  zz : laws_rInts.f k z z = some true
  cfs : five = true → impl_CountFallSweeps.f k first = some (most, true)
  mst : five = true → ok = true → ((o.length : Int) == n) = true → decide (many > most) = false
  flw : one = true → okFalls x fl 0
  lenF : fl.length ≤ 1000000
  lenX : x.length ≤ 1000000
  swp : ok = true → ∃ mm : Nat, many = (mm : Int) ∧ mm ≤ 1000000 ∧ swOk k mm o
set_option maxHeartbeats 16000000 in
set_option maxRecDepth 100000 in
theorem laws_FnFalls.calls (A0 : Option Addr) (c0 : Nat) (k : Nat) (l0 : List Int) (o : List Int) (many : Int) (ok : Bool) (x : List Int) (lay : Bool) (one : Bool) (fl : List Int) (sw : List Int) (y : List Int) (tc : Int) (four : Bool) (n : Int) (most : Int) (first : List Int) (five : Bool) (z : List Int) (fr : List (List Int)) (six : Bool) (w : World) (hr0 : Kd.C (Kd.int .u8) w A0 l0.length l0) (hc0 : l0.length ≤ c0) (hF : laws_FnFalls.Fact k l0 o many ok x lay one fl sw y tc four n most first five z fr six) :
    Calls Try.prog 4 #[.slice A0 l0.length c0] w fun e w' => e = .returned (.bool true) ∧ Below w.heap.size w w' := by
  have HR0 := Aside0.mk hr0
  have HC0 := Aside0.mk hc0
  have HF := Aside0.mk hF
  have HB := Aside0.mk (Below.refl w.heap.size w)
  clear hr0 hc0 hF
  go_enter Try.func4, Try.ntmps4
  have q_ok : (ok != ok) = false := bne_self_eq_false ok
  have q_many : (many != many) = false := bne_self_eq_false many
  have q_one : (one != one) = false := bne_self_eq_false one
  have q_lay : (lay != lay) = false := bne_self_eq_false lay
  have q_tc : (tc != tc) = false := bne_self_eq_false tc
  have q_four : (four != four) = false := bne_self_eq_false four
  have q_most : (most != most) = false := bne_self_eq_false most
  have q_five : (five != five) = false := bne_self_eq_false five
  have q_six : (six != six) = false := bne_self_eq_false six
  (repeat ((fail_if_success (with_reducible refine gate_dst (N := 51) rfl ?_)); first | go_values | go_skip | go_guarded | go_step | go_upon))
  refine goesL_ (some 51) rfl rfl Try.func5 (by kernel_rfl) rfl #[.slice A0 l0.length c0] rfl (by (try simp only [List.map_toArray, List.map_cons, List.map_nil]); first | done | rfl) ?_
  refine (laws_rBig.calls A0 c0 l0 false _ (Kd.C_below HR0.out HB.out) HC0.out HF.out.f51).mono ?_
  rintro e w1 ⟨rfl, hdr⟩
  have hb := hdr.below
  clear hdr
  refine ⟨_, rfl, ?_⟩
  have nB := Aside0.mk (below_step HB.out hb)
  clear HB hb
  have HB := nB
  clear nB
  (repeat ((fail_if_success (with_reducible refine gate_dst (N := 53) rfl ?_)); first | go_values | go_skip | go_guarded | go_step | go_upon))
  refine goesL_ (some 53) rfl rfl Try.func29 (by kernel_rfl) rfl #[.slice A0 l0.length c0] rfl (by (try simp only [List.map_toArray, List.map_cons, List.map_nil]); first | done | rfl) ?_
  refine (spec_DrawCountFallSweeps.calls A0 c0 l0 o _ (Kd.C_below HR0.out HB.out) HC0.out HF.out.f53).mono ?_
  rintro e w2 ⟨v0_, rfl, ho0, hb⟩
  refine ⟨_, rfl, ?_⟩
  obtain ⟨ARO, cRO, e_RO⟩ := Kd.R_slice ho0
  subst e_RO
  have nn0_ := Aside0.mk (Kd.R_lower (Kd.R_mono ho0 (fun _ _ => trivial)) HB.out.size)
  have nB := Aside0.mk (below_step HB.out hb)
  clear HB hb  ho0
  have HB := nB
  clear nB
  have RO := nn0_
  clear nn0_
  (repeat ((fail_if_success (with_reducible refine gate_dst (N := 56) rfl ?_)); first | go_values | go_skip | go_guarded | go_step | go_upon))
  refine goesL_ (some 56) rfl rfl Try.func30 (by kernel_rfl) rfl #[.slice ARO o.length cRO] rfl (by (try simp only [List.map_toArray, List.map_cons, List.map_nil]); first | done | rfl) ?_
  refine (impl_CountFallSweeps.calls k ARO cRO o many ok _ (Kd.R_reads' RO.out).2.2 (Kd.R_reads' RO.out).2.1 HF.out.f56).mono ?_
  rintro e w3 ⟨rfl, hb⟩
  refine ⟨_, rfl, ?_⟩
  have nRO_ := Aside0.mk (Kd.R_below RO.out hb)
  have nB := Aside0.mk (below_step HB.out hb)
  clear HB hb RO
  have HB := nB
  clear nB
  have RO := nRO_
  clear nRO_
  (repeat ((fail_if_success (with_reducible refine gate_dst (N := 61) rfl ?_)); first | go_values | go_skip | go_guarded | go_step | go_upon))
  refine goesL_ (some 61) rfl rfl Try.func31 (by kernel_rfl) rfl #[.slice ARO o.length cRO] rfl (by (try simp only [List.map_toArray, List.map_cons, List.map_nil]); first | done | rfl) ?_
  refine (spec_CountFallSweeps.calls k ARO cRO o many ok _ (Kd.R_reads' RO.out).2.2 (Kd.R_reads' RO.out).2.1 HF.out.f61).mono ?_
  rintro e w4 ⟨rfl, hb⟩
  refine ⟨_, rfl, ?_⟩
  have nRO_ := Aside0.mk (Kd.R_below RO.out hb)
  have nB := Aside0.mk (below_step HB.out hb)
  clear HB hb RO
  have HB := nB
  clear nB
  have RO := nRO_
  clear nRO_
  (repeat ((fail_if_success (with_reducible refine gate_dst (N := 75) rfl ?_)); first | go_values | go_skip | go_guarded | go_step | go_upon))
  refine guard_any (N := 75) (c := ok) (v := .int .i64 many) ?hw rfl ?hr ?_
  case hw => cases ok <;> rfl
  case hr => intro h_; first | (go_simp; done) | (go_simp; rfl)
  intro x75 hx75
  simp only [Act.put, List.setIfInBounds_toArray, List.set_cons_zero, List.set_cons_succ]
  refine guard_any (N := 76) (c := ok) (v := .slice ARO o.length cRO) ?hw rfl ?hr ?_
  case hw => cases ok <;> rfl
  case hr => intro h_; have h75_ := hx75 h_; subst h75_; first | (go_simp; done) | (go_simp; rfl)
  intro x76 hx76
  simp only [Act.put, List.setIfInBounds_toArray, List.set_cons_zero, List.set_cons_succ]
  refine guard_any (N := 77) (c := ok) (v := .int .i64 (o.length : Int)) ?hw rfl ?hr ?_
  case hw => cases ok <;> rfl
  case hr => intro h_; have h75_ := hx75 h_; subst h75_; have h76_ := hx76 h_; subst h76_; first | (go_simp; done) | (go_simp; rfl)
  intro x77 hx77
  simp only [Act.put, List.setIfInBounds_toArray, List.set_cons_zero, List.set_cons_succ]
  refine guard_any (N := 78) (c := ok) (v := .bool (decide (many ≥ (o.length : Int)))) ?hw rfl ?hr ?_
  case hw => cases ok <;> rfl
  case hr => intro h_; have h75_ := hx75 h_; subst h75_; have h76_ := hx76 h_; subst h76_; have h77_ := hx77 h_; subst h77_; first | (go_simp; done) | (go_simp; rfl)
  intro x78 hx78
  simp only [Act.put, List.setIfInBounds_toArray, List.set_cons_zero, List.set_cons_succ]
  refine guard_any (N := 79) (c := true) (v := .bool false) ?hw rfl ?hr ?_
  case hw => rfl
  case hr =>
    intro _
    cases hc_ : ok
    · first | (go_simp; done) | (go_simp; rfl)
    · have h3_ : x78 = .bool false := (hx78 hc_).trans (by rw [HF.out.manyL hc_])
      subst h3_
      first | (go_simp; done) | (go_simp; rfl)
  intro x_ hx_
  obtain rfl := hx_ rfl
  simp only [Act.put, List.setIfInBounds_toArray, List.set_cons_zero, List.set_cons_succ]
  clear hx75 hx76 hx77 hx78 hx_
  (repeat ((fail_if_success (with_reducible refine gate_dst (N := 82) rfl ?_)); first | go_values | go_skip | go_guarded | go_step | go_upon))
  refine goesL_ (some 82) rfl rfl Try.func32 (by kernel_rfl) rfl #[.slice A0 l0.length c0] rfl (by (try simp only [List.map_toArray, List.map_cons, List.map_nil]); first | done | rfl) ?_
  refine (spec_DrawIsLayered.calls k A0 c0 l0 x _ (Kd.C_below HR0.out HB.out) HC0.out HF.out.f82).mono ?_
  rintro e w5 ⟨v0_, rfl, ho0, hb⟩
  refine ⟨_, rfl, ?_⟩
  obtain ⟨ARX, cRX, e_RX⟩ := Kd.R_slice ho0
  subst e_RX
  have nn0_ := Aside0.mk (Kd.R_lower (Kd.R_mono ho0 (fun _ _ => trivial)) HB.out.size)
  have nRO_ := Aside0.mk (Kd.R_below RO.out hb)
  have nB := Aside0.mk (below_step HB.out hb)
  clear HB hb RO ho0
  have HB := nB
  clear nB
  have RO := nRO_
  clear nRO_
  have RX := nn0_
  clear nn0_
  (repeat ((fail_if_success (with_reducible refine gate_dst (N := 85) rfl ?_)); first | go_values | go_skip | go_guarded | go_step | go_upon))
  refine goesL_ (some 85) rfl rfl Try.func33 (by kernel_rfl) rfl #[.slice ARX x.length cRX] rfl (by (try simp only [List.map_toArray, List.map_cons, List.map_nil]); first | done | rfl) ?_
  refine (impl_IsLayered.calls k ARX cRX x lay one _ (Kd.R_reads' RX.out).2.2 (Kd.R_reads' RX.out).2.1 HF.out.f85).mono ?_
  rintro e w6 ⟨rfl, hb⟩
  refine ⟨_, rfl, ?_⟩
  have nRO_ := Aside0.mk (Kd.R_below RO.out hb)
  have nRX_ := Aside0.mk (Kd.R_below RX.out hb)
  have nB := Aside0.mk (below_step HB.out hb)
  clear HB hb RO RX
  have HB := nB
  clear nB
  have RO := nRO_
  clear nRO_
  have RX := nRX_
  clear nRX_
  (repeat ((fail_if_success (with_reducible refine gate_dst (N := 90) rfl ?_)); first | go_values | go_skip | go_guarded | go_step | go_upon))
  refine goesL_ (some 90) rfl rfl Try.func34 (by kernel_rfl) rfl #[.slice ARX x.length cRX] rfl (by (try simp only [List.map_toArray, List.map_cons, List.map_nil]); first | done | rfl) ?_
  refine (spec_IsLayered.calls k ARX cRX x lay one _ (Kd.R_reads' RX.out).2.2 (Kd.R_reads' RX.out).2.1 HF.out.f90).mono ?_
  rintro e w7 ⟨rfl, hb⟩
  refine ⟨_, rfl, ?_⟩
  have nRO_ := Aside0.mk (Kd.R_below RO.out hb)
  have nRX_ := Aside0.mk (Kd.R_below RX.out hb)
  have nB := Aside0.mk (below_step HB.out hb)
  clear HB hb RO RX
  have HB := nB
  clear nB
  have RO := nRO_
  clear nRO_
  have RX := nRX_
  clear nRX_
  (repeat ((fail_if_success (with_reducible refine gate_dst (N := 104) rfl ?_)); first | go_values | go_skip | go_guarded | go_step | go_upon))
  refine goesG_ (some 104) rfl rfl Try.func35 (by kernel_rfl) rfl #[.slice ARX x.length cRX] rfl (by (try simp only [List.map_toArray, List.map_cons, List.map_nil]); first | done | rfl) ?_
  refine (impl_IsOrder.calls k ARX cRX x one _ (Kd.R_reads' RX.out).2.2 (Kd.R_reads' RX.out).2.1 HF.out.f104).mono ?_
  rintro e w8 ⟨rfl, hdr⟩
  have hb := hdr.below
  clear hdr
  refine ⟨_, rfl, ?_⟩
  have nRO_ := Aside0.mk (Kd.R_below RO.out hb)
  have nRX_ := Aside0.mk (Kd.R_below RX.out hb)
  have nB := Aside0.mk (below_step HB.out hb)
  clear HB hb RO RX
  have HB := nB
  clear nB
  have RO := nRO_
  clear nRO_
  have RX := nRX_
  clear nRX_
  (repeat ((fail_if_success (with_reducible refine gate_dst (N := 109) rfl ?_)); first | go_values | go_skip | go_guarded | go_step | go_upon))
  refine goesL_ (some 109) rfl rfl Try.func36 (by kernel_rfl) rfl #[.slice ARX x.length cRX] rfl (by (try simp only [List.map_toArray, List.map_cons, List.map_nil]); first | done | rfl) ?_
  refine (impl_FallsOf.calls k ARX cRX x fl one _ (Kd.R_reads' RX.out).2.2 (Kd.R_reads' RX.out).2.1 HF.out.f109).mono ?_
  rintro e w9 ⟨v0_, rfl, ho0, hb⟩
  refine ⟨_, rfl, ?_⟩
  obtain ⟨ARF, cRF, e_RF⟩ := Kd.R_slice ho0
  subst e_RF
  have nn0_ := Aside0.mk (Kd.R_lower (Kd.R_mono ho0 (fun _ _ => trivial)) HB.out.size)
  have nRO_ := Aside0.mk (Kd.R_below RO.out hb)
  have nRX_ := Aside0.mk (Kd.R_below RX.out hb)
  have nB := Aside0.mk (below_step HB.out hb)
  clear HB hb RO RX ho0
  have HB := nB
  clear nB
  have RO := nRO_
  clear nRO_
  have RX := nRX_
  clear nRX_
  have RF := nn0_
  clear nn0_
  (repeat ((fail_if_success (with_reducible refine gate_dst (N := 114) rfl ?_)); first | go_values | go_skip | go_guarded | go_step | go_upon))
  refine goesL_ (some 114) rfl rfl Try.func37 (by kernel_rfl) rfl #[.slice ARX x.length cRX] rfl (by (try simp only [List.map_toArray, List.map_cons, List.map_nil]); first | done | rfl) ?_
  refine (spec_FallsOf.calls k ARX cRX x fl one _ (Kd.R_reads' RX.out).2.2 (Kd.R_reads' RX.out).2.1 HF.out.f114).mono ?_
  rintro e w10 ⟨v0_, rfl, ho0, hb⟩
  refine ⟨_, rfl, ?_⟩
  obtain ⟨ARF2, cRF2, e_RF2⟩ := Kd.R_slice ho0
  subst e_RF2
  have nn0_ := Aside0.mk (Kd.R_lower (Kd.R_mono ho0 (fun _ _ => trivial)) HB.out.size)
  have nRO_ := Aside0.mk (Kd.R_below RO.out hb)
  have nRX_ := Aside0.mk (Kd.R_below RX.out hb)
  have nRF_ := Aside0.mk (Kd.R_below RF.out hb)
  have nB := Aside0.mk (below_step HB.out hb)
  clear HB hb RO RX RF ho0
  have HB := nB
  clear nB
  have RO := nRO_
  clear nRO_
  have RX := nRX_
  clear nRX_
  have RF := nRF_
  clear nRF_
  have RF2 := nn0_
  clear nn0_
  (repeat ((fail_if_success (with_reducible refine gate_dst (N := 128) rfl ?_)); first | go_values | go_skip | go_guarded | go_step | go_upon))
  refine goesG_ (some 128) rfl rfl Try.func9 (by kernel_rfl) rfl #[.slice ARF fl.length cRF, .slice ARF2 fl.length cRF2] rfl (by (try simp only [List.map_toArray, List.map_cons, List.map_nil]); first | done | rfl) ?_
  refine (laws_rInts.calls k ARF cRF fl ARF2 cRF2 fl true _ (Kd.R_reads' RF.out).2.2 (Kd.R_reads' RF.out).2.1 (Kd.R_reads' RF2.out).2.2 (Kd.R_reads' RF2.out).2.1 HF.out.f128).mono ?_
  rintro e w11 ⟨rfl, hdr⟩
  have hb := hdr.below
  clear hdr
  refine ⟨_, rfl, ?_⟩
  have nRO_ := Aside0.mk (Kd.R_below RO.out hb)
  have nRX_ := Aside0.mk (Kd.R_below RX.out hb)
  have nRF_ := Aside0.mk (Kd.R_below RF.out hb)
  have nRF2_ := Aside0.mk (Kd.R_below RF2.out hb)
  have nB := Aside0.mk (below_step HB.out hb)
  clear HB hb RO RX RF RF2
  have HB := nB
  clear nB
  have RO := nRO_
  clear nRO_
  have RX := nRX_
  clear nRX_
  have RF := nRF_
  clear nRF_
  have RF2 := nRF2_
  clear nRF2_
  clear RF2
  (repeat ((fail_if_success (with_reducible refine gate_dst (N := 133) rfl ?_)); first | go_values | go_skip | go_guarded | go_step | go_upon))
  refine goesL_ (some 133) rfl rfl Try.func38 (by kernel_rfl) rfl #[.slice ARX x.length cRX] rfl (by (try simp only [List.map_toArray, List.map_cons, List.map_nil]); first | done | rfl) ?_
  refine (impl_FallSweep.calls k ARX cRX x sw one _ (Kd.R_reads' RX.out).2.2 (Kd.R_reads' RX.out).2.1 HF.out.f133).mono ?_
  rintro e w12 ⟨v0_, rfl, ho0, hb⟩
  refine ⟨_, rfl, ?_⟩
  obtain ⟨ARS, cRS, e_RS⟩ := Kd.R_slice ho0
  subst e_RS
  have nn0_ := Aside0.mk (Kd.R_lower (Kd.R_mono ho0 (fun _ _ => trivial)) HB.out.size)
  have nRO_ := Aside0.mk (Kd.R_below RO.out hb)
  have nRX_ := Aside0.mk (Kd.R_below RX.out hb)
  have nRF_ := Aside0.mk (Kd.R_below RF.out hb)
  have nB := Aside0.mk (below_step HB.out hb)
  clear HB hb RO RX RF ho0
  have HB := nB
  clear nB
  have RO := nRO_
  clear nRO_
  have RX := nRX_
  clear nRX_
  have RF := nRF_
  clear nRF_
  have RS := nn0_
  clear nn0_
  (repeat ((fail_if_success (with_reducible refine gate_dst (N := 138) rfl ?_)); first | go_values | go_skip | go_guarded | go_step | go_upon))
  refine goesL_ (some 138) rfl rfl Try.func39 (by kernel_rfl) rfl #[.slice ARX x.length cRX] rfl (by (try simp only [List.map_toArray, List.map_cons, List.map_nil]); first | done | rfl) ?_
  refine (spec_FallSweep.calls k ARX cRX x sw one _ (Kd.R_reads' RX.out).2.2 (Kd.R_reads' RX.out).2.1 HF.out.f138).mono ?_
  rintro e w13 ⟨v0_, rfl, ho0, hb⟩
  refine ⟨_, rfl, ?_⟩
  obtain ⟨ARS2, cRS2, e_RS2⟩ := Kd.R_slice ho0
  subst e_RS2
  have nn0_ := Aside0.mk (Kd.R_lower (Kd.R_mono ho0 (fun _ _ => trivial)) HB.out.size)
  have nRO_ := Aside0.mk (Kd.R_below RO.out hb)
  have nRX_ := Aside0.mk (Kd.R_below RX.out hb)
  have nRF_ := Aside0.mk (Kd.R_below RF.out hb)
  have nRS_ := Aside0.mk (Kd.R_below RS.out hb)
  have nB := Aside0.mk (below_step HB.out hb)
  clear HB hb RO RX RF RS ho0
  have HB := nB
  clear nB
  have RO := nRO_
  clear nRO_
  have RX := nRX_
  clear nRX_
  have RF := nRF_
  clear nRF_
  have RS := nRS_
  clear nRS_
  have RS2 := nn0_
  clear nn0_
  (repeat ((fail_if_success (with_reducible refine gate_reg (id := 19) ?_)); first | go_values | go_skip | go_guarded | go_step | go_upon))
  refine wp_joina (fun a_ a' w' => (∃ x141_ x142_ x143_ x144_ x145_ x146_ x147_ x148_ x149_ x150_ x151_ x152_ x153_ x154_ x155_ x156_ x157_ x158_ x159_ x160_ x161_ x162_ : Value, a' = putRuns a_ [(141, [x141_, x142_, x143_, x144_, x145_, x146_, x147_, x148_, x149_, x150_, x151_, x152_, x153_, x154_, x155_, x156_, x157_, x158_, x159_, x160_, x161_, x162_, .bool false])]) ∧ Aside0 (Below w.heap.size w w') ∧ Aside0 (Kd.R (Kd.int .i64) 3 w' w.heap.size (fun _ => True) (.slice ARO o.length cRO) o) ∧ Aside0 (Kd.R (Kd.int .i64) 3 w' w.heap.size (fun _ => True) (.slice ARX x.length cRX) x) ∧ Aside0 (Kd.R (Kd.int .i64) 3 w' w.heap.size (fun _ => True) (.slice ARF fl.length cRF) fl) ∧ Aside0 (Kd.R (Kd.int .i64) 3 w' w.heap.size (fun _ => True) (.slice ARS sw.length cRS) sw) ∧ Aside0 (Kd.R (Kd.int .i64) 3 w' w.heap.size (fun _ => True) (.slice ARS2 sw.length cRS2) sw)) ?jx ?jy
  case jx =>
    (repeat ((fail_if_success (with_reducible refine gate_dst (N := 152) rfl ?_)); first | go_values | go_skip | go_guarded | go_step | go_upon))
    refine goesG_ (some 152) rfl rfl Try.func9 (by kernel_rfl) rfl #[.slice ARS sw.length cRS, .slice ARS2 sw.length cRS2] rfl (by (try simp only [List.map_toArray, List.map_cons, List.map_nil]); first | done | rfl) ?_
    refine (laws_rInts.calls k ARS cRS sw ARS2 cRS2 sw true _ (Kd.R_reads' RS.out).2.2 (Kd.R_reads' RS.out).2.1 (Kd.R_reads' RS2.out).2.2 (Kd.R_reads' RS2.out).2.1 HF.out.f152).mono ?_
    rintro e w14 ⟨rfl, hdr⟩
    have hb := hdr.below
    clear hdr
    refine ⟨_, rfl, ?_⟩
    have nRO_ := Aside0.mk (Kd.R_below RO.out hb)
    have nRX_ := Aside0.mk (Kd.R_below RX.out hb)
    have nRF_ := Aside0.mk (Kd.R_below RF.out hb)
    have nRS_ := Aside0.mk (Kd.R_below RS.out hb)
    have nRS2_ := Aside0.mk (Kd.R_below RS2.out hb)
    have nB := Aside0.mk (below_step HB.out hb)
    clear HB hb RO RX RF RS RS2
    have HB := nB
    clear nB
    have RO := nRO_
    clear nRO_
    have RX := nRX_
    clear nRX_
    have RF := nRF_
    clear nRF_
    have RS := nRS_
    clear nRS_
    have RS2 := nRS2_
    clear nRS2_
    cases one with
    | false =>
      go_wp2
      (try simp only [Exit.then]); first | exact ⟨⟨_, _, _, _, _, _, _, _, _, _, _, _, _, _, _, _, _, _, _, _, _, _, by simp only [putRuns, List.foldl_cons, List.foldl_nil, List.toList_toArray, setRun_zero, setRun_succ, overL_nil, overL_cons]; rfl⟩, HB, RO, RX, RF, RS, RS2⟩ | exact ⟨_, _, _, _, _, _, _, _, _, _, _, _, _, _, _, _, _, _, _, _, _, _, by simp only [putRuns, List.foldl_cons, List.foldl_nil, List.toList_toArray, setRun_zero, setRun_succ, overL_nil, overL_cons]; rfl, HB, RO, RX, RF, RS, RS2⟩
    | true =>
      (repeat ((fail_if_success (with_reducible refine gate_dst (N := 160) rfl ?_)); first | go_values | go_skip | go_guarded | go_step | go_upon))
      refine goesG_ (some 160) rfl rfl Try.func40 (by kernel_rfl) rfl #[.slice ARS sw.length cRS] rfl (by (try simp only [List.map_toArray, List.map_cons, List.map_nil]); first | done | rfl) ?_
      refine (laws_rSorted.calls k ARS cRS sw lay _ (Kd.R_reads' RS.out).2.2 (Kd.R_reads' RS.out).2.1 (HF.out.srt rfl)).mono ?_
      rintro e w15 ⟨rfl, hdr⟩
      have hb := hdr.below
      clear hdr
      refine ⟨_, rfl, ?_⟩
      have nRO_ := Aside0.mk (Kd.R_below RO.out hb)
      have nRX_ := Aside0.mk (Kd.R_below RX.out hb)
      have nRF_ := Aside0.mk (Kd.R_below RF.out hb)
      have nRS_ := Aside0.mk (Kd.R_below RS.out hb)
      have nRS2_ := Aside0.mk (Kd.R_below RS2.out hb)
      have nB := Aside0.mk (below_step HB.out hb)
      clear HB hb RO RX RF RS RS2
      have HB := nB
      clear nB
      have RO := nRO_
      clear nRO_
      have RX := nRX_
      clear nRX_
      have RF := nRF_
      clear nRF_
      have RS := nRS_
      clear nRS_
      have RS2 := nRS2_
      clear nRS2_
      have q_lay : (lay != lay) = false := bne_self_eq_false lay
      go_wp2
      (try simp only [Exit.then]); first | exact ⟨⟨_, _, _, _, _, _, _, _, _, _, _, _, _, _, _, _, _, _, _, _, _, _, by simp only [putRuns, List.foldl_cons, List.foldl_nil, List.toList_toArray, setRun_zero, setRun_succ, overL_nil, overL_cons]; rfl⟩, HB, RO, RX, RF, RS, RS2⟩ | exact ⟨_, _, _, _, _, _, _, _, _, _, _, _, _, _, _, _, _, _, _, _, _, _, by simp only [putRuns, List.foldl_cons, List.foldl_nil, List.toList_toArray, setRun_zero, setRun_succ, overL_nil, overL_cons]; rfl, HB, RO, RX, RF, RS, RS2⟩
  case jy =>
    clear HB RO RX RF RS RS2
    rintro a' w16 ⟨⟨x141_, x142_, x143_, x144_, x145_, x146_, x147_, x148_, x149_, x150_, x151_, x152_, x153_, x154_, x155_, x156_, x157_, x158_, x159_, x160_, x161_, x162_, rfl⟩, HB, RO, RX, RF, RS, RS2⟩
    simp only [putRuns, List.foldl_cons, List.foldl_nil, List.toList_toArray, setRun_zero, setRun_succ, overL_nil, overL_cons]
    clear RS2
    (repeat ((fail_if_success (with_reducible refine gate_dst (N := 165) rfl ?_)); first | go_values | go_skip | go_guarded | go_step | go_upon))
    refine goesL_ (some 165) rfl rfl Try.func41 (by kernel_rfl) rfl #[.slice A0 l0.length c0] rfl (by (try simp only [List.map_toArray, List.map_cons, List.map_nil]); first | done | rfl) ?_
    refine (spec_DrawCountTwoCuts.calls A0 c0 l0 y _ (Kd.C_below HR0.out HB.out) HC0.out HF.out.f165).mono ?_
    rintro e w17 ⟨v0_, rfl, ho0, hb⟩
    refine ⟨_, rfl, ?_⟩
    obtain ⟨ARY, cRY, e_RY⟩ := Kd.R_slice ho0
    subst e_RY
    have nn0_ := Aside0.mk (Kd.R_lower (Kd.R_mono ho0 (fun _ _ => trivial)) HB.out.size)
    have nRO_ := Aside0.mk (Kd.R_below RO.out hb)
    have nRX_ := Aside0.mk (Kd.R_below RX.out hb)
    have nRF_ := Aside0.mk (Kd.R_below RF.out hb)
    have nRS_ := Aside0.mk (Kd.R_below RS.out hb)
    have nB := Aside0.mk (below_step HB.out hb)
    clear HB hb RO RX RF RS ho0
    have HB := nB
    clear nB
    have RO := nRO_
    clear nRO_
    have RX := nRX_
    clear nRX_
    have RF := nRF_
    clear nRF_
    have RS := nRS_
    clear nRS_
    have RY := nn0_
    clear nn0_
    (repeat ((fail_if_success (with_reducible refine gate_dst (N := 168) rfl ?_)); first | go_values | go_skip | go_guarded | go_step | go_upon))
    refine goesL_ (some 168) rfl rfl Try.func42 (by kernel_rfl) rfl #[.slice ARY y.length cRY] rfl (by (try simp only [List.map_toArray, List.map_cons, List.map_nil]); first | done | rfl) ?_
    refine (impl_CountTwoCuts.calls k ARY cRY y tc four _ (Kd.R_reads' RY.out).2.2 (Kd.R_reads' RY.out).2.1 HF.out.f168).mono ?_
    rintro e w18 ⟨rfl, hb⟩
    refine ⟨_, rfl, ?_⟩
    have nRO_ := Aside0.mk (Kd.R_below RO.out hb)
    have nRX_ := Aside0.mk (Kd.R_below RX.out hb)
    have nRF_ := Aside0.mk (Kd.R_below RF.out hb)
    have nRS_ := Aside0.mk (Kd.R_below RS.out hb)
    have nRY_ := Aside0.mk (Kd.R_below RY.out hb)
    have nB := Aside0.mk (below_step HB.out hb)
    clear HB hb RO RX RF RS RY
    have HB := nB
    clear nB
    have RO := nRO_
    clear nRO_
    have RX := nRX_
    clear nRX_
    have RF := nRF_
    clear nRF_
    have RS := nRS_
    clear nRS_
    have RY := nRY_
    clear nRY_
    (repeat ((fail_if_success (with_reducible refine gate_dst (N := 173) rfl ?_)); first | go_values | go_skip | go_guarded | go_step | go_upon))
    refine goesL_ (some 173) rfl rfl Try.func43 (by kernel_rfl) rfl #[.slice ARY y.length cRY] rfl (by (try simp only [List.map_toArray, List.map_cons, List.map_nil]); first | done | rfl) ?_
    refine (spec_CountTwoCuts.calls k ARY cRY y tc four _ (Kd.R_reads' RY.out).2.2 (Kd.R_reads' RY.out).2.1 HF.out.f173).mono ?_
    rintro e w19 ⟨rfl, hb⟩
    refine ⟨_, rfl, ?_⟩
    have nRO_ := Aside0.mk (Kd.R_below RO.out hb)
    have nRX_ := Aside0.mk (Kd.R_below RX.out hb)
    have nRF_ := Aside0.mk (Kd.R_below RF.out hb)
    have nRS_ := Aside0.mk (Kd.R_below RS.out hb)
    have nRY_ := Aside0.mk (Kd.R_below RY.out hb)
    have nB := Aside0.mk (below_step HB.out hb)
    clear HB hb RO RX RF RS RY
    have HB := nB
    clear nB
    have RO := nRO_
    clear nRO_
    have RX := nRX_
    clear nRX_
    have RF := nRF_
    clear nRF_
    have RS := nRS_
    clear nRS_
    have RY := nRY_
    clear nRY_
    (repeat ((fail_if_success (with_reducible refine gate_dst (N := 185) rfl ?_)); first | go_values | go_skip | go_guarded | go_step | go_upon))
    refine goesL_ (some 185) rfl rfl Try.func44 (by kernel_rfl) rfl #[.slice A0 l0.length c0] rfl (by (try simp only [List.map_toArray, List.map_cons, List.map_nil]); first | done | rfl) ?_
    refine (spec_DrawMostFallSweeps.calls A0 c0 l0 n _ (Kd.C_below HR0.out HB.out) HC0.out HF.out.f185).mono ?_
    rintro e w20 ⟨rfl, hb⟩
    refine ⟨_, rfl, ?_⟩
    have nRO_ := Aside0.mk (Kd.R_below RO.out hb)
    have nRX_ := Aside0.mk (Kd.R_below RX.out hb)
    have nRF_ := Aside0.mk (Kd.R_below RF.out hb)
    have nRS_ := Aside0.mk (Kd.R_below RS.out hb)
    have nRY_ := Aside0.mk (Kd.R_below RY.out hb)
    have nB := Aside0.mk (below_step HB.out hb)
    clear HB hb RO RX RF RS RY
    have HB := nB
    clear nB
    have RO := nRO_
    clear nRO_
    have RX := nRX_
    clear nRX_
    have RF := nRF_
    clear nRF_
    have RS := nRS_
    clear nRS_
    have RY := nRY_
    clear nRY_
    (repeat ((fail_if_success (with_reducible refine gate_dst (N := 188) rfl ?_)); first | go_values | go_skip | go_guarded | go_step | go_upon))
    refine goesL_ (some 188) rfl rfl Try.func45 (by kernel_rfl) rfl #[.int .i64 n] rfl (by (try simp only [List.map_toArray, List.map_cons, List.map_nil]); first | done | rfl) ?_
    refine (impl_MostFallSweeps.calls k n most first five _ HF.out.f188).mono ?_
    rintro e w21 ⟨v0_, rfl, ho0, hb⟩
    refine ⟨_, rfl, ?_⟩
    obtain ⟨ARM, cRM, e_RM⟩ := Kd.R_slice ho0
    subst e_RM
    have nn0_ := Aside0.mk (Kd.R_lower (Kd.R_mono ho0 (fun _ _ => trivial)) HB.out.size)
    have nRO_ := Aside0.mk (Kd.R_below RO.out hb)
    have nRX_ := Aside0.mk (Kd.R_below RX.out hb)
    have nRF_ := Aside0.mk (Kd.R_below RF.out hb)
    have nRS_ := Aside0.mk (Kd.R_below RS.out hb)
    have nRY_ := Aside0.mk (Kd.R_below RY.out hb)
    have nB := Aside0.mk (below_step HB.out hb)
    clear HB hb RO RX RF RS RY ho0
    have HB := nB
    clear nB
    have RO := nRO_
    clear nRO_
    have RX := nRX_
    clear nRX_
    have RF := nRF_
    clear nRF_
    have RS := nRS_
    clear nRS_
    have RY := nRY_
    clear nRY_
    have RM := nn0_
    clear nn0_
    (repeat ((fail_if_success (with_reducible refine gate_dst (N := 194) rfl ?_)); first | go_values | go_skip | go_guarded | go_step | go_upon))
    refine goesL_ (some 194) rfl rfl Try.func46 (by kernel_rfl) rfl #[.int .i64 n] rfl (by (try simp only [List.map_toArray, List.map_cons, List.map_nil]); first | done | rfl) ?_
    refine (spec_MostFallSweeps.calls k n most first five _ HF.out.f194).mono ?_
    rintro e w22 ⟨v0_, rfl, ho0, hb⟩
    refine ⟨_, rfl, ?_⟩
    obtain ⟨ARM2, cRM2, e_RM2⟩ := Kd.R_slice ho0
    subst e_RM2
    have nn0_ := Aside0.mk (Kd.R_lower (Kd.R_mono ho0 (fun _ _ => trivial)) HB.out.size)
    have nRO_ := Aside0.mk (Kd.R_below RO.out hb)
    have nRX_ := Aside0.mk (Kd.R_below RX.out hb)
    have nRF_ := Aside0.mk (Kd.R_below RF.out hb)
    have nRS_ := Aside0.mk (Kd.R_below RS.out hb)
    have nRY_ := Aside0.mk (Kd.R_below RY.out hb)
    have nRM_ := Aside0.mk (Kd.R_below RM.out hb)
    have nB := Aside0.mk (below_step HB.out hb)
    clear HB hb RO RX RF RS RY RM ho0
    have HB := nB
    clear nB
    have RO := nRO_
    clear nRO_
    have RX := nRX_
    clear nRX_
    have RF := nRF_
    clear nRF_
    have RS := nRS_
    clear nRS_
    have RY := nRY_
    clear nRY_
    have RM := nRM_
    clear nRM_
    have RM2 := nn0_
    clear nn0_
    (repeat ((fail_if_success (with_reducible refine gate_dst (N := 209) rfl ?_)); first | go_values | go_skip | go_guarded | go_step | go_upon))
    refine goesG_ (some 209) rfl rfl Try.func9 (by kernel_rfl) rfl #[.slice ARM first.length cRM, .slice ARM2 first.length cRM2] rfl (by (try simp only [List.map_toArray, List.map_cons, List.map_nil]); first | done | rfl) ?_
    refine (laws_rInts.calls k ARM cRM first ARM2 cRM2 first true _ (Kd.R_reads' RM.out).2.2 (Kd.R_reads' RM.out).2.1 (Kd.R_reads' RM2.out).2.2 (Kd.R_reads' RM2.out).2.1 HF.out.f209).mono ?_
    rintro e w23 ⟨rfl, hdr⟩
    have hb := hdr.below
    clear hdr
    refine ⟨_, rfl, ?_⟩
    have nRO_ := Aside0.mk (Kd.R_below RO.out hb)
    have nRX_ := Aside0.mk (Kd.R_below RX.out hb)
    have nRF_ := Aside0.mk (Kd.R_below RF.out hb)
    have nRS_ := Aside0.mk (Kd.R_below RS.out hb)
    have nRY_ := Aside0.mk (Kd.R_below RY.out hb)
    have nRM_ := Aside0.mk (Kd.R_below RM.out hb)
    have nRM2_ := Aside0.mk (Kd.R_below RM2.out hb)
    have nB := Aside0.mk (below_step HB.out hb)
    clear HB hb RO RX RF RS RY RM RM2
    have HB := nB
    clear nB
    have RO := nRO_
    clear nRO_
    have RX := nRX_
    clear nRX_
    have RF := nRF_
    clear nRF_
    have RS := nRS_
    clear nRS_
    have RY := nRY_
    clear nRY_
    have RM := nRM_
    clear nRM_
    have RM2 := nRM2_
    clear nRM2_
    clear RM2
    (repeat ((fail_if_success (with_reducible refine gate_dst (N := 213) rfl ?_)); first | go_values | go_skip | go_guarded | go_step | go_upon))
    refine goesL_ (some 213) rfl rfl Try.func47 (by kernel_rfl) rfl #[.slice A0 l0.length c0] rfl (by (try simp only [List.map_toArray, List.map_cons, List.map_nil]); first | done | rfl) ?_
    refine (spec_DrawFallSweptFrom.calls k A0 c0 l0 z _ (Kd.C_below HR0.out HB.out) HC0.out HF.out.f213).mono ?_
    rintro e w24 ⟨v0_, rfl, ho0, hb⟩
    refine ⟨_, rfl, ?_⟩
    obtain ⟨ARZ, cRZ, e_RZ⟩ := Kd.R_slice ho0
    subst e_RZ
    have nn0_ := Aside0.mk (Kd.R_lower (Kd.R_mono ho0 (fun _ _ => trivial)) HB.out.size)
    have nRO_ := Aside0.mk (Kd.R_below RO.out hb)
    have nRX_ := Aside0.mk (Kd.R_below RX.out hb)
    have nRF_ := Aside0.mk (Kd.R_below RF.out hb)
    have nRS_ := Aside0.mk (Kd.R_below RS.out hb)
    have nRY_ := Aside0.mk (Kd.R_below RY.out hb)
    have nRM_ := Aside0.mk (Kd.R_below RM.out hb)
    have nB := Aside0.mk (below_step HB.out hb)
    clear HB hb RO RX RF RS RY RM ho0
    have HB := nB
    clear nB
    have RO := nRO_
    clear nRO_
    have RX := nRX_
    clear nRX_
    have RF := nRF_
    clear nRF_
    have RS := nRS_
    clear nRS_
    have RY := nRY_
    clear nRY_
    have RM := nRM_
    clear nRM_
    have RZ := nn0_
    clear nn0_
    (repeat ((fail_if_success (with_reducible refine gate_dst (N := 216) rfl ?_)); first | go_values | go_skip | go_guarded | go_step | go_upon))
    refine goesL_ (some 216) rfl rfl Try.func48 (by kernel_rfl) rfl #[.slice ARZ z.length cRZ] rfl (by (try simp only [List.map_toArray, List.map_cons, List.map_nil]); first | done | rfl) ?_
    refine (impl_FallSweptFrom.calls k ARZ cRZ z fr six _ (Kd.R_reads' RZ.out).2.2 (Kd.R_reads' RZ.out).2.1 HF.out.f216).mono ?_
    rintro e w25 ⟨v0_, rfl, ho0, hb⟩
    refine ⟨_, rfl, ?_⟩
    obtain ⟨ARL, cRL, e_RL⟩ := Kd.S_slice ho0
    subst e_RL
    have nn0_ := Aside0.mk (Kd.S_lower (Kd.S_mono ho0 (fun _ _ => trivial)) HB.out.size)
    have nRO_ := Aside0.mk (Kd.R_below RO.out hb)
    have nRX_ := Aside0.mk (Kd.R_below RX.out hb)
    have nRF_ := Aside0.mk (Kd.R_below RF.out hb)
    have nRS_ := Aside0.mk (Kd.R_below RS.out hb)
    have nRY_ := Aside0.mk (Kd.R_below RY.out hb)
    have nRM_ := Aside0.mk (Kd.R_below RM.out hb)
    have nRZ_ := Aside0.mk (Kd.R_below RZ.out hb)
    have nB := Aside0.mk (below_step HB.out hb)
    clear HB hb RO RX RF RS RY RM RZ ho0
    have HB := nB
    clear nB
    have RO := nRO_
    clear nRO_
    have RX := nRX_
    clear nRX_
    have RF := nRF_
    clear nRF_
    have RS := nRS_
    clear nRS_
    have RY := nRY_
    clear nRY_
    have RM := nRM_
    clear nRM_
    have RZ := nRZ_
    clear nRZ_
    have RL := nn0_
    clear nn0_
    (repeat ((fail_if_success (with_reducible refine gate_dst (N := 221) rfl ?_)); first | go_values | go_skip | go_guarded | go_step | go_upon))
    refine goesL_ (some 221) rfl rfl Try.func49 (by kernel_rfl) rfl #[.slice ARZ z.length cRZ] rfl (by (try simp only [List.map_toArray, List.map_cons, List.map_nil]); first | done | rfl) ?_
    refine (spec_FallSweptFrom.calls k ARZ cRZ z fr six _ (Kd.R_reads' RZ.out).2.2 (Kd.R_reads' RZ.out).2.1 HF.out.f221).mono ?_
    rintro e w26 ⟨v0_, rfl, ho0, hb⟩
    refine ⟨_, rfl, ?_⟩
    obtain ⟨ARL2, cRL2, e_RL2⟩ := Kd.N_slice ho0
    subst e_RL2
    have nn0_ := Aside0.mk (Kd.N_lower (Kd.N_mono ho0 (fun _ _ => trivial)) HB.out.size)
    have nRO_ := Aside0.mk (Kd.R_below RO.out hb)
    have nRX_ := Aside0.mk (Kd.R_below RX.out hb)
    have nRF_ := Aside0.mk (Kd.R_below RF.out hb)
    have nRS_ := Aside0.mk (Kd.R_below RS.out hb)
    have nRY_ := Aside0.mk (Kd.R_below RY.out hb)
    have nRM_ := Aside0.mk (Kd.R_below RM.out hb)
    have nRZ_ := Aside0.mk (Kd.R_below RZ.out hb)
    have nRL_ := Aside0.mk (Kd.S_below RL.out hb)
    have nB := Aside0.mk (below_step HB.out hb)
    clear HB hb RO RX RF RS RY RM RZ RL ho0
    have HB := nB
    clear nB
    have RO := nRO_
    clear nRO_
    have RX := nRX_
    clear nRX_
    have RF := nRF_
    clear nRF_
    have RS := nRS_
    clear nRS_
    have RY := nRY_
    clear nRY_
    have RM := nRM_
    clear nRM_
    have RZ := nRZ_
    clear nRZ_
    have RL := nRL_
    clear nRL_
    have RL2 := nn0_
    clear nn0_
    (repeat ((fail_if_success (with_reducible refine gate_dst (N := 230) rfl ?_)); first | go_values | go_skip | go_guarded | go_step | go_upon))
    refine goesG_ (some 230) rfl rfl Try.func50 (by kernel_rfl) rfl #[.slice ARL fr.length cRL, .slice ARL2 fr.length cRL2] rfl (by (try simp only [List.map_toArray, List.map_cons, List.map_nil]); first | done | rfl) ?_
    refine (laws_rLists.calls k ARL cRL fr ARL2 cRL2 fr true _ (Kd.S_reads' RL.out).2.2 (Kd.S_reads' RL.out).2.1 (Kd.N_reads' RL2.out).2.2 (Kd.N_reads' RL2.out).2.1 HF.out.f230).mono ?_
    rintro e w27 ⟨rfl, hdr⟩
    have hb := hdr.below
    clear hdr
    refine ⟨_, rfl, ?_⟩
    have nRO_ := Aside0.mk (Kd.R_below RO.out hb)
    have nRX_ := Aside0.mk (Kd.R_below RX.out hb)
    have nRF_ := Aside0.mk (Kd.R_below RF.out hb)
    have nRS_ := Aside0.mk (Kd.R_below RS.out hb)
    have nRY_ := Aside0.mk (Kd.R_below RY.out hb)
    have nRM_ := Aside0.mk (Kd.R_below RM.out hb)
    have nRZ_ := Aside0.mk (Kd.R_below RZ.out hb)
    have nRL_ := Aside0.mk (Kd.S_below RL.out hb)
    have nRL2_ := Aside0.mk (Kd.N_below RL2.out hb)
    have nB := Aside0.mk (below_step HB.out hb)
    clear HB hb RO RX RF RS RY RM RZ RL RL2
    have HB := nB
    clear nB
    have RO := nRO_
    clear nRO_
    have RX := nRX_
    clear nRX_
    have RF := nRF_
    clear nRF_
    have RS := nRS_
    clear nRS_
    have RY := nRY_
    clear nRY_
    have RM := nRM_
    clear nRM_
    have RZ := nRZ_
    clear nRZ_
    have RL := nRL_
    clear nRL_
    have RL2 := nRL2_
    clear nRL2_
    clear RL2
    go_wp2
    go_loopg [38] fr.length (fun kq v38 w' => ∃ i : Nat, v38 = .int .i64 (i : Int) ∧ Aside0 (i + kq = fr.length) ∧ Aside0 (Below w.heap.size w w') ∧ Aside0 (Kd.R (Kd.int .i64) 3 w' w.heap.size (fun _ => True) (.slice ARO o.length cRO) o) ∧ Aside0 (Kd.R (Kd.int .i64) 3 w' w.heap.size (fun _ => True) (.slice ARX x.length cRX) x) ∧ Aside0 (Kd.R (Kd.int .i64) 3 w' w.heap.size (fun _ => True) (.slice ARF fl.length cRF) fl) ∧ Aside0 (Kd.R (Kd.int .i64) 3 w' w.heap.size (fun _ => True) (.slice ARS sw.length cRS) sw) ∧ Aside0 (Kd.R (Kd.int .i64) 3 w' w.heap.size (fun _ => True) (.slice ARY y.length cRY) y) ∧ Aside0 (Kd.R (Kd.int .i64) 3 w' w.heap.size (fun _ => True) (.slice ARM first.length cRM) first) ∧ Aside0 (Kd.R (Kd.int .i64) 3 w' w.heap.size (fun _ => True) (.slice ARZ z.length cRZ) z) ∧ Aside0 (Kd.S (Kd.slice 3 (Kd.int .i64)) 24 w' w.heap.size (fun _ => True) (.slice ARL fr.length cRL) fr))
    case atStart => exact ⟨0, rfl, ⟨by omega⟩, HB, RO, RX, RF, RS, RY, RM, RZ, RL⟩
    case round =>
      clear HB RO RX RF RS RY RM RZ RL
      obtain ⟨i, rfl, HI, HB, RO, RX, RF, RS, RY, RM, RZ, RL⟩ := hrel
      cases gk with
      | succ d =>
        have hi_ : i < fr.length := by have := HI.out; omega
        have c1 : decide (i < fr.length) = true := decide_eq_true hi_
        have c1b : decide ((i : Int) < (fr.length : Int)) = true := decide_eq_true (by omega)
        have p1 : (i < fr.length) = True := eq_true hi_
        have zi := wup_s i (by have := HF.out.lenR; omega)
        obtain ⟨q, hx⟩ : ∃ q, rd_L5 fr (i : Int) = q := ⟨_, rfl⟩
        have hxm : fr[i]'hi_ = q := by rw [← hx]; simp [rd_L5, hi_]
        obtain ⟨ad1, A1, c1_, e1, y1, y2, y3⟩ := at_L5 (Kd.S_reads' RL.out).2.2 (i : Int) (by omega) (by omega)
        rw [hx] at y1 y2 y3
        rw [Int.toNat_natCast] at y1
        subst e1
        have Y3 := Aside0.mk y3
        have Y2 := Aside0.mk y2
        clear y2 y3
        have HS := Aside0.mk (HF.out.each q (by rw [← hxm]; exact List.getElem_mem hi_))
        clear hx hxm hi_
        obtain ⟨w60, hw60⟩ : ∃ w', w' = wr := ⟨_, rfl⟩
        subst hw60
        (repeat ((fail_if_success (with_reducible refine gate_dst (N := 244) rfl ?_)); first | go_values | go_skip | go_guarded | go_step | go_upon))
        refine goesL_ (some 244) rfl rfl Try.func38 (by kernel_rfl) rfl #[.slice A1 q.length c1_] rfl (by (try simp only [List.map_toArray, List.map_cons, List.map_nil]); first | done | rfl) ?_
        refine (impl_FallSweep.calls k A1 c1_ q z true _ Y3.out Y2.out HS.out).mono ?_
        rintro e w61 ⟨v0_, rfl, ho0, hb⟩
        clear y1
        refine ⟨_, rfl, ?_⟩
        obtain ⟨AQ, cQ, e_Q⟩ := Kd.R_slice ho0
        subst e_Q
        have nn0_ := Aside0.mk (Kd.R_lower (Kd.R_mono ho0 (fun _ _ => trivial)) HB.out.size)
        have nRO_ := Aside0.mk (Kd.R_below RO.out hb)
        have nRX_ := Aside0.mk (Kd.R_below RX.out hb)
        have nRF_ := Aside0.mk (Kd.R_below RF.out hb)
        have nRS_ := Aside0.mk (Kd.R_below RS.out hb)
        have nRY_ := Aside0.mk (Kd.R_below RY.out hb)
        have nRM_ := Aside0.mk (Kd.R_below RM.out hb)
        have nRZ_ := Aside0.mk (Kd.R_below RZ.out hb)
        have nRL_ := Aside0.mk (Kd.S_below RL.out hb)
        have nB := Aside0.mk (below_step HB.out hb)
        clear HB hb ho0 Y2 Y3 HS RO RX RF RS RY RM RZ RL
        have HB := nB
        clear nB
        have RO := nRO_
        clear nRO_
        have RX := nRX_
        clear nRX_
        have RF := nRF_
        clear nRF_
        have RS := nRS_
        clear nRS_
        have RY := nRY_
        clear nRY_
        have RM := nRM_
        clear nRM_
        have RZ := nRZ_
        clear nRZ_
        have RL := nRL_
        clear nRL_
        have RQ := nn0_
        clear nn0_
        (repeat ((fail_if_success (with_reducible refine gate_dst (N := 252) rfl ?_)); first | go_values | go_skip | go_guarded | go_step | go_upon))
        refine goesG_ (some 252) rfl rfl Try.func9 (by kernel_rfl) rfl #[.slice AQ z.length cQ, .slice ARZ z.length cRZ] rfl (by (try simp only [List.map_toArray, List.map_cons, List.map_nil]); first | done | rfl) ?_
        refine (laws_rInts.calls k AQ cQ z ARZ cRZ z true _ (Kd.R_reads' RQ.out).2.2 (Kd.R_reads' RQ.out).2.1 (Kd.R_reads' RZ.out).2.2 (Kd.R_reads' RZ.out).2.1 HF.out.zz).mono ?_
        rintro e w62 ⟨rfl, hdr⟩
        have hb := hdr.below
        clear hdr
        refine ⟨_, rfl, ?_⟩
        clear RQ
        have nRO_ := Aside0.mk (Kd.R_below RO.out hb)
        have nRX_ := Aside0.mk (Kd.R_below RX.out hb)
        have nRF_ := Aside0.mk (Kd.R_below RF.out hb)
        have nRS_ := Aside0.mk (Kd.R_below RS.out hb)
        have nRY_ := Aside0.mk (Kd.R_below RY.out hb)
        have nRM_ := Aside0.mk (Kd.R_below RM.out hb)
        have nRZ_ := Aside0.mk (Kd.R_below RZ.out hb)
        have nRL_ := Aside0.mk (Kd.S_below RL.out hb)
        have nB := Aside0.mk (below_step HB.out hb)
        clear HB hb RO RX RF RS RY RM RZ RL
        have HB := nB
        clear nB
        have RO := nRO_
        clear nRO_
        have RX := nRX_
        clear nRX_
        have RF := nRF_
        clear nRF_
        have RS := nRS_
        clear nRS_
        have RY := nRY_
        clear nRY_
        have RM := nRM_
        clear nRM_
        have RZ := nRZ_
        clear nRZ_
        have RL := nRL_
        clear nRL_
        go_wp2
        go_roundg d
        case measure => omega
        case rel => exact ⟨i + 1, (by first | rfl | rw [zi]), ⟨by have := HI.out; omega⟩, HB, RO, RX, RF, RS, RY, RM, RZ, RL⟩
      | zero =>
        have c1 : decide (i < fr.length) = false := decide_eq_false (by have := HI.out; omega)
        have c1b : decide ((i : Int) < (fr.length : Int)) = false := decide_eq_false (by have := HI.out; omega)
        clear HI
        obtain ⟨w80, hw80⟩ : ∃ w', w' = wr := ⟨_, rfl⟩
        subst hw80
        (repeat ((fail_if_success (with_reducible refine gate_if (id := 42) ?_)); first | go_values | go_skip | go_guarded | go_step | go_upon))
        refine wp_joina (fun a_ a' w' => Joined a_ a' [(41, 2), (255, 27)] ∧ Aside0 (Below w.heap.size w w') ∧ Aside0 (Kd.R (Kd.int .i64) 3 w' w.heap.size (fun _ => True) (.slice ARO o.length cRO) o) ∧ Aside0 (Kd.R (Kd.int .i64) 3 w' w.heap.size (fun _ => True) (.slice ARX x.length cRX) x) ∧ Aside0 (Kd.R (Kd.int .i64) 3 w' w.heap.size (fun _ => True) (.slice ARF fl.length cRF) fl) ∧ Aside0 (Kd.R (Kd.int .i64) 3 w' w.heap.size (fun _ => True) (.slice ARS sw.length cRS) sw) ∧ Aside0 (Kd.R (Kd.int .i64) 3 w' w.heap.size (fun _ => True) (.slice ARY y.length cRY) y) ∧ Aside0 (Kd.R (Kd.int .i64) 3 w' w.heap.size (fun _ => True) (.slice ARM first.length cRM) first) ∧ Aside0 (Kd.R (Kd.int .i64) 3 w' w.heap.size (fun _ => True) (.slice ARZ z.length cRZ) z) ∧ Aside0 (Kd.S (Kd.slice 3 (Kd.int .i64)) 24 w' w.heap.size (fun _ => True) (.slice ARL fr.length cRL) fr)) ?jx ?jy
        case jx =>
          cases five with
          | false =>
            go_wp2
            (try simp only [Exit.then]); first | exact Joined.of (by kernel_rfl) | exact ⟨Joined.of (by kernel_rfl), HB, RO, RX, RF, RS, RY, RM, RZ, RL⟩
          | true =>
            (repeat ((fail_if_success (with_reducible refine gate_dst (N := 258) rfl ?_)); first | go_values | go_skip | go_guarded | go_step | go_upon))
            refine goesL_ (some 258) rfl rfl Try.func30 (by kernel_rfl) rfl #[.slice ARM first.length cRM] rfl (by (try simp only [List.map_toArray, List.map_cons, List.map_nil]); first | done | rfl) ?_
            refine (impl_CountFallSweeps.calls k ARM cRM first most true _ (Kd.R_reads' RM.out).2.2 (Kd.R_reads' RM.out).2.1 (HF.out.cfs rfl)).mono ?_
            rintro e w81 ⟨rfl, hb⟩
            refine ⟨_, rfl, ?_⟩
            have nRO_ := Aside0.mk (Kd.R_below RO.out hb)
            have nRX_ := Aside0.mk (Kd.R_below RX.out hb)
            have nRF_ := Aside0.mk (Kd.R_below RF.out hb)
            have nRS_ := Aside0.mk (Kd.R_below RS.out hb)
            have nRY_ := Aside0.mk (Kd.R_below RY.out hb)
            have nRM_ := Aside0.mk (Kd.R_below RM.out hb)
            have nRZ_ := Aside0.mk (Kd.R_below RZ.out hb)
            have nRL_ := Aside0.mk (Kd.S_below RL.out hb)
            have nB := Aside0.mk (below_step HB.out hb)
            clear HB hb RO RX RF RS RY RM RZ RL
            have HB := nB
            clear nB
            have RO := nRO_
            clear nRO_
            have RX := nRX_
            clear nRX_
            have RF := nRF_
            clear nRF_
            have RS := nRS_
            clear nRS_
            have RY := nRY_
            clear nRY_
            have RM := nRM_
            clear nRM_
            have RZ := nRZ_
            clear nRZ_
            have RL := nRL_
            clear nRL_
            have gm := HF.out.mst rfl
            cases ok with
            | false =>
              go_wp2
              (try simp only [Exit.then]); first | exact Joined.of (by kernel_rfl) | exact ⟨Joined.of (by kernel_rfl), HB, RO, RX, RF, RS, RY, RM, RZ, RL⟩
            | true =>
              have gm2 := gm rfl
              cases hb_ : ((o.length : Int) == n) with
              | false =>
                go_wp2
                (try simp only [Exit.then]); first | exact Joined.of (by kernel_rfl) | exact ⟨Joined.of (by kernel_rfl), HB, RO, RX, RF, RS, RY, RM, RZ, RL⟩
              | true =>
                have c9 := gm2 hb_
                go_wp2
                (try simp only [Exit.then]); first | exact Joined.of (by kernel_rfl) | exact ⟨Joined.of (by kernel_rfl), HB, RO, RX, RF, RS, RY, RM, RZ, RL⟩
        case jy =>
          clear HB RO RX RF RS RY RM RZ RL
          rintro a' w82 ⟨hJ_, HB, RO, RX, RF, RS, RY, RM, RZ, RL⟩
          obtain ⟨x255_, x257_, x258_, x256_, x259_, x260_, x41_, x42_, x261_, x262_, x263_, x264_, x265_, x266_, x267_, x268_, x269_, x270_, x271_, x272_, x273_, x274_, x275_, x276_, x277_, x278_, x279_, x280_, x281_, rfl⟩ : ∃ x255_ x257_ x258_ x256_ x259_ x260_ x41_ x42_ x261_ x262_ x263_ x264_ x265_ x266_ x267_ x268_ x269_ x270_ x271_ x272_ x273_ x274_ x275_ x276_ x277_ x278_ x279_ x280_ x281_ : Value, a' = putRuns _ [(41, [x41_, x42_]), (255, [x255_, x256_, x257_, x258_, x259_, x260_, x261_, x262_, x263_, x264_, x265_, x266_, x267_, x268_, x269_, x270_, x271_, x272_, x273_, x274_, x275_, x276_, x277_, x278_, x279_, x280_, x281_])] := ⟨_, _, _, _, _, _, _, _, _, _, _, _, _, _, _, _, _, _, _, _, _, _, _, _, _, _, _, _, _, hJ_⟩
          clear hJ_
          simp only [putRuns, List.foldl_cons, List.foldl_nil, List.toList_toArray, setRun_zero, setRun_succ, overL_nil, overL_cons]
          (repeat ((fail_if_success (with_reducible refine gate_if (id := 46) ?_)); first | go_values | go_skip | go_guarded | go_step | go_upon))
          refine wp_joina (fun a_ a' w' => Joined a_ a' [(2, 1), (43, 3), (282, 51)] ∧ Aside0 (Below w.heap.size w w') ∧ Aside0 (Kd.R (Kd.int .i64) 3 w' w.heap.size (fun _ => True) (.slice ARO o.length cRO) o) ∧ Aside0 (Kd.R (Kd.int .i64) 3 w' w.heap.size (fun _ => True) (.slice ARX x.length cRX) x) ∧ Aside0 (Kd.R (Kd.int .i64) 3 w' w.heap.size (fun _ => True) (.slice ARF fl.length cRF) fl) ∧ Aside0 (Kd.R (Kd.int .i64) 3 w' w.heap.size (fun _ => True) (.slice ARS sw.length cRS) sw) ∧ Aside0 (Kd.R (Kd.int .i64) 3 w' w.heap.size (fun _ => True) (.slice ARY y.length cRY) y) ∧ Aside0 (Kd.R (Kd.int .i64) 3 w' w.heap.size (fun _ => True) (.slice ARM first.length cRM) first) ∧ Aside0 (Kd.R (Kd.int .i64) 3 w' w.heap.size (fun _ => True) (.slice ARZ z.length cRZ) z) ∧ Aside0 (Kd.S (Kd.slice 3 (Kd.int .i64)) 24 w' w.heap.size (fun _ => True) (.slice ARL fr.length cRL) fr)) ?jx ?jy
          case jx =>
            cases one with
            | false =>
              go_wp2
              (try simp only [Exit.then]); first | exact Joined.of (by kernel_rfl) | exact ⟨Joined.of (by kernel_rfl), HB, RO, RX, RF, RS, RY, RM, RZ, RL⟩
            | true =>
              have HG := Aside0.mk (HF.out.flw rfl)
              go_wp2
              go_loopg [43, 44] fl.length (fun kq v43 v44 w' => ∃ (i a : Nat), v43 = .int .i64 (a : Int) ∧ v44 = .int .i64 (i : Int) ∧ Aside0 (i + kq = fl.length) ∧ Aside0 (okFalls x (fl.drop i) a) ∧ Aside0 (Below w.heap.size w w') ∧ Aside0 (Kd.R (Kd.int .i64) 3 w' w.heap.size (fun _ => True) (.slice ARO o.length cRO) o) ∧ Aside0 (Kd.R (Kd.int .i64) 3 w' w.heap.size (fun _ => True) (.slice ARX x.length cRX) x) ∧ Aside0 (Kd.R (Kd.int .i64) 3 w' w.heap.size (fun _ => True) (.slice ARF fl.length cRF) fl) ∧ Aside0 (Kd.R (Kd.int .i64) 3 w' w.heap.size (fun _ => True) (.slice ARS sw.length cRS) sw) ∧ Aside0 (Kd.R (Kd.int .i64) 3 w' w.heap.size (fun _ => True) (.slice ARY y.length cRY) y) ∧ Aside0 (Kd.R (Kd.int .i64) 3 w' w.heap.size (fun _ => True) (.slice ARM first.length cRM) first) ∧ Aside0 (Kd.R (Kd.int .i64) 3 w' w.heap.size (fun _ => True) (.slice ARZ z.length cRZ) z) ∧ Aside0 (Kd.S (Kd.slice 3 (Kd.int .i64)) 24 w' w.heap.size (fun _ => True) (.slice ARL fr.length cRL) fr))
              case atStart => exact ⟨0, 0, rfl, rfl, ⟨by omega⟩, HG, HB, RO, RX, RF, RS, RY, RM, RZ, RL⟩
              case round =>
                clear HB HG RO RX RF RS RY RM RZ RL
                obtain ⟨i, a, rfl, rfl, HI, HG, HB, RO, RX, RF, RS, RY, RM, RZ, RL⟩ := hrel
                cases gk with
                | zero =>
                  have c1 : decide (i < fl.length) = false := decide_eq_false (by have := HI.out; omega)
                  have c1b : decide ((i : Int) < (fl.length : Int)) = false := decide_eq_false (by have := HI.out; omega)
                  clear HI HG
                  go_wp2
                  (try simp only [Exit.then]); first | exact Joined.of (by kernel_rfl) | exact ⟨Joined.of (by kernel_rfl), HB, RO, RX, RF, RS, RY, RM, RZ, RL⟩
                | succ d =>
                  have hi_ : i < fl.length := by have := HI.out; omega
                  have c1 : decide (i < fl.length) = true := decide_eq_true hi_
                  have c1b : decide ((i : Int) < (fl.length : Int)) = true := decide_eq_true (by omega)
                  have p1 : (i < fl.length) = True := eq_true hi_
                  obtain ⟨m, s, r, hfm, hm1, hs, hr, hml, hdn, hup, hG2⟩ : ∃ m s r : Nat, rd fl (i : Int) = (m : Int) ∧ 1 ≤ m ∧ a + m = s ∧ r + 1 = s ∧ s ≤ x.length ∧ (∀ j q : Nat, a < j → j < s → q + 1 = j → rd x (j : Int) ≤ rd x (q : Int)) ∧ (s < x.length → rd x (r : Int) ≤ rd x (s : Int)) ∧ okFalls x (fl.drop (i + 1)) s := by
                    have h_ := HG.out
                    rw [List.drop_eq_getElem_cons hi_, okFalls] at h_
                    obtain ⟨m, h1, h2, h3, h4, h5, h6⟩ := h_
                    exact ⟨m, a + m, a + m - 1, by rw [← h1]; simp [rd, hi_], h2, rfl, by omega, h3, fun j q e1 e2 e3 => by have := h4 j e1 e2; rwa [show j - 1 = q by omega] at this, h5, h6⟩
                  have hx6 := HF.out.lenX
                  have HD := Aside0.mk (And.intro hm1 (And.intro hs (And.intro hr (And.intro hml (And.intro hdn (And.intro hup (And.intro hx6 (And.intro hfm hi_))))))))
                  have HG2 := Aside0.mk hG2
                  have HJ0 := Aside0.mk (show a < a + 1 ∧ a + 1 + (m - 1) = s by omega)
                  have za := wup_s a (by omega)
                  clear hfm hm1 hs hr hml hdn hup hG2 hx6 HG hi_
                  go_wp2
                  go_loopg [45] (m - 1) (fun kq v45 w' => ∃ j : Nat, v45 = .int .i64 (j : Int) ∧ Aside0 (a < j ∧ j + kq = s) ∧ Aside0 (Below w.heap.size w w') ∧ Aside0 (Kd.R (Kd.int .i64) 3 w' w.heap.size (fun _ => True) (.slice ARO o.length cRO) o) ∧ Aside0 (Kd.R (Kd.int .i64) 3 w' w.heap.size (fun _ => True) (.slice ARX x.length cRX) x) ∧ Aside0 (Kd.R (Kd.int .i64) 3 w' w.heap.size (fun _ => True) (.slice ARF fl.length cRF) fl) ∧ Aside0 (Kd.R (Kd.int .i64) 3 w' w.heap.size (fun _ => True) (.slice ARS sw.length cRS) sw) ∧ Aside0 (Kd.R (Kd.int .i64) 3 w' w.heap.size (fun _ => True) (.slice ARY y.length cRY) y) ∧ Aside0 (Kd.R (Kd.int .i64) 3 w' w.heap.size (fun _ => True) (.slice ARM first.length cRM) first) ∧ Aside0 (Kd.R (Kd.int .i64) 3 w' w.heap.size (fun _ => True) (.slice ARZ z.length cRZ) z) ∧ Aside0 (Kd.S (Kd.slice 3 (Kd.int .i64)) 24 w' w.heap.size (fun _ => True) (.slice ARL fr.length cRL) fr))
                  case atStart => exact ⟨a + 1, (by first | rfl | rw [za]), HJ0, HB, RO, RX, RF, RS, RY, RM, RZ, RL⟩
                  case round =>
                    clear HB za c1 c1b p1 HJ0 RO RX RF RS RY RM RZ RL
                    obtain ⟨j, rfl, HJ, HB, RO, RX, RF, RS, RY, RM, RZ, RL⟩ := hrel
                    obtain ⟨hm1, hs, hr, hml, hdn, hup, hx6, hfm, hi_⟩ := HD.out
                    have hj1 := HJ.out.1
                    have hj2 := HJ.out.2
                    have hsb : s ≤ 17592186044416 := by omega
                    obtain ⟨ad1, e_y1, y1⟩ := Kd.at_int (Kd.R_reads' RF.out).2.2 (i : Int) (by omega) (by omega)
                    rw [hfm, Int.toNat_natCast] at y1
                    subst e_y1
                    cases gk with
                    | zero =>
                      have c3 : decide ((j : Int) < (s : Int)) = false := decide_eq_false (by omega)
                      have c3n : decide (j < s) = false := decide_eq_false (by omega)
                      have pi_ : (i < fl.length) = True := eq_true hi_
                      have HI2 := Aside0.mk (show i + 1 + d = fl.length by have := HI.out; omega)
                      have zi := wup_s i (by have := HF.out.lenF; omega)
                      rcases Nat.lt_or_ge s x.length with hlt_ | hlt_
                      · have h5 := hup hlt_
                        obtain ⟨u, hu⟩ : ∃ u, rd x (s : Int) = u := ⟨_, rfl⟩
                        obtain ⟨v, hv⟩ : ∃ v, rd x (r : Int) = v := ⟨_, rfl⟩
                        rw [hu, hv] at h5
                        obtain ⟨ad2, e_y2, y2⟩ := Kd.at_int (Kd.R_reads' RX.out).2.2 (s : Int) (by omega) (by omega)
                        rw [hu, Int.toNat_natCast] at y2
                        subst e_y2
                        obtain ⟨ad3, e_y3, y3⟩ := Kd.at_int (Kd.R_reads' RX.out).2.2 (r : Int) (by omega) (by omega)
                        rw [hv, Int.toNat_natCast] at y3
                        obtain rfl : ad2 = ad3 := Option.some.inj e_y3
                        have c4 : decide ((s : Int) < (x.length : Int)) = true := decide_eq_true (by omega)
                        have c4n : decide (s < x.length) = true := decide_eq_true (by omega)
                        have c5 : decide (u < v) = false := decide_eq_false (by omega)
                        have ps_ : (s < x.length) = True := eq_true hlt_
                        have pr_ : (r < x.length) = True := eq_true (by omega)
                        have zd := wdn_s s r hr hsb
                        have zm0 := i64_w ((a : Int) + (m : Int))
                        have zm := wadd_s a m s hs hsb
                        clear hu hv h5 hdn hup hfm hm1 hs hr hml hx6 hi_ hj1 hj2 hsb hlt_ HJ HD HI
                        go_wp2
                        repeat (go_quiet (fail); try go_wp2)
                        go_roundg d
                        case measure => clear zm zm0 zi zd; omega
                        case rel => exact ⟨i + 1, s, (by first | rfl | rw [zm]), (by first | rfl | rw [zi]), HI2, HG2, ⟨(by repeat (first | (with_reducible first | exact HB.out | apply below_alloc | apply pw_below_drewN | apply below_drew1) | exact HB.out))⟩, ⟨(by (with_reducible repeat (first | apply Kd.R_alloc | apply Kd.R_drewN | apply Kd.R_drew)); exact RO.out)⟩, ⟨(by (with_reducible repeat (first | apply Kd.R_alloc | apply Kd.R_drewN | apply Kd.R_drew)); exact RX.out)⟩, ⟨(by (with_reducible repeat (first | apply Kd.R_alloc | apply Kd.R_drewN | apply Kd.R_drew)); exact RF.out)⟩, ⟨(by (with_reducible repeat (first | apply Kd.R_alloc | apply Kd.R_drewN | apply Kd.R_drew)); exact RS.out)⟩, ⟨(by (with_reducible repeat (first | apply Kd.R_alloc | apply Kd.R_drewN | apply Kd.R_drew)); exact RY.out)⟩, ⟨(by (with_reducible repeat (first | apply Kd.R_alloc | apply Kd.R_drewN | apply Kd.R_drew)); exact RM.out)⟩, ⟨(by (with_reducible repeat (first | apply Kd.R_alloc | apply Kd.R_drewN | apply Kd.R_drew)); exact RZ.out)⟩, ⟨(by (with_reducible repeat (first | apply Kd.S_alloc | apply Kd.S_drewN | apply Kd.S_drew)); exact RL.out)⟩⟩
                      · have c4 : decide ((s : Int) < (x.length : Int)) = false := decide_eq_false (by omega)
                        have c4n : decide (s < x.length) = false := decide_eq_false (by omega)
                        have zm0 := i64_w ((a : Int) + (m : Int))
                        have zm := wadd_s a m s hs hsb
                        clear hdn hup hfm hm1 hs hr hml hx6 hi_ hj1 hj2 hsb hlt_ HJ HD HI
                        go_wp2
                        repeat (go_quiet (fail); try go_wp2)
                        go_roundg d
                        case measure => clear zm zm0 zi; omega
                        case rel => exact ⟨i + 1, s, (by first | rfl | rw [zm]), (by first | rfl | rw [zi]), HI2, HG2, ⟨(by repeat (first | (with_reducible first | exact HB.out | apply below_alloc | apply pw_below_drewN | apply below_drew1) | exact HB.out))⟩, ⟨(by (with_reducible repeat (first | apply Kd.R_alloc | apply Kd.R_drewN | apply Kd.R_drew)); exact RO.out)⟩, ⟨(by (with_reducible repeat (first | apply Kd.R_alloc | apply Kd.R_drewN | apply Kd.R_drew)); exact RX.out)⟩, ⟨(by (with_reducible repeat (first | apply Kd.R_alloc | apply Kd.R_drewN | apply Kd.R_drew)); exact RF.out)⟩, ⟨(by (with_reducible repeat (first | apply Kd.R_alloc | apply Kd.R_drewN | apply Kd.R_drew)); exact RS.out)⟩, ⟨(by (with_reducible repeat (first | apply Kd.R_alloc | apply Kd.R_drewN | apply Kd.R_drew)); exact RY.out)⟩, ⟨(by (with_reducible repeat (first | apply Kd.R_alloc | apply Kd.R_drewN | apply Kd.R_drew)); exact RM.out)⟩, ⟨(by (with_reducible repeat (first | apply Kd.R_alloc | apply Kd.R_drewN | apply Kd.R_drew)); exact RZ.out)⟩, ⟨(by (with_reducible repeat (first | apply Kd.S_alloc | apply Kd.S_drewN | apply Kd.S_drew)); exact RL.out)⟩⟩
                    | succ d2 =>
                      have c3 : decide ((j : Int) < (s : Int)) = true := decide_eq_true (by omega)
                      have c3n : decide (j < s) = true := decide_eq_true (by omega)
                      have pi_ : (i < fl.length) = True := eq_true hi_
                      have hq_ : j - 1 + 1 = j := by omega
                      have h5 := hdn j (j - 1) hj1 (by omega) hq_
                      obtain ⟨q, hq⟩ : ∃ q, j - 1 = q := ⟨_, rfl⟩
                      rw [hq] at h5 hq_
                      clear hq
                      obtain ⟨u, hu⟩ : ∃ u, rd x (j : Int) = u := ⟨_, rfl⟩
                      obtain ⟨v, hv⟩ : ∃ v, rd x (q : Int) = v := ⟨_, rfl⟩
                      rw [hu, hv] at h5
                      obtain ⟨ad2, e_y2, y2⟩ := Kd.at_int (Kd.R_reads' RX.out).2.2 (j : Int) (by omega) (by omega)
                      rw [hu, Int.toNat_natCast] at y2
                      subst e_y2
                      obtain ⟨ad3, e_y3, y3⟩ := Kd.at_int (Kd.R_reads' RX.out).2.2 (q : Int) (by omega) (by omega)
                      rw [hv, Int.toNat_natCast] at y3
                      obtain rfl : ad2 = ad3 := Option.some.inj e_y3
                      have c5 : decide (v < u) = false := decide_eq_false (by omega)
                      have c5b : decide (u > v) = false := c5
                      have pj : (j < x.length) = True := eq_true (by omega)
                      have pq : (q < x.length) = True := eq_true (by omega)
                      have HJ2 := Aside0.mk (show a < j + 1 ∧ j + 1 + d2 = s by omega)
                      have hjb : j ≤ 17592186044416 := by omega
                      have zj := wup_s j hjb
                      have zd := wdn_s j q hq_ hjb
                      have zm0 := i64_w ((a : Int) + (m : Int))
                      have zm := wadd_s a m s hs hsb
                      clear hdn hup hfm hu hv h5 hm1 hs hr hml hx6 hi_ hj1 hj2 hsb hjb hq_ HJ HI
                      go_wp2
                      repeat (go_quiet (fail); try go_wp2)
                      go_roundg d2
                      case measure => clear zm zm0 zj zd; omega
                      case rel => exact ⟨j + 1, (by first | rfl | rw [zj]), HJ2, ⟨(by repeat (first | (with_reducible first | exact HB.out | apply below_alloc | apply pw_below_drewN | apply below_drew1) | exact HB.out))⟩, ⟨(by (with_reducible repeat (first | apply Kd.R_alloc | apply Kd.R_drewN | apply Kd.R_drew)); exact RO.out)⟩, ⟨(by (with_reducible repeat (first | apply Kd.R_alloc | apply Kd.R_drewN | apply Kd.R_drew)); exact RX.out)⟩, ⟨(by (with_reducible repeat (first | apply Kd.R_alloc | apply Kd.R_drewN | apply Kd.R_drew)); exact RF.out)⟩, ⟨(by (with_reducible repeat (first | apply Kd.R_alloc | apply Kd.R_drewN | apply Kd.R_drew)); exact RS.out)⟩, ⟨(by (with_reducible repeat (first | apply Kd.R_alloc | apply Kd.R_drewN | apply Kd.R_drew)); exact RY.out)⟩, ⟨(by (with_reducible repeat (first | apply Kd.R_alloc | apply Kd.R_drewN | apply Kd.R_drew)); exact RM.out)⟩, ⟨(by (with_reducible repeat (first | apply Kd.R_alloc | apply Kd.R_drewN | apply Kd.R_drew)); exact RZ.out)⟩, ⟨(by (with_reducible repeat (first | apply Kd.S_alloc | apply Kd.S_drewN | apply Kd.S_drew)); exact RL.out)⟩⟩
          case jy =>
            clear HB RO RX RF RS RY RM RZ RL
            rintro a' w83 ⟨hJ_, HB, RO, RX, RF, RS, RY, RM, RZ, RL⟩
            obtain ⟨x282_, x43_, x44_, x283_, x284_, x285_, x286_, x289_, x290_, x45_, x291_, x292_, x293_, x294_, x295_, x296_, x297_, x298_, x301_, x302_, x303_, x304_, x305_, x306_, x307_, x308_, x309_, x310_, x2_, x299_, x300_, x311_, x312_, x313_, x314_, x315_, x316_, x317_, x318_, x319_, x320_, x321_, x322_, x323_, x324_, x325_, x326_, x327_, x328_, x329_, x330_, x331_, x332_, x287_, x288_, rfl⟩ : ∃ x282_ x43_ x44_ x283_ x284_ x285_ x286_ x289_ x290_ x45_ x291_ x292_ x293_ x294_ x295_ x296_ x297_ x298_ x301_ x302_ x303_ x304_ x305_ x306_ x307_ x308_ x309_ x310_ x2_ x299_ x300_ x311_ x312_ x313_ x314_ x315_ x316_ x317_ x318_ x319_ x320_ x321_ x322_ x323_ x324_ x325_ x326_ x327_ x328_ x329_ x330_ x331_ x332_ x287_ x288_ : Value, a' = putRuns _ [(2, [x2_]), (43, [x43_, x44_, x45_]), (282, [x282_, x283_, x284_, x285_, x286_, x287_, x288_, x289_, x290_, x291_, x292_, x293_, x294_, x295_, x296_, x297_, x298_, x299_, x300_, x301_, x302_, x303_, x304_, x305_, x306_, x307_, x308_, x309_, x310_, x311_, x312_, x313_, x314_, x315_, x316_, x317_, x318_, x319_, x320_, x321_, x322_, x323_, x324_, x325_, x326_, x327_, x328_, x329_, x330_, x331_, x332_])] := ⟨_, _, _, _, _, _, _, _, _, _, _, _, _, _, _, _, _, _, _, _, _, _, _, _, _, _, _, _, _, _, _, _, _, _, _, _, _, _, _, _, _, _, _, _, _, _, _, _, _, _, _, _, _, _, _, hJ_⟩
            clear hJ_
            simp only [putRuns, List.foldl_cons, List.foldl_nil, List.toList_toArray, setRun_zero, setRun_succ, overL_nil, overL_cons]
            cases ok with
            | false =>
              go_wp2
              go_ret
              exact ⟨rfl, HB.out⟩
            | true =>
              obtain ⟨mm, hmm, hmn, hsw⟩ := HF.out.swp rfl
              have HSW := Aside0.mk hsw
              have HMM := Aside0.mk hmn
              subst hmm
              clear hsw hmn
              clear RX RF RS RY RM RZ RL
              go_wp2
              go_loopg [46, 47] mm (fun kq v46 v47 w' => ∃ (i : Nat) (cur : List Int) (A : Option Addr) (c : Nat), v46 = .slice A cur.length c ∧ v47 = .int .i64 (i : Int) ∧ Aside0 (i + kq = mm) ∧ Aside0 (swOk k kq cur) ∧ Aside0 (Kd.R (Kd.int .i64) 3 w' w.heap.size (fun _ => True) (.slice A cur.length c) cur) ∧ Aside0 (Below w.heap.size w w'))
              case atStart => exact ⟨0, o, ARO, cRO, rfl, rfl, ⟨by omega⟩, HSW, RO, HB⟩
              case round =>
                clear HB RO HSW
                obtain ⟨i, cur, A, c, rfl, rfl, HI, HSW, RC, HB⟩ := hrel
                cases gk with
                | zero =>
                  have c1 : decide (i < mm) = false := decide_eq_false (by have := HI.out; omega)
                  have c1b : decide ((i : Int) < (mm : Int)) = false := decide_eq_false (by have := HI.out; omega)
                  clear HI
                  (repeat ((fail_if_success (with_reducible refine gate_dst (N := 354) rfl ?_)); first | go_values | go_skip | go_guarded | go_step | go_upon))
                  refine goesL_ (some 354) rfl rfl Try.func40 (by kernel_rfl) rfl #[.slice A cur.length c] rfl (by (try simp only [List.map_toArray, List.map_cons, List.map_nil]); first | done | rfl) ?_
                  refine (laws_rSorted.calls k A c cur true _ (Kd.R_reads' RC.out).2.2 (Kd.R_reads' RC.out).2.1 HSW.out).mono ?_
                  rintro e w91 ⟨rfl, hdr⟩
                  refine ⟨_, rfl, ?_⟩
                  have nB := Aside0.mk (below_step HB.out hdr.below)
                  clear HB hdr RC HSW
                  have HB := nB
                  clear nB
                  go_wp2
                  go_ret
                  exact ⟨rfl, HB.out⟩
                | succ d =>
                  have c1 : decide (i < mm) = true := decide_eq_true (by have := HI.out; omega)
                  have c1b : decide ((i : Int) < (mm : Int)) = true := decide_eq_true (by have := HI.out; omega)
                  have zi := wup_s i (by have := HI.out; have := HMM.out; omega)
                  obtain ⟨hs1, l2, hs2, hs3⟩ := HSW.out
                  have H1 := Aside0.mk hs1
                  have H2 := Aside0.mk hs2
                  have H3 := Aside0.mk hs3
                  clear hs1 hs2 hs3 HSW
                  obtain ⟨w90, hw90⟩ : ∃ w', w' = wr := ⟨_, rfl⟩
                  subst hw90
                  (repeat ((fail_if_success (with_reducible refine gate_dst (N := 343) rfl ?_)); first | go_values | go_skip | go_guarded | go_step | go_upon))
                  refine goesL_ (some 343) rfl rfl Try.func38 (by kernel_rfl) rfl #[.slice A cur.length c] rfl (by (try simp only [List.map_toArray, List.map_cons, List.map_nil]); first | done | rfl) ?_
                  refine (impl_FallSweep.calls k A c cur l2 true _ (Kd.R_reads' RC.out).2.2 (Kd.R_reads' RC.out).2.1 H2.out).mono ?_
                  rintro e w91 ⟨v0_, rfl, ho0, hb⟩
                  refine ⟨_, rfl, ?_⟩
                  obtain ⟨AQ, cQ, e_Q⟩ := Kd.R_slice ho0
                  subst e_Q
                  have nn0_ := Aside0.mk (Kd.R_lower (Kd.R_mono ho0 (fun _ _ => trivial)) HB.out.size)
                  have nc_ := Aside0.mk (Kd.R_below RC.out hb)
                  have nB := Aside0.mk (below_step HB.out hb)
                  clear HB hb ho0 RC H2
                  have HB := nB
                  have RC := nc_
                  have RQ := nn0_
                  clear nB nc_ nn0_
                  (repeat ((fail_if_success (with_reducible refine gate_dst (N := 350) rfl ?_)); first | go_values | go_skip | go_guarded | go_step | go_upon))
                  refine goesG_ (some 350) rfl rfl Try.func40 (by kernel_rfl) rfl #[.slice A cur.length c] rfl (by (try simp only [List.map_toArray, List.map_cons, List.map_nil]); first | done | rfl) ?_
                  refine (laws_rSorted.calls k A c cur false _ (Kd.R_reads' RC.out).2.2 (Kd.R_reads' RC.out).2.1 H1.out).mono ?_
                  rintro e w92 ⟨rfl, hdr⟩
                  refine ⟨_, rfl, ?_⟩
                  have nq_ := Aside0.mk (Kd.R_below RQ.out hdr.below)
                  have nB := Aside0.mk (below_step HB.out hdr.below)
                  clear HB hdr RC RQ H1
                  have HB := nB
                  have RQ := nq_
                  clear nB nq_
                  go_wp2
                  go_roundg d
                  case measure => omega
                  case rel => exact ⟨i + 1, l2, AQ, cQ, rfl, (by first | rfl | rw [zi]), ⟨by have := HI.out; omega⟩, H3, RQ, HB⟩
set_option maxHeartbeats 4000000 in
set_option maxRecDepth 100000 in
theorem laws_FnFalls.big (A0 : Option Addr) (c0 : Nat) (l0 : List Int) (w : World) (hr0 : Kd.C (Kd.int .u8) w A0 l0.length l0) (hc0 : l0.length ≤ c0) (h : laws_rBig.f l0 = some true) :
    Calls Try.prog 4 #[.slice A0 l0.length c0] w fun e w' => e = .returned (.bool true) ∧ Below w.heap.size w w' := by
  have HB := Aside0.mk (Below.refl w.heap.size w)
  go_enter Try.func4, Try.ntmps4
  (repeat ((fail_if_success (with_reducible refine gate_dst (N := 51) rfl ?_)); first | go_values | go_skip | go_guarded | go_step | go_upon))
  refine goesL_ (some 51) rfl rfl Try.func5 (by kernel_rfl) rfl #[.slice A0 l0.length c0] rfl (by (try simp only [List.map_toArray, List.map_cons, List.map_nil]); first | done | rfl) ?_
  refine (laws_rBig.calls A0 c0 l0 true w hr0 hc0 h).mono ?_
  rintro e w1 ⟨rfl, hdr⟩
  refine ⟨_, rfl, ?_⟩
  have nB := Aside0.mk (below_step HB.out hdr.below)
  clear HB hdr
  go_wp2
  go_ret
  exact ⟨rfl, nB.out⟩
def laws_FnFalls.Pure : Prop := ∀ (l0 : List Int), l0.length ≤ maxLen → l0.length * 1 ≤ 140737488351232 → (∀ x ∈ l0, (Lit.int .u8 x).wf = true) → laws_rBig.f l0 = some false → ∃ k o many ok x lay one fl sw y tc four n most first five z fr six, laws_FnFalls.Fact k l0 o many ok x lay one fl sw y tc four n most first five z fr six
theorem laws_FnFalls.walk (P : laws_FnFalls.Pure) (a0 : Option Addr) (len0 cap0 : Nat) (z0 : List Int) (w : World) (w0 : (a0 = none ∧ len0 = 0 ∧ cap0 = 0 ∧ z0 = []) ∨ ∃ x, a0 = some x ∧ len0 ≤ cap0 ∧ cap0 ≤ maxLen ∧ z0.length = cap0 ∧ (∀ i, i < z0.length → w.cell? (x.add i) = some (.int .u8 (z0.getD i 0))) ∧ ∀ n ∈ z0, (Lit.int .u8 n).wf = true) (y0 : len0 * 1 ≤ 140737488351232) :
    Calls Try.prog 4 #[.slice a0 len0 cap0] w fun e w' => e = .returned (.bool true) ∧ Below w.heap.size w w' := by
  obtain ⟨l0, rfl, hr0, hm0, hw0, hc0⟩ := ReadsInt.ofRowC w0
  have hC := Kd.C_of_reads (d := (0 : Int)) (h1 := fun _ => rfl) hr0
  cases hb : decide ((l0.length : Int) > 65536) with
  | true => exact laws_FnFalls.big _ _ l0 w hC hc0 (by unfold laws_rBig.f; rw [hb])
  | false =>
    obtain ⟨k, o, many, ok, x, lay, one, fl, sw, y, tc, four, n, most, first, five, z, fr, six, h⟩ := P l0 hm0 y0 hw0 (by unfold laws_rBig.f; rw [hb])
    exact laws_FnFalls.calls _ _ k l0 o many ok x lay one fl sw y tc four n most first five z fr six w hC hc0 h
end Go.Proofs.Ytbnieikbjmfhgaa.PFnFalls
