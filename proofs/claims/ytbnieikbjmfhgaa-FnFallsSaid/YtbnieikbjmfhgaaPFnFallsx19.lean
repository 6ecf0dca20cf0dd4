-- laid by mkprint.py, a program of this claim's writer, over the kit's print program; parts of it are typed by hand
import Derived.Test.YtbnieikbjmfhgaaPFnFallsx0
import Derived.Test.YtbnieikbjmfhgaaPFnFallsx1
import Derived.Test.YtbnieikbjmfhgaaPFnFallsx2
import Derived.Test.YtbnieikbjmfhgaaPFnFallsx6
import Derived.Test.YtbnieikbjmfhgaaPFnFallsx7
import Derived.Test.YtbnieikbjmfhgaaPFnFallsx8
import Derived.Test.YtbnieikbjmfhgaaPFnFallsx16
import Derived.Test.YtbnieikbjmfhgaaPFnFallsx18
namespace Go.Proofs.Ytbnieikbjmfhgaa.PFnFalls
open Go.RowKit Go.Proofs.YtbnieikbjmfhgaaW.PrintWords Go.Proofs.YtbnieikbjmfhgaaW.PrintLast Go.Proofs.YtbnieikbjmfhgaaW.PrintMore
attribute [local go_sem] max2_int min2_int max_two min_two max_three min_three max_four min_four
set_option linter.unusedVariables false
set_option linter.unusedSimpArgs false
def spec_l2Orders.l0 : Nat → Int → List (List Int) → Int → Option ((List (List Int)))
 | 0, _, _, _ => none
 | k + 1, x0, x3, x4 => (spec_l2Ways.f k x0).bind fun t497 => (if x4 < t497 then ((spec_l2At.f k x0 x4).bind fun t498 => (if x3.length < 5864062014805 then (spec_l2Orders.l0 k x0 (x3 ++ [t498]) (wrap64 (x4 + 1))) else (none))) else (some x3))
def spec_l2Orders.f (k : Nat) (a0 : Int) : Option ((List (List Int))) := spec_l2Orders.l0 k a0 (([] : List (List Int))) 0
theorem spec_l2Orders.mono_l : ∀ k, (∀ y0 y1 y2, LeO (spec_l2Orders.l0 k y0 y1 y2) (spec_l2Orders.l0 (k + 1) y0 y1 y2))
 | 0 => fun _ _ _ r h => by simp [spec_l2Orders.l0] at h
 | k + 1 => by
  have ih0 := spec_l2Orders.mono_l k
  ·
   intro y0 y1 y2
   unfold spec_l2Orders.l0
   repeat' with_reducible first | exact ih0 _ _ _ | exact spec_l2At.mono _ _ _ | exact spec_l2Ways.mono _ _ | exact LeO.refl _ | exact LeO.none _ | refine LeO.ite ?_ ?_ | refine LeO.bind ?_ (fun _ => ?_)
theorem spec_l2Orders.mono : ∀ a0 k, LeO (spec_l2Orders.f k a0) (spec_l2Orders.f (k + 1) a0) := by
 intro a0 k
 have ih0 := spec_l2Orders.mono_l k
 unfold spec_l2Orders.f
 repeat' with_reducible first | exact ih0 _ _ _ | exact spec_l2At.mono _ _ _ | exact spec_l2Ways.mono _ _ | exact LeO.refl _ | exact LeO.none _ | refine LeO.ite ?_ ?_ | refine LeO.bind ?_ (fun _ => ?_)
set_option maxHeartbeats 8000000 in
set_option maxRecDepth 100000 in
theorem spec_l2Orders.calls (k : Nat) (a0 : Int) (r : List (List Int)) (w : World) (h : spec_l2Orders.f k a0 = some r) :
  Calls Try.prog 91 #[.int .i64 a0] w fun e w' => ∃ v0_ : Value, e = .returned (v0_) ∧ Kd.S (Kd.slice 3 (Kd.int .i64)) 24 w' w.heap.size (fun _ => True) v0_ r ∧ Below w.heap.size w w' := by
 have HB := Aside0.mk (Below.refl w.heap.size w)
 have H : (spec_l2Orders.l0 k a0 (([] : List (List Int))) 0) = some r := h
 clear h
 obtain ⟨y494, hy494⟩ : ∃ y_ : List (List Int), y_ = (([] : List (List Int))) := ⟨_, rfl⟩
 replace H : (spec_l2Orders.l0 k a0 y494 0) = some r := by first | (rw [hy494]; with_reducible exact H) | (have H2_ := (Option.bind_some _ _).symm.trans H; rw [hy494]; with_reducible exact H2_) | (have H2_ := (Option.bind_some _ _).symm.trans H; with_reducible exact H2_) | with_reducible exact H | (rw [hy494]; exact H) | exact H
 have Ny494 := Aside0.mk hy494
 clear hy494
 have H' := Aside0.mk H
 clear H
 go_enter Try.func91, Try.ntmps91
 go_wp2_with (first | ((with_reducible refine gate_dst (N := 5) rfl ?_); refine Kd.S_lit (Kd.slice 3 (Kd.int .i64)) _ 24 ?hg (N := 5) ?hd (xs := ([] : List (List Int))) (inner := []) (ok := fun _ => True) (okp := fun _ => True) ?hr ?hp (fun _ hk => hk) trivial (Below.refl _ _) (Nat.le_refl _) (by simp) ?_; (case hd => rfl); (case hg => rfl); (case hr => first | (go_simp; done) | (go_simp; rfl)); (case hp => exact (Reps.none _ _)); intro v495 w2 ho3 hb hg_ hnew_; clear hg_ hnew_; (first | rw [← Ny494.out] at ho3 | (simp only [Int.reduceToNat] at ho3; rw [← Ny494.out] at ho3)); have n0_ := Aside0.mk (Kd.S_lower ho3 (below_size (by repeat (first | (with_reducible first | exact HB.out | apply below_alloc | apply pw_below_drewN | apply below_drew1) | exact HB.out)))); have n1_ := Aside0.mk (below_step (by repeat (first | (with_reducible first | exact HB.out | apply below_alloc | apply pw_below_drewN | apply below_drew1) | exact HB.out)) hb); clear HB; have HO496 := n0_; have HB := n1_; clear n0_ n1_; clear hb ho3))
 go_loopg [3, 4] k (fun kq v3 v4 w' => ∃ (x3_1 : List (List Int)) (x4_1 : Int), v4 = .int .i64 x4_1 ∧ Aside0 (spec_l2Orders.l0 kq a0 x3_1 x4_1 = some r) ∧ Aside0 (kq ≤ k) ∧ Aside0 (Kd.S (Kd.slice 3 (Kd.int .i64)) 24 w' w.heap.size (fun _ => True) v3 x3_1) ∧ Aside0 (Below w.heap.size w w'))
 case atStart => exact ⟨(y494), (0), (by first | rfl | (simp; done) | (simp [*]; done)), H', ⟨Nat.le_refl _⟩, ⟨by (with_reducible repeat (first | apply Kd.S_alloc | apply Kd.S_drewN | apply Kd.S_drew)); exact HO496.out⟩, ⟨by repeat (first | (with_reducible first | exact HB.out | apply below_alloc | apply pw_below_drewN | apply below_drew1) | exact HB.out)⟩⟩
 case round =>
  clear H'
  try clear p2
  obtain ⟨x3_1, x4_1, rfl, HA, HK1, HO_3, HB⟩ := hrel
  cases gk with
  | zero => exact absurd HA.out (by simp [spec_l2Orders.l0])
  | succ k1 =>
   have H := HA.out
   clear HA
   simp only [spec_l2Orders.l0] at H
   replace H := Option.bind_eq_some_iff.mp H
   obtain ⟨t497, A40, H⟩ := H
   (try dsimp only at H)
   have A4 := Aside0.mk A40
   clear A40
   by_cases c5 : x4_1 < t497
   ·
    rw [if_pos c5] at H
    have c5b0 : decide (x4_1 < t497) = true := decide_eq_true c5
    clear c5
    replace H := Option.bind_eq_some_iff.mp H
    obtain ⟨t498, A60, H⟩ := H
    (try dsimp only at H)
    have A6 := Aside0.mk A60
    clear A60
    by_cases c7 : x3_1.length < 5864062014805
    ·
     rw [if_pos c7] at H
     have LMc7 := Aside0.mk c7
     clear c7
     obtain ⟨y501, hy501⟩ : ∃ y_ : List (List Int), y_ = (x3_1 ++ [t498]) := ⟨_, rfl⟩
     replace H : (spec_l2Orders.l0 k1 a0 y501 (wrap64 (x4_1 + 1))) = some r := by first | (rw [hy501]; with_reducible exact H) | (have H2_ := (Option.bind_some _ _).symm.trans H; rw [hy501]; with_reducible exact H2_) | (have H2_ := (Option.bind_some _ _).symm.trans H; with_reducible exact H2_) | with_reducible exact H | (rw [hy501]; exact H) | exact H
     have Ny501 := Aside0.mk hy501
     clear hy501
     have H' := Aside0.mk H
     clear H
     go_wp2_with (first | ((with_reducible refine gate_callee (f := 88) rfl ?_); refine goesL_ (some 8) rfl rfl Try.func88 (by kernel_rfl) rfl #[.int .i64 a0] rfl (by (try simp only [List.map_toArray, List.map_cons, List.map_nil]); first | done | rfl | (simp only [List.length_drop, List.length_take]; rfl)) ?_; (with_reducible refine (spec_l2Ways.calls k1 a0 t497 _ A4.out).mono ?_); rintro e w' ⟨rfl, ⟨nd, rfl⟩⟩; refine ⟨_, rfl, ?_⟩) | ((with_reducible refine gate_callee (f := 115) rfl ?_); refine goesL_ (some 15) rfl rfl Try.func115 (by kernel_rfl) rfl #[.int .i64 a0, .int .i64 x4_1] rfl (by (try simp only [List.map_toArray, List.map_cons, List.map_nil]); first | done | rfl | (simp only [List.length_drop, List.length_take]; rfl)) ?_; (with_reducible refine (spec_l2At.calls k1 a0 x4_1 t498 _ A6.out).mono ?_); rintro e w8 ⟨v499, rfl, ho0, hb⟩; refine ⟨_, rfl, ?_⟩; have n0_ := Aside0.mk (Kd.S_elder' (by (with_reducible repeat (first | apply Kd.S_alloc | apply Kd.S_drewN | apply Kd.S_drew)); exact HO_3.out) (Kd.R_base ho0) hb); have n1_ := Aside0.mk (Kd.R_lower ho0 (below_size (by repeat (first | (with_reducible first | exact HB.out | apply below_alloc | apply pw_below_drewN | apply below_drew1) | exact HB.out)))); have n2_ := Aside0.mk (below_step (by repeat (first | (with_reducible first | exact HB.out | apply below_alloc | apply pw_below_drewN | apply below_drew1) | exact HB.out)) hb); clear HO_3; clear HB; have HO_3 := n0_; have HO500 := n1_; have HB := n2_; clear n0_ n1_ n2_; (try clear hb); (try clear hb2); (try clear hk); (try clear hi); (try clear ho0); obtain ⟨Ao10, co10, eo10⟩ := Kd.R_slice HO500.out; subst eo10) | ((with_reducible refine gate_builtin (b := .append) (xs := #[.tmp 12, .tmp 16]) rfl ?_); at_builtin; refine Kd.S_append (Kd.slice 3 (Kd.int .i64)) (w0 := w) w.heap.size rfl (.tmp 12) (.tmp 16) 52 24 (.slice none 0 0) 24 rfl Try.underlying52 info24 rfl (by decide) (by omega) u3 x3_1 t498 [.slice Ao10 t498.length co10] (fun _ => True) (fun k_ => some k_ = (.slice Ao10 t498.length co10 : Value).ownBlock) rfl rfl ?aP (fun k_ hk_ => ((Kd.R_mono (ok' := fun k_ => ((fun _ => True)) k_ ∧ some k_ ≠ (u3 : Value).ownBlock) (Kd.R_apart' (HO500.out) (Kd.S_typed HO_3.out) (by decide)) (fun k_ hk => ⟨trivial, hk.2⟩))).1 k_ hk_.symm) ?aF ?aO ?aB ?aS ?aL ?_; (case aP => exact Kd.M_row (Kd.R_mono (Kd.R_tight rfl (Kd.R_mono (ok' := fun k_ => ((fun _ => True)) k_ ∧ some k_ ≠ (u3 : Value).ownBlock) (Kd.R_apart' (HO500.out) (Kd.S_typed HO_3.out) (by decide)) (fun k_ hk => ⟨trivial, hk.2⟩))) (fun _ h_ => h_))); (case aB => exact (by repeat (first | (with_reducible first | exact HB.out | apply below_alloc | apply pw_below_drewN | apply below_drew1) | exact HB.out))); (case aF => exact (fun _ _ => trivial)); (case aO => exact (by (with_reducible repeat (first | apply Kd.S_alloc | apply Kd.S_drewN | apply Kd.S_drew)); exact Kd.S_mono HO_3.out (fun k_ hk => ⟨trivial, fun e_ => hk.2 e_⟩))); (case aS => exact (below_size (by repeat (first | (with_reducible first | exact HB.out | apply below_alloc | apply pw_below_drewN | apply below_drew1) | exact HB.out)))); (case aL => have := LMc7.out; omega); intro v502 w9 ho hb hg hat; rw [← Ny501.out] at ho; have n0_ := Aside0.mk (hb); have n1_ := Aside0.mk (ho); clear HB; clear HO_3; clear HO500; have HB := n0_; have HO503 := n1_; clear n0_ n1_; clear ho hb hg hat))
     go_roundg k1
     case measure => have := HK1.out; omega
     case rel => exact ⟨(y501), (wrap64 (x4_1 + 1)), (by first | rfl | (simp; done) | (simp [*]; done)), H', ⟨by have := HK1.out; omega⟩, ⟨by (with_reducible repeat (first | apply Kd.S_alloc | apply Kd.S_drewN | apply Kd.S_drew)); exact HO503.out⟩, ⟨by repeat (first | (with_reducible first | exact HB.out | apply below_alloc | apply pw_below_drewN | apply below_drew1) | exact HB.out)⟩⟩
    ·
     rw [if_neg c7] at H
     exact absurd H (by simp)
   ·
    rw [if_neg c5] at H
    have c5b0 : decide (x4_1 < t497) = false := decide_eq_false c5
    clear c5
    obtain rfl := Option.some.inj H
    go_wp2_with (first | ((with_reducible refine gate_callee (f := 88) rfl ?_); refine goesL_ (some 8) rfl rfl Try.func88 (by kernel_rfl) rfl #[.int .i64 a0] rfl (by (try simp only [List.map_toArray, List.map_cons, List.map_nil]); first | done | rfl | (simp only [List.length_drop, List.length_take]; rfl)) ?_; (with_reducible refine (spec_l2Ways.calls k1 a0 t497 _ A4.out).mono ?_); rintro e w' ⟨rfl, ⟨nd, rfl⟩⟩; refine ⟨_, rfl, ?_⟩))
    go_ret
    exact ⟨_, by first | rfl | (simp [errW_none, errW_some] <;> rfl) | (simp [*, errW_none, errW_some] <;> rfl), by (with_reducible repeat (first | apply Kd.S_alloc | apply Kd.S_drewN | apply Kd.S_drew)); exact HO_3.out, by repeat (first | (with_reducible first | exact HB.out | apply below_alloc | apply pw_below_drewN | apply below_drew1) | exact HB.out)⟩
def spec_MostFallSweeps.f (k : Nat) (a0 : Int) : Option (Int × List Int × Bool) := (spec_l1In.f a0 1 6).bind fun t => if t = true then ((spec_l2Orders.f k a0).bind fun all => if all.length < 17592186044416 then ((bestL (spec_l6Sweeps.f k) all all.length 0 [] (-1)).bind fun x => some (x.2, x.1, true)) else none) else some (0, [], false)
theorem spec_MostFallSweeps.mono : ∀ a0 k, LeO (spec_MostFallSweeps.f k a0) (spec_MostFallSweeps.f (k + 1) a0) := fun a0 k => LeO.bind (LeO.refl _) (fun t => LeO.ite (LeO.bind (spec_l2Orders.mono _ _) (fun all => LeO.ite (LeO.bind (bestL_mono (fun x => spec_l6Sweeps.mono _ _) _ _ _ _ _) (fun _ => LeO.refl _)) (LeO.none _))) (LeO.refl _))
set_option maxHeartbeats 8000000 in
set_option maxRecDepth 100000 in
theorem spec_MostFallSweeps.calls (k : Nat) (a0 : Int) (r1 : Int) (r2 : List Int) (r3 : Bool) (w : World) (h : spec_MostFallSweeps.f k a0 = some (r1, r2, r3)) :
  Calls Try.prog 46 #[.int .i64 a0] w fun e w' => ∃ v0_ : Value, e = .returned (.tuple #[.int .i64 r1, v0_, .bool r3]) ∧ Kd.R (Kd.int .i64) 3 w' w.heap.size (fun _ => True) v0_ r2 ∧ Below w.heap.size w w' := by
 have HB := Aside0.mk (Below.refl w.heap.size w)
 obtain ⟨t, h1, H⟩ := Option.bind_eq_some_iff.mp h
 have A1 := Aside0.mk h1
 clear h h1
 cases t with
 | false =>
  rw [if_neg (by simp)] at H
  obtain ⟨rfl, rfl, rfl⟩ : (0 : Int) = r1 ∧ ([] : List Int) = r2 ∧ false = r3 := by simpa using H
  clear H
  go_enter Try.func46, Try.ntmps46
  skip
  (repeat ((fail_if_success (with_reducible refine gate_dst (N := 13) rfl ?_)); first | ((with_reducible refine gate_callee (f := 69) rfl ?_); refine goesL_ (some 11) rfl rfl Try.func69 (by kernel_rfl) rfl #[.int .i64 a0, .int .i64 1, .int .i64 6] rfl (by (try simp only [List.map_toArray, List.map_cons, List.map_nil]); first | done | rfl) ?_; (with_reducible refine (spec_l1In.calls a0 1 6 false _ A1.out).mono ?_); rintro e w' ⟨rfl, ⟨nd, rfl⟩⟩; refine ⟨_, rfl, ?_⟩) | go_values | go_skip | go_guarded | go_step | go_upon))
  refine Kd.R_lit (Kd.int .i64) _ 3 ?hg (N := 13) ?hd (xs := ([] : List Int)) (inner := []) (ok := fun _ => True) (okp := fun _ => True) ?hr ?hp (fun _ hk => hk) trivial (Below.refl _ _) (Nat.le_refl _) (by simp) ?_
  case hd => rfl
  case hg => rfl
  case hr => first | (go_simp; done) | (go_simp; rfl)
  case hp => exact (Reps.none _ _)
  intro v13 w9 ho hb hg_ hnew_
  clear hg_ hnew_
  have HV := Aside0.mk (Kd.R_lower ho (below_size (by repeat (first | (with_reducible first | exact HB.out | apply below_alloc | apply pw_below_drewN | apply below_drew1) | exact HB.out))))
  have n0_ := Aside0.mk (below_step (by repeat (first | (with_reducible first | exact HB.out | apply below_alloc | apply pw_below_drewN | apply below_drew1) | exact HB.out)) hb)
  clear HB hb ho
  have HB := n0_
  clear n0_
  obtain ⟨Av, cv, rfl⟩ := Kd.R_slice HV.out
  go_wp2
  go_ret3
  exact ⟨_, rfl, HV.out, HB.out⟩
 | true =>
  rw [if_pos rfl] at H
  obtain ⟨all, h1, H⟩ := Option.bind_eq_some_iff.mp H
  have A2 := Aside0.mk h1
  clear h1
  by_cases hall : all.length < 17592186044416
  case neg => rw [if_neg hall] at H; exact absurd H (by simp)
  rw [if_pos hall] at H
  obtain ⟨⟨b_, m_⟩, h1, H⟩ := Option.bind_eq_some_iff.mp H
  obtain ⟨rfl, rfl, rfl⟩ : m_ = r1 ∧ b_ = r2 ∧ true = r3 := by simpa using H
  have A3 := Aside0.mk h1
  have AL := Aside0.mk hall
  clear h1 H hall
  go_enter Try.func46, Try.ntmps46
  (repeat ((fail_if_success (with_reducible refine gate_dst (N := 14) rfl ?_)); first | ((with_reducible refine gate_callee (f := 69) rfl ?_); refine goesL_ (some 11) rfl rfl Try.func69 (by kernel_rfl) rfl #[.int .i64 a0, .int .i64 1, .int .i64 6] rfl (by (try simp only [List.map_toArray, List.map_cons, List.map_nil]); first | done | rfl) ?_; (with_reducible refine (spec_l1In.calls a0 1 6 true _ A1.out).mono ?_); rintro e w' ⟨rfl, ⟨nd, rfl⟩⟩; refine ⟨_, rfl, ?_⟩) | go_values | go_skip | go_guarded | go_step | go_upon))
  refine Kd.R_lit (Kd.int .i64) _ 3 ?hg (N := 14) ?hd (xs := ([] : List Int)) (inner := []) (ok := fun _ => True) (okp := fun _ => True) ?hr ?hp (fun _ hk => hk) trivial (Below.refl _ _) (Nat.le_refl _) (by simp) ?_
  case hd => rfl
  case hg => rfl
  case hr => first | (go_simp; done) | (go_simp; rfl)
  case hp => exact (Reps.none _ _)
  intro vb0 w8 ho hb hg_ hnew_
  clear hg_ hnew_
  have HV := Aside0.mk (Kd.R_lower ho (below_size (by repeat (first | (with_reducible first | exact HB.out | apply below_alloc | apply pw_below_drewN | apply below_drew1) | exact HB.out))))
  have n0_ := Aside0.mk (below_step (by repeat (first | (with_reducible first | exact HB.out | apply below_alloc | apply pw_below_drewN | apply below_drew1) | exact HB.out)) hb)
  clear HB hb ho
  have HB := n0_
  clear n0_
  obtain ⟨Ab0, cb0, rfl⟩ := Kd.R_slice HV.out
  (repeat ((fail_if_success (with_reducible refine gate_dst (N := 16) rfl ?_)); first | go_values | go_skip | go_guarded | go_step | go_upon))
  refine goesL_ (some 16) rfl rfl Try.func91 (by kernel_rfl) rfl #[.int .i64 a0] rfl (by (try simp only [List.map_toArray, List.map_cons, List.map_nil]); first | done | rfl) ?_
  refine (spec_l2Orders.calls k a0 all _ A2.out).mono ?_
  rintro e w9 ⟨va, rfl, ho, hb⟩
  refine ⟨_, rfl, ?_⟩
  have HS := Aside0.mk (Kd.S_lower ho (below_size (by repeat (first | (with_reducible first | exact HB.out | apply below_alloc | apply pw_below_drewN | apply below_drew1) | exact HB.out))))
  have nv_ := Aside0.mk (Kd.R_below (by (with_reducible repeat (first | apply Kd.R_alloc | apply Kd.R_drewN | apply Kd.R_drew)); exact HV.out) hb)
  have n0_ := Aside0.mk (below_step (by repeat (first | (with_reducible first | exact HB.out | apply below_alloc | apply pw_below_drewN | apply below_drew1) | exact HB.out)) hb)
  clear HB hb ho
  clear HV
  have HV := nv_
  clear nv_
  have HB := n0_
  clear n0_
  obtain ⟨As, cs, rfl⟩ := Kd.S_slice HS.out
  skip
  go_wp2
  go_loopg [5, 6, 8] all.length (fun kq v5 v6 v8 w' => ∃ (i m : Int) (b : List Int) (vb : Value), v5 = .int .i64 m ∧ v6 = vb ∧ v8 = .int .i64 i ∧ Aside0 (bestL (spec_l6Sweeps.f k) all kq i b m = some (b_, m_)) ∧ Aside0 (0 ≤ i ∧ i + (kq : Int) = (all.length : Int)) ∧ Aside0 (Kd.S (Kd.slice 3 (Kd.int .i64)) 24 w' w.heap.size (fun _ => True) (.slice As all.length cs) all) ∧ Aside0 (Kd.R (Kd.int .i64) 3 w' w.heap.size (fun _ => True) vb b) ∧ Aside0 (Below w.heap.size w w'))
  case atStart => exact ⟨0, -1, [], _, rfl, rfl, rfl, A3, ⟨by omega, by omega⟩, HS, HV, HB⟩
  case round =>
   clear A3 HS HV HB
   obtain ⟨i, m, b, vb, rfl, rfl, rfl, HA, HI, HS, HV, HB⟩ := hrel
   obtain ⟨Ab, cb, rfl⟩ := Kd.R_slice HV.out
   cases gk with
   | zero =>
    have c1 : decide (i < (all.length : Int)) = false := decide_eq_false (by have := HI.out.2; omega)
    have c1b : (i < (all.length : Int)) = False := eq_false (by have := HI.out.2; omega)
    obtain ⟨rfl, rfl⟩ := Prod.mk.inj (Option.some.inj (show some (b, m) = some (b_, m_) from HA.out))
    go_wp2
    go_ret3
    exact ⟨_, rfl, HV.out, HB.out⟩
   | succ d =>
    obtain ⟨v, hv, H⟩ := Option.bind_eq_some_iff.1 (show (((spec_l6Sweeps.f k) (rowOf all i)).bind fun v => if v > m then bestL (spec_l6Sweeps.f k) all d (i + 1) (rowOf all i) v else bestL (spec_l6Sweeps.f k) all d (i + 1) b m) = some (b_, m_) from HA.out)
    have AV := Aside0.mk hv
    clear hv HA
    have c1 : decide (i < (all.length : Int)) = true := decide_eq_true (by have := HI.out.2; omega)
    have p1 : (0 ≤ i) = True := eq_true HI.out.1
    have p2 : (i < (all.length : Int)) = True := eq_true (by have := HI.out.2; omega)
    obtain ⟨i1, hi1⟩ : ∃ i1 : Int, i1 = i + 1 := ⟨_, rfl⟩
    have z2 : wrap64 (i + 1) = i1 := by rw [hi1]; exact IntWalk.wrap64_in _ (by have h1_ := HI.out; have h2_ := AL.out; omega)
    have HI1 := Aside0.mk (show 0 ≤ i1 ∧ i1 + (d : Int) = (all.length : Int) by have := HI.out; omega)
    rw [← hi1] at H
    clear hi1
    obtain ⟨ad, A1_, c1_, e1_, hx, hlc, hC, hR⟩ := rowAt_ HS.out i HI.out.1 (by have := HI.out.2; omega)
    subst e1_
    have HR := Aside0.mk hR
    have HC := Aside0.mk hC
    have HLC := Aside0.mk hlc
    clear hR hC hlc
    (repeat ((fail_if_success (with_reducible refine gate_callee (f := 80) rfl ?_)); first | go_values | go_skip | go_guarded | go_step | go_upon))
    refine goesL_ (some 27) rfl rfl Try.func80 (by kernel_rfl) rfl #[.slice A1_ (rowOf all i).length c1_] rfl (by (try simp only [List.map_toArray, List.map_cons, List.map_nil]); first | done | rfl) ?_
    refine (spec_l6Sweeps.calls k A1_ c1_ (rowOf all i) v _ ?side1 HLC.out AV.out).mono ?_
    case side1 => exact HC.out
    rintro e w5 ⟨rfl, hb⟩
    refine ⟨_, rfl, ?_⟩
    have n0_ := Aside0.mk (below_step (by repeat (first | (with_reducible first | exact HB.out | apply below_alloc | apply pw_below_drewN | apply below_drew1) | exact HB.out)) hb)
    have n1_ := Aside0.mk (Kd.S_below HS.out hb)
    have n2_ := Aside0.mk (Kd.R_below HV.out hb)
    have n3_ := Aside0.mk (Kd.R_below HR.out hb)
    clear HB HS HV HR HC hb hx
    have HB := n0_
    have HS := n1_
    have HV := n2_
    have HR := n3_
    clear n0_ n1_ n2_ n3_
    obtain ⟨ad2, A2_, c2_, e2_, hx2, _, _, hR2⟩ := rowAt_ HS.out i HI.out.1 (by have := HI.out.2; omega)
    cases e2_
    have HR2 := Aside0.mk hR2
    clear hR2
    by_cases hm : v > m
    ·
     rw [if_pos hm] at H
     have c2 : decide (m < v) = true := decide_eq_true hm
     have H' := Aside0.mk H
     clear H hm
     go_wp2
     go_roundg d
     case measure => omega
     case rel => exact ⟨i1, v, (rowOf all i), _, (by first | rfl | rw [z2]), (by first | rfl | rw [z2]), (by first | rfl | rw [z2]), H', HI1, HS, HR2, HB⟩
    ·
     rw [if_neg hm] at H
     have c2 : decide (m < v) = false := decide_eq_false hm
     have H' := Aside0.mk H
     clear H hm
     go_wp2
     go_roundg d
     case measure => omega
     case rel => exact ⟨i1, m, b, _, (by first | rfl | rw [z2]), (by first | rfl | rw [z2]), (by first | rfl | rw [z2]), H', HI1, HS, HV, HB⟩
def spec_DrawFallSweptFrom.f (k : Nat) (l0 : List Int) : Option (List Int) := (spec_l1Cur_order.f l0 0 0).bind fun tl1 => (if (tl1.1.length : Int) > 5 then (spec_l2Order.f k ([1, 3, 2, 4] : List Int)).bind fun tb5 => (if tb5 = true then (spec_l1Cur_one.f l0 tl1.2.1 tl1.2.2 2).bind fun tb7 => (if tb7.1 = true then (spec_l6Sweep.f k ([1, 3, 2, 4] : List Int)).bind fun tl11 => some (tl11) else some (([1, 3, 2, 4] : List Int))) else some (([1, 3, 2, 4] : List Int))) else (spec_l2Order.f k tl1.1).bind fun tb13 => (if tb13 = true then (spec_l1Cur_one.f l0 tl1.2.1 tl1.2.2 2).bind fun tb15 => (if tb15.1 = true then (spec_l6Sweep.f k tl1.1).bind fun tl19 => some (tl19) else some (tl1.1)) else some (tl1.1)))
theorem spec_DrawFallSweptFrom.mono : ∀ a0 k, LeO (spec_DrawFallSweptFrom.f k a0) (spec_DrawFallSweptFrom.f (k + 1) a0) := by
 intro a0 k
 unfold spec_DrawFallSweptFrom.f
 repeat' with_reducible first | exact spec_l2Order.mono _ _ | exact spec_l6Sweep.mono _ _ | exact LeO.refl _ | exact LeO.none _ | refine LeO.ite ?_ ?_ | refine LeO.bind ?_ (fun _ => ?_)
set_option maxHeartbeats 8000000 in
set_option maxRecDepth 100000 in
theorem spec_DrawFallSweptFrom.calls (k : Nat) (A0 : Option Addr) (c0 : Nat) (l0 : List Int) (r : List Int) (w0 : World) (hr0 : Kd.C (Kd.int .u8) w0 A0 l0.length l0) (hc0 : l0.length ≤ c0) (h : spec_DrawFallSweptFrom.f k l0 = some r) :
  Calls Try.prog 47 #[.slice A0 l0.length c0] w0 fun e w' => ∃ v0_ : Value, e = .returned (v0_) ∧ Kd.R (Kd.int .i64) 3 w' w0.heap.size (fun _ => True) v0_ r ∧ Below w0.heap.size w0 w' := by
 have HB := Aside0.mk (Below.refl w0.heap.size w0)
 have HR0 := Aside0.mk hr0
 have HC0 := Aside0.mk hc0
 have H := Aside0.mk h
 clear hr0 hc0 h
 unfold spec_DrawFallSweptFrom.f at H
 go_enter Try.func47, Try.ntmps47
 (repeat ((fail_if_success (with_reducible refine gate_dst (N := 7) rfl ?_)); first | go_values | go_skip | go_guarded | go_step | go_upon))
 refine box_event ?hg (N := 7) ?hd (cs := #[.slice A0 l0.length c0, .int .i64 0, .int .u64 0]) (t := 59) ?hr ?_
 case hd => rfl
 case hg => rfl
 case hr => first | (go_simp; done) | (go_simp; rfl)
 intro g hg w1 hbox hb
 have HI := Aside0.mk (show IsS59 w0 w1 g l0 0 0 from ⟨A0, c0, hbox, by rw [hg]; exact below_size HB.out, HR0.out⟩)
 have nb_ := Aside0.mk (below_step HB.out hb)
 clear HB hg hb hbox
 have HB := nb_
 clear nb_
 have h0_ := H.out
 clear H
 obtain ⟨⟨l1, p2, q3⟩, h_, h⟩ := Option.bind_eq_some_iff.1 h0_
 have H4 := Aside0.mk h_
 clear h_ h0_
 (try dsimp only at h)
 have H := Aside0.mk h
 clear h
 (repeat ((fail_if_success (with_reducible refine gate_dst (N := 9) rfl ?_)); first | go_values | go_skip | go_guarded | go_step | go_upon))
 refine goesL_ (some 9) rfl rfl Try.func51 (by kernel_rfl) rfl #[.pointer (some ⟨g, 0, none⟩)] rfl (by (try simp only [List.map_toArray, List.map_cons, List.map_nil]); first | done | rfl) ?_
 refine (spec_l1Cur_order.calls g l0 0 0 l1 p2 q3 w0 _ HI.out HB.out H4.out).mono ?_
 rintro e w2 ⟨v0_, rfl, ho0, hi, hb, hk⟩
 refine ⟨_, rfl, ?_⟩
 obtain ⟨AO, cO, e_O⟩ := Kd.R_slice ho0
 subst e_O
 have nnO_ := Aside0.mk (Kd.R_lower (Kd.R_mono (ok' := fun k_ => k_ ≠ g) (Kd.R_bound ho0) (fun k_ h_ => by have h1_ := HI.out.lt; have h2_ := h_.2.1; exact fun h3_ => by omega)) HB.out.size)
 clear ho0
 clear HI HB hk
 have HI := Aside0.mk hi
 have HB := Aside0.mk hb
 clear hi hb
 have O := nnO_
 clear nnO_
 have h := H.out
 clear H
 by_cases hc_ : (l1.length : Int) > 5
 ·
  skip
  rw [if_pos hc_] at h
  have H := Aside0.mk h
  clear h
  have c1 : decide ((l1.length : Int) > 5) = true := decide_eq_true hc_
  have c1b : decide (5 < l1.length) = true := decide_eq_true (by omega)
  clear hc_
  (repeat ((fail_if_success (with_reducible refine gate_dst (N := 13) rfl ?_)); first | go_values | go_skip | go_guarded | go_step | go_upon))
  refine Kd.R_lit (Kd.int .i64) _ 3 ?hg (N := 13) ?hd (xs := ([1, 3, 2, 4] : List Int)) (inner := [.int .i64 (1), .int .i64 (3), .int .i64 (2), .int .i64 (4)]) (ok := fun _ => True) (okp := fun _ => True) ?hr ?hp (fun _ hk => hk) trivial (Below.refl _ _) (Nat.le_refl _) (by simp) ?_
  case hd => rfl
  case hg => rfl
  case hr => first | (go_simp; done) | (go_simp; rfl)
  case hp => exact (Reps.one (show Kd.M (Kd.int .i64) _ _ _ (1) [.int .i64 (1)] from rfl) (Reps.one (show Kd.M (Kd.int .i64) _ _ _ (3) [.int .i64 (3)] from rfl) (Reps.one (show Kd.M (Kd.int .i64) _ _ _ (2) [.int .i64 (2)] from rfl) (Reps.one (show Kd.M (Kd.int .i64) _ _ _ (4) [.int .i64 (4)] from rfl) (Reps.none _ _)))))
  intro v_ w3 ho hb hg_ hnew_
  clear hg_ hnew_
  obtain ⟨AG, cG, e_G⟩ := Kd.R_slice ho
  subst e_G
  have nnG_ := Aside0.mk (Kd.R_lower (Kd.R_mono (ok' := fun k_ => k_ ≠ g) (Kd.R_bound ho) (fun k_ h_ => by have h1_ := HI.out.lt; have h2_ := h_.2.1; exact fun h3_ => by omega)) HB.out.size)
  have APOG := Aside0.mk (show ∀ q_, (Value.slice AO l1.length cO).ownBlock = some q_ → ¬ (Value.slice AG _ cG).ownBlock = some q_ from fun q_ h1_ h2_ => by have h3_ := ((Kd.R_bound O.out).1 q_ h1_).2.2.1; have h4_ := ((Kd.R_bound ho).1 q_ h2_).2.1; omega)
  clear ho
  have nO_ := Aside0.mk (Kd.R_below O.out hb)
  have ni_ := Aside0.mk (HI.out.below hb)
  have nb_ := Aside0.mk (below_step HB.out hb)
  clear HB hb HI  O
  have HB := nb_
  clear nb_
  have HI := ni_
  clear ni_
  have O := nO_
  clear nO_
  have G := nnG_
  clear nnG_
  have h0_ := H.out
  clear H
  obtain ⟨b5, h_, h⟩ := Option.bind_eq_some_iff.1 h0_
  have H6 := Aside0.mk h_
  clear h_ h0_
  (try dsimp only at h)
  have H := Aside0.mk h
  clear h
  (repeat ((fail_if_success (with_reducible refine gate_dst (N := 15) rfl ?_)); first | go_values | go_skip | go_guarded | go_step | go_upon))
  refine goesL_ (some 15) rfl rfl Try.func56 (by kernel_rfl) rfl #[.slice AG ([1, 3, 2, 4] : List Int).length cG] rfl (by (try simp only [List.map_toArray, List.map_cons, List.map_nil]); first | done | rfl) ?_
  refine (spec_l2Order.calls k AG cG ([1, 3, 2, 4] : List Int) b5 _ (Kd.R_reads' G.out).2.2 (Kd.R_reads' G.out).2.1 H6.out).mono ?_
  rintro e w4 ⟨rfl, hdr⟩
  have hb := hdr.below
  clear hdr
  refine ⟨_, rfl, ?_⟩
  have nO_ := Aside0.mk (Kd.R_below O.out hb)
  have nG_ := Aside0.mk (Kd.R_below G.out hb)
  have ni_ := Aside0.mk (HI.out.below hb)
  have nb_ := Aside0.mk (below_step HB.out hb)
  clear HB hb HI  O G
  have HB := nb_
  clear nb_
  have HI := ni_
  clear ni_
  have O := nO_
  clear nO_
  have G := nG_
  clear nG_
  have h := H.out
  clear H
  cases b5 with
  | true =>
   rw [if_pos rfl] at h
   have H := Aside0.mk h
   clear h
   have h0_ := H.out
   clear H
   obtain ⟨⟨b7, p8, q9⟩, h_, h⟩ := Option.bind_eq_some_iff.1 h0_
   have H10 := Aside0.mk h_
   clear h_ h0_
   (try dsimp only at h)
   have H := Aside0.mk h
   clear h
   (repeat ((fail_if_success (with_reducible refine gate_dst (N := 18) rfl ?_)); first | go_values | go_skip | go_guarded | go_step | go_upon))
   refine goesG_ (some 18) rfl rfl Try.func60 (by kernel_rfl) rfl #[.pointer (some ⟨g, 0, none⟩), .int .i64 2] rfl (by (try simp only [List.map_toArray, List.map_cons, List.map_nil]); first | done | rfl) ?_
   refine (spec_l1Cur_one.calls g l0 p2 q3 2 b7 p8 q9 w0 _ HI.out HB.out H10.out).mono ?_
   rintro e w5 ⟨rfl, hi, hb, hk⟩
   refine ⟨_, rfl, ?_⟩
   have nO_ := Aside0.mk (Kd.R_keep O.out hk (fun _ h_ => h_))
   have nG_ := Aside0.mk (Kd.R_keep G.out hk (fun _ h_ => h_))
   clear HI HB hk O G
   have HI := Aside0.mk hi
   have HB := Aside0.mk hb
   clear hi hb
   have O := nO_
   clear nO_
   have G := nG_
   clear nG_
   have h := H.out
   clear H
   cases b7 with
   | true =>
    rw [if_pos rfl] at h
    have H := Aside0.mk h
    clear h
    have h0_ := H.out
    clear H
    obtain ⟨l11, h_, h⟩ := Option.bind_eq_some_iff.1 h0_
    have H12 := Aside0.mk h_
    clear h_ h0_
    (try dsimp only at h)
    have H := Aside0.mk h
    clear h
    (repeat ((fail_if_success (with_reducible refine gate_dst (N := 21) rfl ?_)); first | go_values | go_skip | go_guarded | go_step | go_upon))
    refine goesL_ (some 21) rfl rfl Try.func86 (by kernel_rfl) rfl #[.slice AG ([1, 3, 2, 4] : List Int).length cG] rfl (by (try simp only [List.map_toArray, List.map_cons, List.map_nil]); first | done | rfl) ?_
    refine (spec_l6Sweep.calls k AG cG ([1, 3, 2, 4] : List Int) l11 _ (Kd.R_reads' G.out).2.2 (Kd.R_reads' G.out).2.1 H12.out).mono ?_
    rintro e w6 ⟨v0_, rfl, ho0, hb⟩
    refine ⟨_, rfl, ?_⟩
    obtain ⟨AX, cX, e_X⟩ := Kd.R_slice ho0
    subst e_X
    have nnX_ := Aside0.mk (Kd.R_lower (Kd.R_mono (ok' := fun k_ => k_ ≠ g) (Kd.R_bound ho0) (fun k_ h_ => by have h1_ := HI.out.lt; have h2_ := h_.2.1; exact fun h3_ => by omega)) HB.out.size)
    have APOX := Aside0.mk (show ∀ q_, (Value.slice AO l1.length cO).ownBlock = some q_ → ¬ (Value.slice AX _ cX).ownBlock = some q_ from fun q_ h1_ h2_ => by have h3_ := ((Kd.R_bound O.out).1 q_ h1_).2.2.1; have h4_ := ((Kd.R_bound ho0).1 q_ h2_).2.1; omega)
    have APGX := Aside0.mk (show ∀ q_, (Value.slice AG ([1, 3, 2, 4] : List Int).length cG).ownBlock = some q_ → ¬ (Value.slice AX _ cX).ownBlock = some q_ from fun q_ h1_ h2_ => by have h3_ := ((Kd.R_bound G.out).1 q_ h1_).2.2.1; have h4_ := ((Kd.R_bound ho0).1 q_ h2_).2.1; omega)
    clear ho0
    have nO_ := Aside0.mk (Kd.R_below O.out hb)
    have nG_ := Aside0.mk (Kd.R_below G.out hb)
    have ni_ := Aside0.mk (HI.out.below hb)
    have nb_ := Aside0.mk (below_step HB.out hb)
    clear HB hb HI  O G
    have HB := nb_
    clear nb_
    have HI := ni_
    clear ni_
    have O := nO_
    clear nO_
    have G := nG_
    clear nG_
    have X := nnX_
    clear nnX_
    have h := H.out
    clear H
    obtain rfl := Option.some.inj h
    clear h
    go_wp2
    go_ret
    exact ⟨_, rfl, Kd.R_mono X.out (fun _ _ => trivial), HB.out⟩
   | false =>
    rw [if_neg (by simp)] at h
    have H := Aside0.mk h
    clear h
    have h := H.out
    clear H
    obtain rfl := Option.some.inj h
    clear h
    go_wp2
    go_ret
    exact ⟨_, rfl, Kd.R_mono G.out (fun _ _ => trivial), HB.out⟩
  | false =>
   rw [if_neg (by simp)] at h
   have H := Aside0.mk h
   clear h
   have h := H.out
   clear H
   obtain rfl := Option.some.inj h
   clear h
   go_wp2
   go_ret
   exact ⟨_, rfl, Kd.R_mono G.out (fun _ _ => trivial), HB.out⟩
 ·
  skip
  rw [if_neg hc_] at h
  have H := Aside0.mk h
  clear h
  have c1 : decide ((l1.length : Int) > 5) = false := decide_eq_false hc_
  have c1b : decide (5 < l1.length) = false := decide_eq_false (by omega)
  clear hc_
  have h0_ := H.out
  clear H
  obtain ⟨b13, h_, h⟩ := Option.bind_eq_some_iff.1 h0_
  have H14 := Aside0.mk h_
  clear h_ h0_
  (try dsimp only at h)
  have H := Aside0.mk h
  clear h
  (repeat ((fail_if_success (with_reducible refine gate_dst (N := 15) rfl ?_)); first | go_values | go_skip | go_guarded | go_step | go_upon))
  refine goesL_ (some 15) rfl rfl Try.func56 (by kernel_rfl) rfl #[.slice AO l1.length cO] rfl (by (try simp only [List.map_toArray, List.map_cons, List.map_nil]); first | done | rfl) ?_
  refine (spec_l2Order.calls k AO cO l1 b13 _ (Kd.R_reads' O.out).2.2 (Kd.R_reads' O.out).2.1 H14.out).mono ?_
  rintro e w3 ⟨rfl, hdr⟩
  have hb := hdr.below
  clear hdr
  refine ⟨_, rfl, ?_⟩
  have nO_ := Aside0.mk (Kd.R_below O.out hb)
  have ni_ := Aside0.mk (HI.out.below hb)
  have nb_ := Aside0.mk (below_step HB.out hb)
  clear HB hb HI  O
  have HB := nb_
  clear nb_
  have HI := ni_
  clear ni_
  have O := nO_
  clear nO_
  have h := H.out
  clear H
  cases b13 with
  | true =>
   rw [if_pos rfl] at h
   have H := Aside0.mk h
   clear h
   have h0_ := H.out
   clear H
   obtain ⟨⟨b15, p16, q17⟩, h_, h⟩ := Option.bind_eq_some_iff.1 h0_
   have H18 := Aside0.mk h_
   clear h_ h0_
   (try dsimp only at h)
   have H := Aside0.mk h
   clear h
   (repeat ((fail_if_success (with_reducible refine gate_dst (N := 18) rfl ?_)); first | go_values | go_skip | go_guarded | go_step | go_upon))
   refine goesG_ (some 18) rfl rfl Try.func60 (by kernel_rfl) rfl #[.pointer (some ⟨g, 0, none⟩), .int .i64 2] rfl (by (try simp only [List.map_toArray, List.map_cons, List.map_nil]); first | done | rfl) ?_
   refine (spec_l1Cur_one.calls g l0 p2 q3 2 b15 p16 q17 w0 _ HI.out HB.out H18.out).mono ?_
   rintro e w4 ⟨rfl, hi, hb, hk⟩
   refine ⟨_, rfl, ?_⟩
   have nO_ := Aside0.mk (Kd.R_keep O.out hk (fun _ h_ => h_))
   clear HI HB hk O
   have HI := Aside0.mk hi
   have HB := Aside0.mk hb
   clear hi hb
   have O := nO_
   clear nO_
   have h := H.out
   clear H
   cases b15 with
   | true =>
    rw [if_pos rfl] at h
    have H := Aside0.mk h
    clear h
    have h0_ := H.out
    clear H
    obtain ⟨l19, h_, h⟩ := Option.bind_eq_some_iff.1 h0_
    have H20 := Aside0.mk h_
    clear h_ h0_
    (try dsimp only at h)
    have H := Aside0.mk h
    clear h
    (repeat ((fail_if_success (with_reducible refine gate_dst (N := 21) rfl ?_)); first | go_values | go_skip | go_guarded | go_step | go_upon))
    refine goesL_ (some 21) rfl rfl Try.func86 (by kernel_rfl) rfl #[.slice AO l1.length cO] rfl (by (try simp only [List.map_toArray, List.map_cons, List.map_nil]); first | done | rfl) ?_
    refine (spec_l6Sweep.calls k AO cO l1 l19 _ (Kd.R_reads' O.out).2.2 (Kd.R_reads' O.out).2.1 H20.out).mono ?_
    rintro e w5 ⟨v0_, rfl, ho0, hb⟩
    refine ⟨_, rfl, ?_⟩
    obtain ⟨AX, cX, e_X⟩ := Kd.R_slice ho0
    subst e_X
    have nnX_ := Aside0.mk (Kd.R_lower (Kd.R_mono (ok' := fun k_ => k_ ≠ g) (Kd.R_bound ho0) (fun k_ h_ => by have h1_ := HI.out.lt; have h2_ := h_.2.1; exact fun h3_ => by omega)) HB.out.size)
    have APOX := Aside0.mk (show ∀ q_, (Value.slice AO l1.length cO).ownBlock = some q_ → ¬ (Value.slice AX _ cX).ownBlock = some q_ from fun q_ h1_ h2_ => by have h3_ := ((Kd.R_bound O.out).1 q_ h1_).2.2.1; have h4_ := ((Kd.R_bound ho0).1 q_ h2_).2.1; omega)
    clear ho0
    have nO_ := Aside0.mk (Kd.R_below O.out hb)
    have ni_ := Aside0.mk (HI.out.below hb)
    have nb_ := Aside0.mk (below_step HB.out hb)
    clear HB hb HI  O
    have HB := nb_
    clear nb_
    have HI := ni_
    clear ni_
    have O := nO_
    clear nO_
    have X := nnX_
    clear nnX_
    have h := H.out
    clear H
    obtain rfl := Option.some.inj h
    clear h
    go_wp2
    go_ret
    exact ⟨_, rfl, Kd.R_mono X.out (fun _ _ => trivial), HB.out⟩
   | false =>
    rw [if_neg (by simp)] at h
    have H := Aside0.mk h
    clear h
    have h := H.out
    clear H
    obtain rfl := Option.some.inj h
    clear h
    go_wp2
    go_ret
    exact ⟨_, rfl, Kd.R_mono O.out (fun _ _ => trivial), HB.out⟩
  | false =>
   rw [if_neg (by simp)] at h
   have H := Aside0.mk h
   clear h
   have h := H.out
   clear H
   obtain rfl := Option.some.inj h
   clear h
   go_wp2
   go_ret
   exact ⟨_, rfl, Kd.R_mono O.out (fun _ _ => trivial), HB.out⟩
end Go.Proofs.Ytbnieikbjmfhgaa.PFnFalls
