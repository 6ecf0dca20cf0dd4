-- laid by mkprint.py, a program of this claim's writer, over the kit's print program; parts of it are typed by hand
import Derived.Test.YtmgekfoiamjijaaPFnConflictsx0
import Derived.Test.YtmgekfoiamjijaaPFnConflictsx16
namespace Go.Proofs.Ytmgekfoiamjijaa.PFnConflicts
open Go.RowKit Go.Proofs.YtmgekfoiamjijaaW.PrintWords Go.Proofs.YtmgekfoiamjijaaW.PrintLast Go.Proofs.YtmgekfoiamjijaaW.PrintMore
attribute [local go_sem] max2_int min2_int max_two min_two max_three min_three max_four min_four
set_option linter.unusedVariables false
set_option linter.unusedSimpArgs false
mutual
def impl_shape.l0 : Nat → List Int → List Int → List Int → Int → Int → Option (List Int)
  | 0, _, _, _, _, _ => none
  | k + 1, x0, x3, x10, x11, x12 => if x12 < x11 then (if 0 ≤ x12 then (if x12 < (x10.length : Int) then (impl_shape.l1 k x0 x3 (rd x10 x12) 1 x10 x11 x12 x0 (x0.length : Int) 0) else (none)) else (none)) else (some x3)
def impl_shape.l1 : Nat → List Int → List Int → Int → Int → List Int → Int → Int → List Int → Int → Int → Option (List Int)
  | 0, _, _, _, _, _, _, _, _, _, _ => none
  | k + 1, x0, x3, x5, x6, x10, x11, x12, x16, x17, x18 => if x18 < x17 then (if 0 ≤ x18 then (if x18 < (x16.length : Int) then (if (rd x16 x18) < x5 then (impl_shape.l1 k x0 x3 x5 (wrap64 (x6 + 1)) x10 x11 x12 x16 x17 (wrap64 (x18 + 1))) else (impl_shape.l1 k x0 x3 x5 x6 x10 x11 x12 x16 x17 (wrap64 (x18 + 1)))) else (none)) else (none)) else (if x3.length < 17592186044416 then (impl_shape.l0 k x0 (x3 ++ [x6]) x10 x11 (wrap64 (x12 + 1))) else (none))
end
def impl_shape.f (k : Nat) (l0 : List Int) : Option (List Int) := impl_shape.l0 k l0 (([] : List Int)) l0 (l0.length : Int) 0
theorem impl_shape.mono_l : ∀ k, (∀ y0 y1 y2 y3 y4, LeO (impl_shape.l0 k y0 y1 y2 y3 y4) (impl_shape.l0 (k + 1) y0 y1 y2 y3 y4)) ∧ (∀ y0 y1 y2 y3 y4 y5 y6 y7 y8 y9, LeO (impl_shape.l1 k y0 y1 y2 y3 y4 y5 y6 y7 y8 y9) (impl_shape.l1 (k + 1) y0 y1 y2 y3 y4 y5 y6 y7 y8 y9))
  | 0 => ⟨fun _ _ _ _ _ r h => by simp [impl_shape.l0] at h, fun _ _ _ _ _ _ _ _ _ _ r h => by simp [impl_shape.l1] at h⟩
  | k + 1 => by
    obtain ⟨ih0, ih1⟩ := impl_shape.mono_l k
    refine ⟨?_, ?_⟩
    · intro y0 y1 y2 y3 y4
      unfold impl_shape.l0
      repeat' first
      | (with_reducible exact ih0 _ _ _ _ _)
      | (with_reducible exact ih1 _ _ _ _ _ _ _ _ _ _)
      | (with_reducible exact LeO.refl _)
      | (with_reducible exact LeO.none _)
      | (with_reducible refine LeO.ite ?_ ?_)
      | (with_reducible refine LeO.bind ?_ (fun _ => ?_))
      | exact ih0 _ _ _ _ _
      | exact ih1 _ _ _ _ _ _ _ _ _ _
      | exact LeO.none _
      | refine LeO.ite ?_ ?_
      | refine LeO.bind ?_ (fun _ => ?_)
    · intro y0 y1 y2 y3 y4 y5 y6 y7 y8 y9
      unfold impl_shape.l1
      repeat' first
      | (with_reducible exact ih0 _ _ _ _ _)
      | (with_reducible exact ih1 _ _ _ _ _ _ _ _ _ _)
      | (with_reducible exact LeO.refl _)
      | (with_reducible exact LeO.none _)
      | (with_reducible refine LeO.ite ?_ ?_)
      | (with_reducible refine LeO.bind ?_ (fun _ => ?_))
      | exact ih0 _ _ _ _ _
      | exact ih1 _ _ _ _ _ _ _ _ _ _
      | exact LeO.none _
      | refine LeO.ite ?_ ?_
      | refine LeO.bind ?_ (fun _ => ?_)
theorem impl_shape.mono : ∀ a0 k, LeO (impl_shape.f k a0) (impl_shape.f (k + 1) a0) := by
  intro a0 k
  obtain ⟨ih0, ih1⟩ := impl_shape.mono_l k
  unfold impl_shape.f
  repeat' first
      | (with_reducible exact ih0 _ _ _ _ _)
      | (with_reducible exact ih1 _ _ _ _ _ _ _ _ _ _)
      | (with_reducible exact LeO.refl _)
      | (with_reducible exact LeO.none _)
      | (with_reducible refine LeO.ite ?_ ?_)
      | (with_reducible refine LeO.bind ?_ (fun _ => ?_))
      | exact ih0 _ _ _ _ _
      | exact ih1 _ _ _ _ _ _ _ _ _ _
      | exact LeO.none _
      | refine LeO.ite ?_ ?_
      | refine LeO.bind ?_ (fun _ => ?_)
set_option maxHeartbeats 8000000 in
set_option maxRecDepth 100000 in
theorem impl_shape.calls (k : Nat) (A0 : Option Addr) (c0 : Nat) (l0 : List Int) (r : List Int) (w : World) (hr0 : Kd.C (Kd.int .i64) w A0 l0.length l0) (hc0 : l0.length ≤ c0) (h : impl_shape.f k l0 = some r) :
    Calls Try.prog 94 #[.slice A0 l0.length c0] w fun e w' => ∃ v0_ : Value, e = .returned (v0_) ∧ Kd.R (Kd.int .i64) 3 w' w.heap.size (fun _ => True) v0_ r ∧ Below w.heap.size w w' := by
  have HR0 := Aside0.mk hr0
  have HC0 := Aside0.mk hc0
  clear hr0 hc0
  have HB := Aside0.mk (Below.refl w.heap.size w)
  have H : (impl_shape.l0 k l0 (([] : List Int)) l0 (l0.length : Int) 0) = some r := h
  clear h
  obtain ⟨y317, hy317⟩ : ∃ y_ : List Int, y_ = (([] : List Int)) := ⟨_, rfl⟩
  replace H : (impl_shape.l0 k l0 y317 l0 (l0.length : Int) 0) = some r := by first | (rw [hy317]; with_reducible exact H) | (have H2_ := (Option.bind_some _ _).symm.trans H; rw [hy317]; with_reducible exact H2_) | (have H2_ := (Option.bind_some _ _).symm.trans H; with_reducible exact H2_) | with_reducible exact H | (rw [hy317]; exact H) | exact H
  have Ny317 := Aside0.mk hy317
  clear hy317
  have H' := Aside0.mk H
  clear H
  go_enter Try.func94, Try.ntmps94
  go_wp2_with (first | ((with_reducible refine gate_dst (N := 9) rfl ?_); refine Kd.R_lit (Kd.int .i64) _ 3 ?hg (N := 9) ?hd (xs := ([] : List Int)) (inner := []) (ok := fun _ => True) (okp := fun _ => True) ?hr ?hp (fun _ hk => hk) trivial (Below.refl _ _) (Nat.le_refl _) (by simp) ?_; (case hd => rfl); (case hg => rfl); (case hr => first | (go_simp; done) | (go_simp; rfl)); (case hp => exact (Reps.none _ _)); intro v318 w2 ho3 hb hg_ hnew_; clear hg_ hnew_; (first | rw [← Ny317.out] at ho3 | (simp only [Int.reduceToNat] at ho3; rw [← Ny317.out] at ho3)); have n0_ := Aside0.mk (Kd.R_lower ho3 (below_size (by repeat (first | (with_reducible first | exact HB.out | apply below_alloc | apply pw_below_drewN | apply below_drew1) | exact HB.out)))); have n1_ := Aside0.mk (below_step (by repeat (first | (with_reducible first | exact HB.out | apply below_alloc | apply pw_below_drewN | apply below_drew1) | exact HB.out)) hb); clear HB; have HO319 := n0_; have HB := n1_; clear n0_ n1_; clear hb ho3))
  go_loopg [3, 12] k (fun kq v3 v12 w' => ∃ (x3_1 : List Int) (x12_1 : Int), v12 = .int .i64 x12_1 ∧ Aside0 (impl_shape.l0 kq l0 x3_1 l0 (l0.length : Int) x12_1 = some r) ∧ Aside0 (kq ≤ k) ∧ Aside0 (Kd.R (Kd.int .i64) 3 w' w.heap.size (fun _ => True) v3 x3_1) ∧ Aside0 (Below w.heap.size w w'))
  case atStart => exact ⟨(y317), (0), (by first | rfl | (simp; done) | (simp [*]; done)), H', ⟨Nat.le_refl _⟩, ⟨by (with_reducible repeat (first | apply Kd.R_alloc | apply Kd.R_drewN | apply Kd.R_drew)); exact HO319.out⟩, ⟨by repeat (first | (with_reducible first | exact HB.out | apply below_alloc | apply pw_below_drewN | apply below_drew1) | exact HB.out)⟩⟩
  case round =>
    clear H'
    try clear p2
    obtain ⟨x3_1, x12_1, rfl, HA, HK1, HO_3, HB⟩ := hrel
    cases gk with
    | zero => exact absurd HA.out (by simp [impl_shape.l0])
    | succ k1 =>
      have H := HA.out
      clear HA
      simp only [impl_shape.l0] at H
      by_cases c4 : x12_1 < (l0.length : Int)
      · rw [if_pos c4] at H
        have c4b0 : decide (x12_1 < (l0.length : Int)) = true := decide_eq_true c4
        clear c4
        by_cases c5 : 0 ≤ x12_1
        · rw [if_pos c5] at H
          have c5b0 : decide (0 ≤ x12_1) = true := decide_eq_true c5
          clear c5
          by_cases c6 : x12_1 < (l0.length : Int)
          · rw [if_pos c6] at H
            have c6b0 : decide (x12_1 < (l0.length : Int)) = true := decide_eq_true c6
            clear c6
            have H' := Aside0.mk H
            clear H
            have p320 : 0 ≤ (x12_1 : Int) := of_decide_eq_true (by first | (with_reducible assumption) | assumption)
            have q320 : x12_1 < (l0.length : Int) := of_decide_eq_true (by first | (with_reducible assumption) | assumption)
            obtain ⟨ad320, e320, hx320_0⟩ := Kd.at_int HR0.out x12_1 p320 q320
            cases e320
            replace hx320_0 := (HB.out.cell (World.block_lt_of_cell? w _ hx320_0)).trans hx320_0
            replace p320 := eq_true p320
            replace q320 := eq_true q320
            go_wp2
            go_loopg [6, 18] k1 (fun kq v6 v18 w' => ∃ (x6_2 : Int) (x18_2 : Int), v6 = .int .i64 x6_2 ∧ v18 = .int .i64 x18_2 ∧ Aside0 (impl_shape.l1 kq l0 x3_1 (rd l0 x12_1) x6_2 l0 (l0.length : Int) x12_1 l0 (l0.length : Int) x18_2 = some r) ∧ Aside0 (kq ≤ k1) ∧ Aside0 (Kd.R (Kd.int .i64) 3 w' w.heap.size (fun _ => True) u3 x3_1) ∧ Aside0 (Below w.heap.size w w'))
            case atStart => exact ⟨(1), (0), (by first | rfl | (simp; done) | (simp [*]; done)), (by first | rfl | (simp; done) | (simp [*]; done)), H', ⟨Nat.le_refl _⟩, ⟨by (with_reducible repeat (first | apply Kd.R_alloc | apply Kd.R_drewN | apply Kd.R_drew)); exact HO_3.out⟩, ⟨by repeat (first | (with_reducible first | exact HB.out | apply below_alloc | apply pw_below_drewN | apply below_drew1) | exact HB.out)⟩⟩
            case round =>
              clear H'
              try clear p2
              try clear p3
              try clear q3
              try clear hx3
              try clear c4
              try clear c4b0
              try clear c5
              try clear c5b0
              try clear c6
              try clear c6b0
              try clear hx320_0
              try clear p2
              try clear p320
              try clear q320
              obtain ⟨x6_2, x18_2, rfl, rfl, HA, HK2, HO_3, HB⟩ := hrel
              cases gk with
              | zero => exact absurd HA.out (by simp [impl_shape.l1])
              | succ k2 =>
                have H := HA.out
                clear HA
                simp only [impl_shape.l1] at H
                by_cases c7 : x18_2 < (l0.length : Int)
                · rw [if_pos c7] at H
                  have c7b0 : decide (x18_2 < (l0.length : Int)) = true := decide_eq_true c7
                  clear c7
                  by_cases c8 : 0 ≤ x18_2
                  · rw [if_pos c8] at H
                    have c8b0 : decide (0 ≤ x18_2) = true := decide_eq_true c8
                    clear c8
                    by_cases c9 : x18_2 < (l0.length : Int)
                    · rw [if_pos c9] at H
                      have c9b0 : decide (x18_2 < (l0.length : Int)) = true := decide_eq_true c9
                      clear c9
                      by_cases c10 : (rd l0 x18_2) < (rd l0 x12_1)
                      · rw [if_pos c10] at H
                        have c10b0 : decide ((rd l0 x18_2) < (rd l0 x12_1)) = true := decide_eq_true c10
                        clear c10
                        have H' := Aside0.mk H
                        clear H
                        have p321 : 0 ≤ (x18_2 : Int) := of_decide_eq_true (by first | (with_reducible assumption) | assumption)
                        have q321 : x18_2 < (l0.length : Int) := of_decide_eq_true (by first | (with_reducible assumption) | assumption)
                        obtain ⟨ad321, e321, hx321_0⟩ := Kd.at_int HR0.out x18_2 p321 q321
                        obtain rfl : ad320 = ad321 := (by injection e321)
                        replace hx321_0 := (HB.out.cell (World.block_lt_of_cell? w _ hx321_0)).trans hx321_0
                        replace p321 := eq_true p321
                        replace q321 := eq_true q321
                        go_wp2
                        go_roundg k2
                        case measure => have := HK1.out; have := HK2.out; omega
                        case rel => exact ⟨(wrap64 (x6_2 + 1)), (wrap64 (x18_2 + 1)), (by first | rfl | (simp; done) | (simp [*]; done)), (by first | rfl | (simp; done) | (simp [*]; done)), H', ⟨by have := HK1.out; have := HK2.out; omega⟩, ⟨by (with_reducible repeat (first | apply Kd.R_alloc | apply Kd.R_drewN | apply Kd.R_drew)); exact HO_3.out⟩, ⟨by repeat (first | (with_reducible first | exact HB.out | apply below_alloc | apply pw_below_drewN | apply below_drew1) | exact HB.out)⟩⟩
                      · rw [if_neg c10] at H
                        have c10b0 : decide ((rd l0 x18_2) < (rd l0 x12_1)) = false := decide_eq_false c10
                        clear c10
                        have H' := Aside0.mk H
                        clear H
                        have p321 : 0 ≤ (x18_2 : Int) := of_decide_eq_true (by first | (with_reducible assumption) | assumption)
                        have q321 : x18_2 < (l0.length : Int) := of_decide_eq_true (by first | (with_reducible assumption) | assumption)
                        obtain ⟨ad321, e321, hx321_0⟩ := Kd.at_int HR0.out x18_2 p321 q321
                        obtain rfl : ad320 = ad321 := (by injection e321)
                        replace hx321_0 := (HB.out.cell (World.block_lt_of_cell? w _ hx321_0)).trans hx321_0
                        replace p321 := eq_true p321
                        replace q321 := eq_true q321
                        go_wp2
                        go_roundg k2
                        case measure => have := HK1.out; have := HK2.out; omega
                        case rel => exact ⟨(x6_2), (wrap64 (x18_2 + 1)), (by first | rfl | (simp; done) | (simp [*]; done)), (by first | rfl | (simp; done) | (simp [*]; done)), H', ⟨by have := HK1.out; have := HK2.out; omega⟩, ⟨by (with_reducible repeat (first | apply Kd.R_alloc | apply Kd.R_drewN | apply Kd.R_drew)); exact HO_3.out⟩, ⟨by repeat (first | (with_reducible first | exact HB.out | apply below_alloc | apply pw_below_drewN | apply below_drew1) | exact HB.out)⟩⟩
                    · rw [if_neg c9] at H
                      exact absurd H (by simp)
                  · rw [if_neg c8] at H
                    exact absurd H (by simp)
                · rw [if_neg c7] at H
                  have c7b0 : decide (x18_2 < (l0.length : Int)) = false := decide_eq_false c7
                  clear c7
                  by_cases c11 : x3_1.length < 17592186044416
                  · rw [if_pos c11] at H
                    have LMc11 := Aside0.mk c11
                    clear c11
                    obtain ⟨y322, hy322⟩ : ∃ y_ : List Int, y_ = (x3_1 ++ [x6_2]) := ⟨_, rfl⟩
                    replace H : (impl_shape.l0 k2 l0 y322 l0 (l0.length : Int) (wrap64 (x12_1 + 1))) = some r := by first | (rw [hy322]; with_reducible exact H) | (have H2_ := (Option.bind_some _ _).symm.trans H; rw [hy322]; with_reducible exact H2_) | (have H2_ := (Option.bind_some _ _).symm.trans H; with_reducible exact H2_) | with_reducible exact H | (rw [hy322]; exact H) | exact H
                    have Ny322 := Aside0.mk hy322
                    clear hy322
                    have H' := Aside0.mk H
                    clear H
                    go_wp2_with (first | ((with_reducible refine gate_builtin (b := .append) (xs := #[.tmp 28, .tmp 30]) rfl ?_); at_builtin; refine Kd.R_append (Kd.int .i64) (w0 := w) w.heap.size rfl (.tmp 28) (.tmp 30) 24 3 (.int .i64 0) 8 rfl Try.underlying24 info3 rfl (by decide) (by omega) u3 x3_1 x6_2 [.int .i64 x6_2] (fun _ => True) (fun _ => False) rfl rfl ?aP (fun _ hk => hk.elim) ?aF ?aO ?aB ?aS ?aL ?_; (case aP => exact rfl); (case aB => exact (by repeat (first | (with_reducible first | exact HB.out | apply below_alloc | apply pw_below_drewN | apply below_drew1) | exact HB.out))); (case aF => exact (fun _ _ => trivial)); (case aO => exact (by (with_reducible repeat (first | apply Kd.R_alloc | apply Kd.R_drewN | apply Kd.R_drew)); exact HO_3.out)); (case aS => exact (below_size (by repeat (first | (with_reducible first | exact HB.out | apply below_alloc | apply pw_below_drewN | apply below_drew1) | exact HB.out)))); (case aL => have := LMc11.out; omega); intro v323 w12 ho hb hg hat; rw [← Ny322.out] at ho; have n0_ := Aside0.mk (hb); have n1_ := Aside0.mk (ho); clear HB; clear HO_3; have HB := n0_; have HO324 := n1_; clear n0_ n1_; clear ho hb hg hat))
                    go_roundg k2
                    case measure => have := HK1.out; have := HK2.out; omega
                    case rel => exact ⟨(y322), (wrap64 (x12_1 + 1)), (by first | rfl | (simp; done) | (simp [*]; done)), H', ⟨by have := HK1.out; have := HK2.out; omega⟩, ⟨by (with_reducible repeat (first | apply Kd.R_alloc | apply Kd.R_drewN | apply Kd.R_drew)); exact HO324.out⟩, ⟨by repeat (first | (with_reducible first | exact HB.out | apply below_alloc | apply pw_below_drewN | apply below_drew1) | exact HB.out)⟩⟩
                  · rw [if_neg c11] at H
                    exact absurd H (by simp)
          · rw [if_neg c6] at H
            exact absurd H (by simp)
        · rw [if_neg c5] at H
          exact absurd H (by simp)
      · rw [if_neg c4] at H
        have c4b0 : decide (x12_1 < (l0.length : Int)) = false := decide_eq_false c4
        clear c4
        obtain rfl := Option.some.inj H
        go_wp2
        go_ret
        exact ⟨_, by first | rfl | (simp [errW_none, errW_some] <;> rfl) | (simp [*, errW_none, errW_some] <;> rfl), by (with_reducible repeat (first | apply Kd.R_alloc | apply Kd.R_drewN | apply Kd.R_drew)); exact HO_3.out, by repeat (first | (with_reducible first | exact HB.out | apply below_alloc | apply pw_below_drewN | apply below_drew1) | exact HB.out)⟩
def impl_at.l0 : Nat → List Int → List Int → List Int → Int → Int → Option (List Int)
  | 0, _, _, _, _, _ => none
  | k + 1, x0, x5, x9, x10, x11 => if x11 < x10 then (if 0 ≤ x11 then (if x11 < (x9.length : Int) then (if 0 ≤ (rd x9 x11) then (if (rd x9 x11) < (x0.length : Int) then (if x5.length < 17592186044416 then (impl_at.l0 k x0 (x5 ++ [rd x0 (rd x9 x11)]) x9 x10 (wrap64 (x11 + 1))) else (none)) else (none)) else (none)) else (none)) else (none)) else (some x5)
def impl_at.f (k : Nat) (l0 : List Int) (l1 : List Int) : Option (List Int) := impl_at.l0 k l0 (([] : List Int)) l1 (l1.length : Int) 0
theorem impl_at.mono_l : ∀ k, (∀ y0 y1 y2 y3 y4, LeO (impl_at.l0 k y0 y1 y2 y3 y4) (impl_at.l0 (k + 1) y0 y1 y2 y3 y4))
  | 0 => fun _ _ _ _ _ r h => by simp [impl_at.l0] at h
  | k + 1 => by
    have ih0 := impl_at.mono_l k
    · intro y0 y1 y2 y3 y4
      unfold impl_at.l0
      repeat' first
      | (with_reducible exact ih0 _ _ _ _ _)
      | (with_reducible exact LeO.refl _)
      | (with_reducible exact LeO.none _)
      | (with_reducible refine LeO.ite ?_ ?_)
      | (with_reducible refine LeO.bind ?_ (fun _ => ?_))
      | exact ih0 _ _ _ _ _
      | exact LeO.none _
      | refine LeO.ite ?_ ?_
      | refine LeO.bind ?_ (fun _ => ?_)
theorem impl_at.mono : ∀ a0 a1 k, LeO (impl_at.f k a0 a1) (impl_at.f (k + 1) a0 a1) := by
  intro a0 a1 k
  have ih0 := impl_at.mono_l k
  unfold impl_at.f
  repeat' first
      | (with_reducible exact ih0 _ _ _ _ _)
      | (with_reducible exact LeO.refl _)
      | (with_reducible exact LeO.none _)
      | (with_reducible refine LeO.ite ?_ ?_)
      | (with_reducible refine LeO.bind ?_ (fun _ => ?_))
      | exact ih0 _ _ _ _ _
      | exact LeO.none _
      | refine LeO.ite ?_ ?_
      | refine LeO.bind ?_ (fun _ => ?_)
set_option maxHeartbeats 8000000 in
set_option maxRecDepth 100000 in
theorem impl_at.calls (k : Nat) (A0 : Option Addr) (c0 : Nat) (l0 : List Int) (A1 : Option Addr) (c1 : Nat) (l1 : List Int) (r : List Int) (w : World) (hr0 : Kd.C (Kd.int .i64) w A0 l0.length l0) (hc0 : l0.length ≤ c0) (hr1 : Kd.C (Kd.int .i64) w A1 l1.length l1) (hc1 : l1.length ≤ c1) (h : impl_at.f k l0 l1 = some r) :
    Calls Try.prog 95 #[.slice A0 l0.length c0, .slice A1 l1.length c1] w fun e w' => ∃ v0_ : Value, e = .returned (v0_) ∧ Kd.R (Kd.int .i64) 3 w' w.heap.size (fun _ => True) v0_ r ∧ Below w.heap.size w w' := by
  have HR0 := Aside0.mk hr0
  have HC0 := Aside0.mk hc0
  clear hr0 hc0
  have HR1 := Aside0.mk hr1
  have HC1 := Aside0.mk hc1
  clear hr1 hc1
  have HB := Aside0.mk (Below.refl w.heap.size w)
  have H : (impl_at.l0 k l0 (([] : List Int)) l1 (l1.length : Int) 0) = some r := h
  clear h
  obtain ⟨y325, hy325⟩ : ∃ y_ : List Int, y_ = (([] : List Int)) := ⟨_, rfl⟩
  replace H : (impl_at.l0 k l0 y325 l1 (l1.length : Int) 0) = some r := by first | (rw [hy325]; with_reducible exact H) | (have H2_ := (Option.bind_some _ _).symm.trans H; rw [hy325]; with_reducible exact H2_) | (have H2_ := (Option.bind_some _ _).symm.trans H; with_reducible exact H2_) | with_reducible exact H | (rw [hy325]; exact H) | exact H
  have Ny325 := Aside0.mk hy325
  clear hy325
  have H' := Aside0.mk H
  clear H
  go_enter Try.func95, Try.ntmps95
  go_wp2_with (first | ((with_reducible refine gate_dst (N := 8) rfl ?_); refine Kd.R_lit (Kd.int .i64) _ 3 ?hg (N := 8) ?hd (xs := ([] : List Int)) (inner := []) (ok := fun _ => True) (okp := fun _ => True) ?hr ?hp (fun _ hk => hk) trivial (Below.refl _ _) (Nat.le_refl _) (by simp) ?_; (case hd => rfl); (case hg => rfl); (case hr => first | (go_simp; done) | (go_simp; rfl)); (case hp => exact (Reps.none _ _)); intro v326 w3 ho4 hb hg_ hnew_; clear hg_ hnew_; (first | rw [← Ny325.out] at ho4 | (simp only [Int.reduceToNat] at ho4; rw [← Ny325.out] at ho4)); have n0_ := Aside0.mk (Kd.R_lower ho4 (below_size (by repeat (first | (with_reducible first | exact HB.out | apply below_alloc | apply pw_below_drewN | apply below_drew1) | exact HB.out)))); have n1_ := Aside0.mk (below_step (by repeat (first | (with_reducible first | exact HB.out | apply below_alloc | apply pw_below_drewN | apply below_drew1) | exact HB.out)) hb); clear HB; have HO327 := n0_; have HB := n1_; clear n0_ n1_; clear hb ho4))
  go_loopg [5, 11] k (fun kq v5 v11 w' => ∃ (x5_1 : List Int) (x11_1 : Int), v11 = .int .i64 x11_1 ∧ Aside0 (impl_at.l0 kq l0 x5_1 l1 (l1.length : Int) x11_1 = some r) ∧ Aside0 (kq ≤ k) ∧ Aside0 (Kd.R (Kd.int .i64) 3 w' w.heap.size (fun _ => True) v5 x5_1) ∧ Aside0 (Below w.heap.size w w'))
  case atStart => exact ⟨(y325), (0), (by first | rfl | (simp; done) | (simp [*]; done)), H', ⟨Nat.le_refl _⟩, ⟨by (with_reducible repeat (first | apply Kd.R_alloc | apply Kd.R_drewN | apply Kd.R_drew)); exact HO327.out⟩, ⟨by repeat (first | (with_reducible first | exact HB.out | apply below_alloc | apply pw_below_drewN | apply below_drew1) | exact HB.out)⟩⟩
  case round =>
    clear H'
    try clear c1
    try clear p2
    obtain ⟨x5_1, x11_1, rfl, HA, HK1, HO_5, HB⟩ := hrel
    cases gk with
    | zero => exact absurd HA.out (by simp [impl_at.l0])
    | succ k1 =>
      have H := HA.out
      clear HA
      simp only [impl_at.l0] at H
      by_cases c5 : x11_1 < (l1.length : Int)
      · rw [if_pos c5] at H
        have c5b0 : decide (x11_1 < (l1.length : Int)) = true := decide_eq_true c5
        clear c5
        by_cases c6 : 0 ≤ x11_1
        · rw [if_pos c6] at H
          have c6b0 : decide (0 ≤ x11_1) = true := decide_eq_true c6
          clear c6
          by_cases c7 : x11_1 < (l1.length : Int)
          · rw [if_pos c7] at H
            have c7b0 : decide (x11_1 < (l1.length : Int)) = true := decide_eq_true c7
            clear c7
            by_cases c8 : 0 ≤ (rd l1 x11_1)
            · rw [if_pos c8] at H
              have c8b0 : decide (0 ≤ (rd l1 x11_1)) = true := decide_eq_true c8
              clear c8
              by_cases c9 : (rd l1 x11_1) < (l0.length : Int)
              · rw [if_pos c9] at H
                have c9b0 : decide ((rd l1 x11_1) < (l0.length : Int)) = true := decide_eq_true c9
                clear c9
                by_cases c10 : x5_1.length < 17592186044416
                · rw [if_pos c10] at H
                  have LMc10 := Aside0.mk c10
                  clear c10
                  obtain ⟨y330, hy330⟩ : ∃ y_ : List Int, y_ = (x5_1 ++ [rd l0 (rd l1 x11_1)]) := ⟨_, rfl⟩
                  replace H : (impl_at.l0 k1 l0 y330 l1 (l1.length : Int) (wrap64 (x11_1 + 1))) = some r := by first | (rw [hy330]; with_reducible exact H) | (have H2_ := (Option.bind_some _ _).symm.trans H; rw [hy330]; with_reducible exact H2_) | (have H2_ := (Option.bind_some _ _).symm.trans H; with_reducible exact H2_) | with_reducible exact H | (rw [hy330]; exact H) | exact H
                  have Ny330 := Aside0.mk hy330
                  clear hy330
                  have H' := Aside0.mk H
                  clear H
                  have p328 : 0 ≤ (x11_1 : Int) := of_decide_eq_true (by first | (with_reducible assumption) | assumption)
                  have q328 : x11_1 < (l1.length : Int) := of_decide_eq_true (by first | (with_reducible assumption) | assumption)
                  obtain ⟨ad328, e328, hx328_0⟩ := Kd.at_int HR1.out x11_1 p328 q328
                  cases e328
                  replace hx328_0 := (HB.out.cell (World.block_lt_of_cell? w _ hx328_0)).trans hx328_0
                  replace p328 := eq_true p328
                  replace q328 := eq_true q328
                  have p329 : 0 ≤ ((rd l1 x11_1) : Int) := of_decide_eq_true (by first | (with_reducible assumption) | assumption)
                  have q329 : (rd l1 x11_1) < (l0.length : Int) := of_decide_eq_true (by first | (with_reducible assumption) | assumption)
                  obtain ⟨ad329, e329, hx329_0⟩ := Kd.at_int HR0.out (rd l1 x11_1) p329 q329
                  cases e329
                  replace hx329_0 := (HB.out.cell (World.block_lt_of_cell? w _ hx329_0)).trans hx329_0
                  replace p329 := eq_true p329
                  replace q329 := eq_true q329
                  go_wp2_with (first | ((with_reducible refine gate_builtin (b := .append) (xs := #[.tmp 15, .tmp 20]) rfl ?_); at_builtin; refine Kd.R_append (Kd.int .i64) (w0 := w) w.heap.size rfl (.tmp 15) (.tmp 20) 24 3 (.int .i64 0) 8 rfl Try.underlying24 info3 rfl (by decide) (by omega) u5 x5_1 (rd l0 (rd l1 x11_1)) [.int .i64 (rd l0 (rd l1 x11_1))] (fun _ => True) (fun _ => False) rfl rfl ?aP (fun _ hk => hk.elim) ?aF ?aO ?aB ?aS ?aL ?_; (case aP => exact rfl); (case aB => exact (by repeat (first | (with_reducible first | exact HB.out | apply below_alloc | apply pw_below_drewN | apply below_drew1) | exact HB.out))); (case aF => exact (fun _ _ => trivial)); (case aO => exact (by (with_reducible repeat (first | apply Kd.R_alloc | apply Kd.R_drewN | apply Kd.R_drew)); exact HO_5.out)); (case aS => exact (below_size (by repeat (first | (with_reducible first | exact HB.out | apply below_alloc | apply pw_below_drewN | apply below_drew1) | exact HB.out)))); (case aL => have := LMc10.out; omega); intro v331 w11 ho hb hg hat; rw [← Ny330.out] at ho; have n0_ := Aside0.mk (hb); have n1_ := Aside0.mk (ho); clear HB; clear HO_5; have HB := n0_; have HO332 := n1_; clear n0_ n1_; clear ho hb hg hat))
                  go_roundg k1
                  case measure => have := HK1.out; omega
                  case rel => exact ⟨(y330), (wrap64 (x11_1 + 1)), (by first | rfl | (simp; done) | (simp [*]; done)), H', ⟨by have := HK1.out; omega⟩, ⟨by (with_reducible repeat (first | apply Kd.R_alloc | apply Kd.R_drewN | apply Kd.R_drew)); exact HO332.out⟩, ⟨by repeat (first | (with_reducible first | exact HB.out | apply below_alloc | apply pw_below_drewN | apply below_drew1) | exact HB.out)⟩⟩
                · rw [if_neg c10] at H
                  exact absurd H (by simp)
              · rw [if_neg c9] at H
                exact absurd H (by simp)
            · rw [if_neg c8] at H
              exact absurd H (by simp)
          · rw [if_neg c7] at H
            exact absurd H (by simp)
        · rw [if_neg c6] at H
          exact absurd H (by simp)
      · rw [if_neg c5] at H
        have c5b0 : decide (x11_1 < (l1.length : Int)) = false := decide_eq_false c5
        clear c5
        obtain rfl := Option.some.inj H
        go_wp2
        go_ret
        exact ⟨_, by first | rfl | (simp [errW_none, errW_some] <;> rfl) | (simp [*, errW_none, errW_some] <;> rfl), by (with_reducible repeat (first | apply Kd.R_alloc | apply Kd.R_drewN | apply Kd.R_drew)); exact HO_5.out, by repeat (first | (with_reducible first | exact HB.out | apply below_alloc | apply pw_below_drewN | apply below_drew1) | exact HB.out)⟩
def impl_firstPlaces_1.f (l0 l1 : List Int) (k : Nat) (_s : Bool) (d : List Int) : Option (Bool × Bool) := (impl_at.f k l0 d).bind fun t => (impl_shape.f k t).bind fun u => (slices_Equal_int_int.f k u l1).bind fun b => some (b, b)
theorem impl_firstPlaces_1.mono (l0 l1 : List Int) : ∀ s d k, LeO (impl_firstPlaces_1.f l0 l1 k s d) (impl_firstPlaces_1.f l0 l1 (k + 1) s d) := fun _ _ _ => LeO.bind (impl_at.mono _ _ _) (fun _ => LeO.bind (impl_shape.mono _ _) (fun _ => LeO.bind (slices_Equal_int_int.mono _ _ _) (fun _ => LeO.refl _)))
def FpSt (A0 : Option Addr) (c0 : Nat) (l0 : List Int) (A1 : Option Addr) (c1 : Nat) (l1 : List Int) (gO gP gF gU : Nat) (s : Bool) (F : Nat → Prop) (W : World) : Prop :=
  W.heap[gO]? = some (.cells #[.slice A0 l0.length c0] 24 (0, 0)) ∧ W.heap[gP]? = some (.cells #[.slice A1 l1.length c1] 24 (0, 0)) ∧ W.heap[gF]? = some (.cells #[.bool s] 4 (0, 0)) ∧ (∃ (A : Option Addr) (n c : Nat), W.heap[gU]? = some (.cells #[.slice A n c] 24 (0, 0))) ∧ ∀ q, F q ↔ q = gF ∨ q = gU
theorem FpSt.kept {A0 : Option Addr} {c0 : Nat} {l0 : List Int} {A1 : Option Addr} {c1 : Nat} {l1 : List Int} {gO gP gF gU : Nat} {s : Bool} {F : Nat → Prop} {W W' : World} (h : FpSt A0 c0 l0 A1 c1 l1 gO gP gF gU s F W) (hk : Kept W W' (fun _ => False)) : FpSt A0 c0 l0 A1 c1 l1 gO gP gF gU s F W' := by
  obtain ⟨h1, h2, h3, ⟨A, n, c, h4⟩, h5⟩ := h
  exact ⟨blk_kept h1 hk (fun h => h), blk_kept h2 hk (fun h => h), blk_kept h3 hk (fun h => h), ⟨A, n, c, blk_kept h4 hk (fun h => h)⟩, h5⟩
theorem FpSt.bound {A0 : Option Addr} {c0 : Nat} {l0 : List Int} {A1 : Option Addr} {c1 : Nat} {l1 : List Int} {gO gP gF gU : Nat} {s : Bool} {F : Nat → Prop} {W : World} (h : FpSt A0 c0 l0 A1 c1 l1 gO gP gF gU s F W) : ∀ q, F q → q < W.heap.size := by
  obtain ⟨h1, h2, h3, ⟨A, n, c, h4⟩, h5⟩ := h
  intro q hq
  rcases (h5 q).1 hq with rfl | rfl
  · exact blk_lt h3
  · exact blk_lt h4
set_option maxHeartbeats 8000000 in
set_option maxRecDepth 100000 in
theorem impl_firstPlaces_1.calls (A0 : Option Addr) (c0 : Nat) (l0 : List Int) (A1 : Option Addr) (c1 : Nat) (l1 : List Int) (gO gP gF gU : Nat) (w0 : World) (hr0 : Kd.C (Kd.int .i64) w0 A0 l0.length l0) (hc0 : l0.length ≤ c0) (hr1 : Kd.C (Kd.int .i64) w0 A1 l1.length l1) (hc1 : l1.length ≤ c1)
    (hg : w0.heap.size ≤ gF ∧ w0.heap.size ≤ gU ∧ gU ≠ gF ∧ gO ≠ gF ∧ gO ≠ gU ∧ gP ≠ gF ∧ gP ≠ gU) (k : Nat) (s : Bool) (F : Nat → Prop) (d : List Int) (s' : Bool) (r : Bool) (v : Value) (W : World) (hst : FpSt A0 c0 l0 A1 c1 l1 gO gP gF gU s F W) (hB : Below w0.heap.size w0 W)
    (hv : Kd.R (Kd.int .i64) 3 W w0.heap.size (fun q_ => ¬ F q_) v d) (h : impl_firstPlaces_1.f l0 l1 k s d = some (s', r)) :
    Calls Try.prog 92 (#[v] ++ #[.pointer (some ⟨gO, 0, none⟩), .pointer (some ⟨gP, 0, none⟩), .pointer (some ⟨gF, 0, none⟩), .pointer (some ⟨gU, 0, none⟩)]) W fun e W' => e = .returned (.bool r) ∧ ∃ F' : Nat → Prop, FpSt A0 c0 l0 A1 c1 l1 gO gP gF gU s' F' W' ∧ Kept W W' F ∧ Below w0.heap.size w0 W' ∧ ∀ q, F' q → F q ∨ W.heap.size ≤ q := by
  obtain ⟨t, h1, h⟩ := Option.bind_eq_some_iff.1 h
  obtain ⟨u, h2, h⟩ := Option.bind_eq_some_iff.1 h
  obtain ⟨b, h3, h⟩ := Option.bind_eq_some_iff.1 h
  obtain ⟨rfl, rfl⟩ := Prod.mk.inj (Option.some.inj h)
  clear h
  obtain ⟨Av, cv, ev⟩ := Kd.R_slice hv
  subst ev
  obtain ⟨g1, g2, g3, ⟨AU, nU, cU, g4⟩, g5⟩ := hst
  have A1_ := Aside0.mk h1
  have A2_ := Aside0.mk h2
  have A3_ := Aside0.mk h3
  have G1 := Aside0.mk g1
  have G2 := Aside0.mk g2
  have G3 := Aside0.mk g3
  have G4 := Aside0.mk g4
  have G5 := Aside0.mk g5
  have HB := Aside0.mk hB
  have HG := Aside0.mk hg
  have HR0 := Aside0.mk hr0
  have HC0 := Aside0.mk hc0
  have HR1 := Aside0.mk hr1
  have HC1 := Aside0.mk hc1
  have HD := Aside0.mk hv
  clear h1 h2 h3 hv hB g1 g2 g3 g4 g5 hr0 hc0 hr1 hc1 hg
  go_enter Try.func92, Try.ntmps92
  go_wp2
  have HK := Aside0.mk (Kept.drew (Kept.refl W (fun _ => False)))
  have n0_ := Aside0.mk (below_drew1 HB.out)
  clear HB
  have HB := n0_
  clear n0_
  refine start_ (n := 7) (S := fun w' => w'.cell? ⟨gO, 0, none⟩ = some (.slice A0 l0.length c0) ∧ w'.cell? ⟨gP, 0, none⟩ = some (.slice A1 l1.length c1)) (ds := [6]) #[false, false, false, false, false, false, false] (by kernel_rfl) rfl rfl ⟨(blk_cell (blk_kept G1.out HK.out (fun h => h)) 0).trans rfl, (blk_cell (blk_kept G2.out HK.out (fun h => h)) 0).trans rfl⟩ (fun hHeld => ?_)
  generalize W.drew = w5 at HB HK hHeld ⊢
  refine take_ (i := 0) (N := some 7) (v := ?_) (a' := ?_) #[true, false, false, false, false, false, false] rfl rfl (by kernel_rfl) (fun _ _ _ h => h) (Or.inl ⟨by rfl, ?_⟩) hHeld ?_ ?_
  rotate_left
  · rintro w' ⟨s0_, s1_⟩
    go_simp
    with_reducible rfl
  rotate_left
  · simp only [Act.put, List.setIfInBounds_toArray, List.set_cons_zero, List.set_cons_succ, i64_w, i32_w]
    rfl
  refine pure_ (i := 1) (N := some 8) (v := ?_) (a' := ?_) #[true, true, false, false, false, false, false] rfl rfl (by kernel_rfl) (fun _ _ _ h => h) (Or.inl ⟨by rfl, ?_⟩) ?_ ?_
  rotate_left
  · intro w'
    go_simp
    with_reducible rfl
  rotate_left
  · simp only [Act.put, List.setIfInBounds_toArray, List.set_cons_zero, List.set_cons_succ, i64_w, i32_w]
    rfl
  refine take_ (i := 4) (N := some 11) (v := ?_) (a' := ?_) #[true, true, false, false, true, false, false] rfl rfl (by kernel_rfl) (fun _ _ _ h => h) (Or.inl ⟨by rfl, ?_⟩) hHeld ?_ ?_
  rotate_left
  · rintro w' ⟨s0_, s1_⟩
    go_simp
    with_reducible rfl
  rotate_left
  · simp only [Act.put, List.setIfInBounds_toArray, List.set_cons_zero, List.set_cons_succ, i64_w, i32_w]
    rfl
  refine one_ (i := 2) (N := some 9) #[true, true, true, false, true, false, false] rfl rfl (by kernel_rfl) (by decide) (fun K hK => ?_)
  refine goes_ Try.func95 (by kernel_rfl) rfl #[.slice A0 l0.length c0, .slice Av d.length cv] (by rfl) rfl rfl (by (try simp only [List.map_toArray, List.map_cons, List.map_nil]); first | done | rfl) ?_
  have HD4 := Kd.R_reads' (Kd.R_kept HD.out HK.out (fun _ _ h => h))
  refine (impl_at.calls k A0 c0 l0 Av cv d t _ (Kd.C_below HR0.out HB.out) HC0.out HD4.2.2 HD4.2.1 A1_.out).mono ?_
  rintro e w6 ⟨vt, rfl, ho, hb⟩
  refine ⟨_, rfl, ?_⟩
  obtain ⟨At, ct, et⟩ := Kd.R_slice ho
  subst et
  have HO := Aside0.mk ho
  have n0_ := Aside0.mk (below_step HB.out hb)
  have n1_ := Aside0.mk (HK.out.below hb)
  clear HB HK hb ho HD4
  have HB := n0_
  have HK := n1_
  clear n0_ n1_
  refine hK.out _ _ ⟨(blk_cell (blk_kept G1.out HK.out (fun h => h)) 0).trans rfl, (blk_cell (blk_kept G2.out HK.out (fun h => h)) 0).trans rfl⟩ (fun hHeld => ?_)
  clear hK K
  refine norm_ (a' := ?_) ?_ ?_
  rotate_left
  · show Act.put _ (some 9) _ = _
    simp only [Act.put, List.setIfInBounds_toArray, List.set_cons_zero, List.set_cons_succ, i64_w, i32_w]
    rfl
  refine one_ (i := 3) (N := some 10) #[true, true, true, true, true, false, false] rfl rfl (by kernel_rfl) (by decide) (fun K hK => ?_)
  refine goes_ Try.func94 (by kernel_rfl) rfl #[.slice At t.length ct] (by rfl) rfl rfl (by (try simp only [List.map_toArray, List.map_cons, List.map_nil]); first | done | rfl) ?_
  have HD4 := Kd.R_reads' HO.out
  refine (impl_shape.calls k At ct t u _ HD4.2.2 HD4.2.1 A2_.out).mono ?_
  rintro e w7 ⟨vu, rfl, ho, hb⟩
  refine ⟨_, rfl, ?_⟩
  obtain ⟨Au, cu, eu⟩ := Kd.R_slice ho
  subst eu
  have HU := Aside0.mk ho
  have n0_ := Aside0.mk (below_step HB.out hb)
  have n1_ := Aside0.mk (HK.out.below hb)
  clear HB HK hb ho HD4 HO
  have HB := n0_
  have HK := n1_
  clear n0_ n1_
  refine hK.out _ _ ⟨(blk_cell (blk_kept G1.out HK.out (fun h => h)) 0).trans rfl, (blk_cell (blk_kept G2.out HK.out (fun h => h)) 0).trans rfl⟩ (fun hHeld => ?_)
  clear hK K
  refine norm_ (a' := ?_) ?_ ?_
  rotate_left
  · show Act.put _ (some 10) _ = _
    simp only [Act.put, List.setIfInBounds_toArray, List.set_cons_zero, List.set_cons_succ, i64_w, i32_w]
    rfl
  refine one_ (i := 5) (N := some 12) #[true, true, true, true, true, true, false] rfl rfl (by kernel_rfl) (by decide) (fun K hK => ?_)
  refine goes_ Try.func93 (by kernel_rfl) rfl #[.slice Au u.length cu, .slice A1 l1.length c1] (by rfl) rfl rfl (by (try simp only [List.map_toArray, List.map_cons, List.map_nil]); first | done | rfl) ?_
  have HD4 := Kd.R_reads' HU.out
  refine (slices_Equal_int_int.calls k Au cu u A1 c1 l1 b _ HD4.2.2 HD4.2.1 (Kd.C_below HR1.out HB.out) HC1.out A3_.out).mono ?_
  rintro e w8 ⟨rfl, hdr⟩
  have hb := hdr.below
  refine ⟨_, rfl, ?_⟩
  have n0_ := Aside0.mk (below_step HB.out hb)
  have n1_ := Aside0.mk (HK.out.below hb)
  clear HB HK hb hdr HD4 HU
  have HB := n0_
  have HK := n1_
  clear n0_ n1_
  refine hK.out _ _ ⟨(blk_cell (blk_kept G1.out HK.out (fun h => h)) 0).trans rfl, (blk_cell (blk_kept G2.out HK.out (fun h => h)) 0).trans rfl⟩ (fun hHeld => ?_)
  clear hK K
  refine norm_ (a' := ?_) ?_ ?_
  rotate_left
  · show Act.put _ (some 12) _ = _
    simp only [Act.put, List.setIfInBounds_toArray, List.set_cons_zero, List.set_cons_succ, i64_w, i32_w]
    rfl
  refine last_ (i := 6) (N := none) #[true, true, true, true, true, true, true] rfl rfl (by kernel_rfl) (by decide) (fun K hK => ?_)
  refine put_step (by rfl) (by rfl) (t := 4) (p := .tmp 3) (v := .tmp 12) (by rfl) (g := _) (off := 0) (#[.bool b]) ([.bool b]) (by rfl) (by rfl) (blk_kept G3.out HK.out (fun h => h)) (by rfl) (by first | rfl | decide) (by simp [Value.oneCell']) ?hfit ?hc ?_
  case hfit => simp
  case hc => rfl
  intro w9 hw_ hgr_
  have n0_ := Aside0.mk (HB.out.grown hgr_ HB.out.size (fun k_ e_ => by cases e_; exact HG.out.1))
  have n1_ := Aside0.mk (show Kept W w9 (fun q_ => q_ = gF) from Kept.of_grown hgr_ (HK.out.mono (fun _ h => h.elim)) (fun k_ e_ => by cases e_; exact .inl rfl))
  have BF := Aside0.mk hw_
  clear HB HK hw_ hgr_ hHeld
  have HB := n0_
  have HK := n1_
  clear n0_ n1_
  refine hK.out _ _ ?_
  clear hK K
  refine done_ (by kernel_rfl) ?_
  have BU := Aside0.mk (blk_kept G4.out HK.out (fun h => HG.out.2.2.1 h))
  have eu : w9.cell? ⟨gU, 0, none⟩ = some (.slice AU nU cU) := (blk_cell BU.out 0).trans rfl
  have fu : w9.frozen? ⟨gU, 0, none⟩ = false := blk_frozen BU.out 0
  (repeat ((fail_if_success (with_reducible refine gate_store (t := 24) (p := 4) rfl ?_)); first | go_values | go_skip | go_guarded | go_step | go_upon))
  refine store_event (t := 24) (p := 4) (v := ?vo) (w1 := (w9.setCell ⟨gU, 0, none⟩ (.slice Av d.length cv))) ?hg ?ho ?hn ?hr ?_
  case ho => rfl
  case hg => rfl
  case hn => rfl
  case hr => first | (go_simp; done) | (go_simp; rfl)
  intro w10 hw
  have hk_ : Kept w9 w10 (fun q_ => q_ = gU) := by rw [hw]; exact (Kept.refl w9 (fun q_ => q_ = gU)).setCell (p := ⟨gU, 0, none⟩) (.inl rfl) _
  have n0_ := Aside0.mk (show Below w0.heap.size w0 w10 from by rw [hw]; exact below_set HB.out HG.out.2.1)
  have BU2 := Aside0.mk (show w10.heap[gU]? = some (.cells #[.slice Av d.length cv] 24 (0, 0)) from by rw [hw]; exact blk_put (cs := #[.slice AU nU cU]) BU.out 0 _ rfl)
  have BF2 := Aside0.mk (blk_kept BF.out hk_ (fun h => HG.out.2.2.1 h.symm))
  have KK := Aside0.mk (show Kept W w10 F from (HK.out.mono (fun q_ h => (G5.out q_).2 (.inl h))).then_ hk_ (fun q_ h => .inl ((G5.out q_).2 (.inr h))))
  have HZ := Aside0.mk (show FpSt A0 c0 l0 A1 c1 l1 gO gP gF gU b F w10 from ⟨blk_kept G1.out KK.out (fun h => ((G5.out _).1 h).elim HG.out.2.2.2.1 HG.out.2.2.2.2.1), blk_kept G2.out KK.out (fun h => ((G5.out _).1 h).elim HG.out.2.2.2.2.2.1 HG.out.2.2.2.2.2.2), BF2.out, ⟨_, _, _, BU2.out⟩, G5.out⟩)
  have ef : w10.cell? ⟨gF, 0, none⟩ = some (.bool b) := (blk_cell BF2.out 0).trans rfl
  clear HB HK hw hk_ eu fu BU BU2 BF BF2
  go_wp2
  go_ret
  exact ⟨rfl, F, HZ.out, KK.out, n0_.out, fun _ h => .inl h⟩
def impl_firstPlaces.f (k : Nat) (l0 l1 : List Int) : Option Bool := impl_choose.f (impl_firstPlaces_1.f l0 l1) k (l0.length : Int) (l1.length : Int) false
theorem impl_firstPlaces.mono : ∀ a0 a1 k, LeO (impl_firstPlaces.f k a0 a1) (impl_firstPlaces.f (k + 1) a0 a1) := fun a0 a1 k => show LeO (impl_choose.f (impl_firstPlaces_1.f a0 a1) k _ _ _) (impl_choose.f (impl_firstPlaces_1.f a0 a1) (k + 1) _ _ _) from impl_choose.mono _ (impl_firstPlaces_1.mono a0 a1) _ _ _ k
set_option maxHeartbeats 8000000 in
set_option maxRecDepth 100000 in
theorem impl_firstPlaces.calls (k : Nat) (A0 : Option Addr) (c0 : Nat) (l0 : List Int) (A1 : Option Addr) (c1 : Nat) (l1 : List Int) (b : Bool) (w : World) (hr0 : Kd.C (Kd.int .i64) w A0 l0.length l0) (hc0 : l0.length ≤ c0) (hr1 : Kd.C (Kd.int .i64) w A1 l1.length l1) (hc1 : l1.length ≤ c1) (h : impl_firstPlaces.f k l0 l1 = some b) :
    Calls Try.prog 77 #[.slice A0 l0.length c0, .slice A1 l1.length c1] w fun e w' => ∃ (A : Option Addr) (n c : Nat), e = .returned (.tuple #[.slice A n c, .bool b]) ∧ Below w.heap.size w w' := by
  have HB := Aside0.mk (Below.refl w.heap.size w)
  have HR0 := Aside0.mk hr0
  have HC0 := Aside0.mk hc0
  have HR1 := Aside0.mk hr1
  have HC1 := Aside0.mk hc1
  have HF := Aside0.mk (show impl_choose.f (impl_firstPlaces_1.f l0 l1) k (l0.length : Int) (l1.length : Int) false = some b from h)
  clear hr0 hc0 hr1 hc1 h
  go_enter Try.func77, Try.ntmps77
  (repeat ((fail_if_success (with_reducible refine gate_dst (N := 2) rfl ?_)); first | go_values | go_skip | go_guarded | go_step | go_upon))
  refine box_event ?hg (N := 2) ?hd (cs := #[.slice A0 l0.length c0]) (t := 24) ?hr ?_
  case hd => rfl
  case hg => rfl
  case hr => first | (go_simp; done) | (go_simp; rfl)
  intro gO hg w1 hbox hb
  have GgO := Aside0.mk (show w.heap.size ≤ gO by rw [hg]; exact below_size HB.out)
  have n0_ := Aside0.mk (below_step HB.out hb)
  have BgO := Aside0.mk hbox
  clear HB hg hb hbox
  have HB := n0_
  clear n0_
  (repeat ((fail_if_success (with_reducible refine gate_dst (N := 3) rfl ?_)); first | go_values | go_skip | go_guarded | go_step | go_upon))
  refine box_event ?hg (N := 3) ?hd (cs := #[.slice A1 l1.length c1]) (t := 24) ?hr ?_
  case hd => rfl
  case hg => rfl
  case hr => first | (go_simp; done) | (go_simp; rfl)
  intro gP hg w2 hbox hb
  have GgP := Aside0.mk (show w.heap.size ≤ gP by rw [hg]; exact below_size HB.out)
  have LgOgP := Aside0.mk (show gO < gP by rw [hg]; exact blk_lt BgO.out)
  have n0_ := Aside0.mk (below_step HB.out hb)
  have ngO_ := Aside0.mk (blk_below BgO.out hb)
  have BgP := Aside0.mk hbox
  clear HB hg hb hbox BgO
  have HB := n0_
  clear n0_
  have BgO := ngO_
  clear ngO_
  (repeat ((fail_if_success (with_reducible refine gate_dst (N := 6) rfl ?_)); first | go_values | go_skip | go_guarded | go_step | go_upon))
  refine box_event ?hg (N := 6) ?hd (cs := #[.slice none 0 0]) (t := 24) ?hr ?_
  case hd => rfl
  case hg => rfl
  case hr => first | (go_simp; done) | (go_simp; rfl)
  intro gU hg w3 hbox hb
  have GgU := Aside0.mk (show w.heap.size ≤ gU by rw [hg]; exact below_size HB.out)
  have LgOgU := Aside0.mk (show gO < gU by rw [hg]; exact blk_lt BgO.out)
  have LgPgU := Aside0.mk (show gP < gU by rw [hg]; exact blk_lt BgP.out)
  have n0_ := Aside0.mk (below_step HB.out hb)
  have ngO_ := Aside0.mk (blk_below BgO.out hb)
  have ngP_ := Aside0.mk (blk_below BgP.out hb)
  have BgU := Aside0.mk hbox
  clear HB hg hb hbox BgO BgP
  have HB := n0_
  clear n0_
  have BgO := ngO_
  clear ngO_
  have BgP := ngP_
  clear ngP_
  (repeat ((fail_if_success (with_reducible refine gate_dst (N := 7) rfl ?_)); first | go_values | go_skip | go_guarded | go_step | go_upon))
  refine box_event ?hg (N := 7) ?hd (cs := #[.bool false]) (t := 4) ?hr ?_
  case hd => rfl
  case hg => rfl
  case hr => first | (go_simp; done) | (go_simp; rfl)
  intro gF hg w4 hbox hb
  have GgF := Aside0.mk (show w.heap.size ≤ gF by rw [hg]; exact below_size HB.out)
  have LgOgF := Aside0.mk (show gO < gF by rw [hg]; exact blk_lt BgO.out)
  have LgPgF := Aside0.mk (show gP < gF by rw [hg]; exact blk_lt BgP.out)
  have LgUgF := Aside0.mk (show gU < gF by rw [hg]; exact blk_lt BgU.out)
  have n0_ := Aside0.mk (below_step HB.out hb)
  have ngO_ := Aside0.mk (blk_below BgO.out hb)
  have ngP_ := Aside0.mk (blk_below BgP.out hb)
  have ngU_ := Aside0.mk (blk_below BgU.out hb)
  have BgF := Aside0.mk hbox
  clear HB hg hb hbox BgO BgP BgU
  have HB := n0_
  clear n0_
  have BgO := ngO_
  clear ngO_
  have BgP := ngP_
  clear ngP_
  have BgU := ngU_
  clear ngU_
  have NE := Aside0.mk (show gO < gP ∧ gP < gU ∧ gU < gF from ⟨LgOgP.out, LgPgU.out, LgUgF.out⟩)
  clear LgOgP LgOgU LgPgU LgOgF LgPgF LgUgF
  have ea : w4.cell? ⟨gU, 0, none⟩ = some (.slice none 0 0) := (blk_cell BgU.out 0).trans rfl
  have fa : w4.frozen? ⟨gU, 0, none⟩ = false := blk_frozen BgU.out 0
  (repeat ((fail_if_success (with_reducible refine gate_store (t := 24) (p := 6) rfl ?_)); first | go_values | go_skip | go_guarded | go_step | go_upon))
  refine store_event (t := 24) (p := 6) (v := ?vow5) (w1 := (w4.setCell ⟨gU, 0, none⟩ (.slice none 0 0))) ?hg ?ho ?hn ?hr ?_
  case ho => rfl
  case hg => rfl
  case hn => rfl
  case hr => first | (go_simp; done) | (go_simp; rfl)
  intro w5 hw
  have hk_ : Kept w4 w5 (fun q_ => q_ = gU) := by rw [hw]; exact (Kept.refl w4 (fun q_ => q_ = gU)).setCell (p := ⟨gU, 0, none⟩) (.inl rfl) _
  have n0_ := Aside0.mk (show Below w.heap.size w w5 from by rw [hw]; exact below_set HB.out GgU.out)
  have n1_ := Aside0.mk (show w5.heap[gU]? = some (.cells #[.slice none 0 0] 24 (0, 0)) from by rw [hw]; exact blk_put (cs := #[.slice none 0 0]) BgU.out 0 _ rfl)
  have ngO_ := Aside0.mk (blk_kept BgO.out hk_ (fun h => by have := NE.out; omega))
  have ngP_ := Aside0.mk (blk_kept BgP.out hk_ (fun h => by have := NE.out; omega))
  have ngF_ := Aside0.mk (blk_kept BgF.out hk_ (fun h => by have := NE.out; omega))
  clear HB hw hk_ ea fa BgU BgO BgP BgF
  have HB := n0_
  have BgU := n1_
  clear n0_ n1_
  have BgO := ngO_
  clear ngO_
  have BgP := ngP_
  clear ngP_
  have BgF := ngF_
  clear ngF_
  have ea : w5.cell? ⟨gF, 0, none⟩ = some (.bool false) := (blk_cell BgF.out 0).trans rfl
  have fa : w5.frozen? ⟨gF, 0, none⟩ = false := blk_frozen BgF.out 0
  (repeat ((fail_if_success (with_reducible refine gate_store (t := 4) (p := 7) rfl ?_)); first | go_values | go_skip | go_guarded | go_step | go_upon))
  refine store_event (t := 4) (p := 7) (v := ?vow6) (w1 := (w5.setCell ⟨gF, 0, none⟩ (.bool false))) ?hg ?ho ?hn ?hr ?_
  case ho => rfl
  case hg => rfl
  case hn => rfl
  case hr => first | (go_simp; done) | (go_simp; rfl)
  intro w6 hw
  have hk_ : Kept w5 w6 (fun q_ => q_ = gF) := by rw [hw]; exact (Kept.refl w5 (fun q_ => q_ = gF)).setCell (p := ⟨gF, 0, none⟩) (.inl rfl) _
  have n0_ := Aside0.mk (show Below w.heap.size w w6 from by rw [hw]; exact below_set HB.out GgF.out)
  have n1_ := Aside0.mk (show w6.heap[gF]? = some (.cells #[.bool false] 4 (0, 0)) from by rw [hw]; exact blk_put (cs := #[.bool false]) BgF.out 0 _ rfl)
  have ngO_ := Aside0.mk (blk_kept BgO.out hk_ (fun h => by have := NE.out; omega))
  have ngP_ := Aside0.mk (blk_kept BgP.out hk_ (fun h => by have := NE.out; omega))
  have ngU_ := Aside0.mk (blk_kept BgU.out hk_ (fun h => by have := NE.out; omega))
  clear HB hw hk_ ea fa BgF BgO BgP BgU
  have HB := n0_
  have BgF := n1_
  clear n0_ n1_
  have BgO := ngO_
  clear ngO_
  have BgP := ngP_
  clear ngP_
  have BgU := ngU_
  clear ngU_
  have e1 : w6.cell? ⟨gO, 0, none⟩ = some (.slice A0 l0.length c0) := (blk_cell BgO.out 0).trans rfl
  have e2 : w6.cell? ⟨gP, 0, none⟩ = some (.slice A1 l1.length c1) := (blk_cell BgP.out 0).trans rfl
  (repeat ((fail_if_success (with_reducible refine gate_dst (N := 13) rfl ?_)); first | go_values | go_skip | go_guarded | go_step | go_upon))
  refine goesL_ (some 13) rfl rfl Try.func91 (by kernel_rfl) rfl #[.int .i64 (l0.length : Int), .int .i64 (l1.length : Int), .func (.func 92) #[] #[.pointer (some ⟨gO, 0, none⟩), .pointer (some ⟨gP, 0, none⟩), .pointer (some ⟨gF, 0, none⟩), .pointer (some ⟨gU, 0, none⟩)]] rfl (by (try simp only [List.map_toArray, List.map_cons, List.map_nil]); first | done | rfl) ?_
  refine (impl_choose.calls (FpSt A0 c0 l0 A1 c1 l1 gO gP gF gU) 92 #[.pointer (some ⟨gO, 0, none⟩), .pointer (some ⟨gP, 0, none⟩), .pointer (some ⟨gF, 0, none⟩), .pointer (some ⟨gU, 0, none⟩)] (impl_firstPlaces_1.f l0 l1) (enters_of Try.func92 (by kernel_rfl) rfl) (l0.length : Int) (l1.length : Int) w w6 HB.out (fun _ _ _ _ h1_ h2_ => FpSt.kept h1_ h2_) (fun _ _ _ h1_ => FpSt.bound h1_) ?hwith k false b (fun q_ => q_ = gF ∨ q_ = gU) ⟨BgO.out, BgP.out, BgF.out, ⟨_, _, _, BgU.out⟩, fun _ => Iff.rfl⟩ HF.out).mono ?_
  case hwith => exact fun k s F d s' r v W h1 h2 h3 h4 => impl_firstPlaces_1.calls A0 c0 l0 A1 c1 l1 gO gP gF gU w HR0.out HC0.out HR1.out HC1.out ⟨GgF.out, GgU.out, by have := NE.out; omega, by have := NE.out; omega, by have := NE.out; omega, by have := NE.out; omega, by have := NE.out; omega⟩ k s F d s' r v W h1 h2 h3 h4
  rintro e w7 ⟨rfl, F', ⟨h1, h2, h3, ⟨AU, nU, cU, h4⟩, h5⟩, h6, h7, h8⟩
  refine ⟨_, rfl, ?_⟩
  have ef : w7.cell? ⟨gF, 0, none⟩ = some (.bool b) := (blk_cell h3 0).trans rfl
  have eu : w7.cell? ⟨gU, 0, none⟩ = some (.slice AU nU cU) := (blk_cell h4 0).trans rfl
  have nB := Aside0.mk h7
  clear HB e1 e2 h1 h2 h3 h4 h5 h6 h7 h8 BgO BgP BgF BgU HR0 HR1 HC0 HC1 HF
  cases b with
  | false =>
    go_wp2
    go_ret2
    exact ⟨_, _, _, rfl, nB.out⟩
  | true =>
    go_wp2
    go_ret2
    exact ⟨_, _, _, rfl, nB.out⟩
end Go.Proofs.Ytmgekfoiamjijaa.PFnConflicts
