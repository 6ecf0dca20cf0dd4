-- laid by mkprint.py, a program of this claim's writer, over the kit's print program; parts of it are typed by hand
import Derived.Test.YtfoededcgeemcaaPFnExactPlainEndsx0
import Derived.Test.YtfoededcgeemcaaPFnExactPlainEndsx1
namespace Go.Proofs.Ytfoededcgeemcaa.PFnExactPlainEnds
open Go.RowKit Go.Proofs.YtfoededcgeemcaaW.PrintWords Go.Proofs.YtfoededcgeemcaaW.PrintLast Go.Proofs.YtfoededcgeemcaaW.PrintMore
attribute [local go_sem] max2_int min2_int max_two min_two max_three min_three max_four min_four   -- for this text's walks alone
set_option linter.unusedVariables false
set_option linter.unusedSimpArgs false

/-! ### impl_endsDepth: function 45 -/
mutual
def impl_endsDepth.l0 : Nat → ByteArray → Int → Int → Int → Int → Option (Int × Bool)
  | 0, _, _, _, _, _ => none
  | k + 1, x0, x4, x5, x8, x9 => if x9 < x8 then (if 0 ≤ x9 then (if x9 < (x0.size : Int) then (if (bt x0 x9) = 73 then (if (wrap64 (x4 + 1)) < 0 then (some (0, false)) else (impl_endsDepth.l0 k x0 (wrap64 (x4 + 1)) (mx x5 (wrap64 (x4 + 1))) x8 (wrap64 (x9 + 1)))) else (if (bt x0 x9) = 84 then (impl_endsDepth.j1 k x0 x4 x5 x8 x9 ((bt x0 x9) == 84)) else (impl_endsDepth.j1 k x0 x4 x5 x8 x9 ((bt x0 x9) == 66)))) else (none)) else (none)) else (if x4 = 0 then ((impl_isSize.f (wrap64 ((x0.size : Int) / 2))).bind fun t104 => (some (x5, t104))) else (some (x5, false)))
def impl_endsDepth.j1 : Nat → ByteArray → Int → Int → Int → Int → Bool → Option (Int × Bool)
  | 0, _, _, _, _, _, _ => none
  | k + 1, x0, x4, x5, x8, x9, x19 => if x19 = true then (if (wrap64 (x4 - 1)) < 0 then (some (0, false)) else (impl_endsDepth.l0 k x0 (wrap64 (x4 - 1)) (mx x5 (wrap64 (x4 - 1))) x8 (wrap64 (x9 + 1)))) else (some (0, false))
end
def impl_endsDepth.f (k : Nat) (a0 : ByteArray) : Option (Int × Bool) := impl_endsDepth.l0 k a0 0 0 (a0.size : Int) 0
theorem impl_endsDepth.mono_l : ∀ k, (∀ y0 y1 y2 y3 y4, LeO (impl_endsDepth.l0 k y0 y1 y2 y3 y4) (impl_endsDepth.l0 (k + 1) y0 y1 y2 y3 y4)) ∧ (∀ y0 y1 y2 y3 y4 y5, LeO (impl_endsDepth.j1 k y0 y1 y2 y3 y4 y5) (impl_endsDepth.j1 (k + 1) y0 y1 y2 y3 y4 y5))
  | 0 => ⟨fun _ _ _ _ _ r h => by simp [impl_endsDepth.l0] at h, fun _ _ _ _ _ _ r h => by simp [impl_endsDepth.j1] at h⟩
  | k + 1 => by
    obtain ⟨ih0, ih1⟩ := impl_endsDepth.mono_l k
    refine ⟨?_, ?_⟩
    · intro y0 y1 y2 y3 y4
      unfold impl_endsDepth.l0
      repeat' first
      | (with_reducible exact ih0 _ _ _ _ _)
      | (with_reducible exact ih1 _ _ _ _ _ _)
      | (with_reducible exact LeO.refl _)
      | (with_reducible exact LeO.none _)
      | (with_reducible refine LeO.ite ?_ ?_)
      | (with_reducible refine LeO.bind ?_ (fun _ => ?_))
      | exact ih0 _ _ _ _ _
      | exact ih1 _ _ _ _ _ _
      | exact LeO.none _
      | refine LeO.ite ?_ ?_
      | refine LeO.bind ?_ (fun _ => ?_)
    · intro y0 y1 y2 y3 y4 y5
      unfold impl_endsDepth.j1
      repeat' first
      | (with_reducible exact ih0 _ _ _ _ _)
      | (with_reducible exact ih1 _ _ _ _ _ _)
      | (with_reducible exact LeO.refl _)
      | (with_reducible exact LeO.none _)
      | (with_reducible refine LeO.ite ?_ ?_)
      | (with_reducible refine LeO.bind ?_ (fun _ => ?_))
      | exact ih0 _ _ _ _ _
      | exact ih1 _ _ _ _ _ _
      | exact LeO.none _
      | refine LeO.ite ?_ ?_
      | refine LeO.bind ?_ (fun _ => ?_)
theorem impl_endsDepth.mono : ∀ a0 k, LeO (impl_endsDepth.f k a0) (impl_endsDepth.f (k + 1) a0) := by
  intro a0 k
  obtain ⟨ih0, ih1⟩ := impl_endsDepth.mono_l k
  unfold impl_endsDepth.f
  repeat' first
      | (with_reducible exact ih0 _ _ _ _ _)
      | (with_reducible exact ih1 _ _ _ _ _ _)
      | (with_reducible exact LeO.refl _)
      | (with_reducible exact LeO.none _)
      | (with_reducible refine LeO.ite ?_ ?_)
      | (with_reducible refine LeO.bind ?_ (fun _ => ?_))
      | exact ih0 _ _ _ _ _
      | exact ih1 _ _ _ _ _ _
      | exact LeO.none _
      | refine LeO.ite ?_ ?_
      | refine LeO.bind ?_ (fun _ => ?_)
set_option maxHeartbeats 8000000 in
set_option maxRecDepth 100000 in
theorem impl_endsDepth.calls (k : Nat) (a0 : ByteArray) (r1 : Int) (r2 : Bool) (w : World) (h : impl_endsDepth.f k a0 = some (r1, r2)) :
    Calls Try.prog 45 #[.string a0] w fun e w' => e = .returned (.tuple #[.int .i64 r1, .bool r2]) ∧ Below w.heap.size w w' := by
  have HB := Aside0.mk (Below.refl w.heap.size w)
  have H : (impl_endsDepth.l0 k a0 0 0 (a0.size : Int) 0) = some (r1, r2) := h
  clear h
  have H' := Aside0.mk H
  clear H
  go_enter Try.func45, Try.ntmps45
  go_wp2
  go_loopg [4, 5, 9] k (fun kq v4 v5 v9 w' => ∃ (x4_1 : Int) (x5_1 : Int) (x9_1 : Int), v4 = .int .i64 x4_1 ∧ v5 = .int .i64 x5_1 ∧ v9 = .int .i64 x9_1 ∧ Aside0 (impl_endsDepth.l0 kq a0 x4_1 x5_1 (a0.size : Int) x9_1 = some (r1, r2)) ∧ Aside0 (kq ≤ k) ∧ Aside0 (Below w.heap.size w w'))
  case atStart => exact ⟨(0), (0), (0), (by first | rfl | (simp; done) | (simp [*]; done)), (by first | rfl | (simp; done) | (simp [*]; done)), (by first | rfl | (simp; done) | (simp [*]; done)), H', ⟨Nat.le_refl _⟩, ⟨by repeat (first | (with_reducible first | exact HB.out | apply below_alloc | apply pw_below_drewN | apply below_drew1) | exact HB.out)⟩⟩
  case round =>
    clear H'
    obtain ⟨x4_1, x5_1, x9_1, rfl, rfl, rfl, HA, HK1, HB⟩ := hrel
    cases gk with
    | zero => exact absurd HA.out (by simp [impl_endsDepth.l0])
    | succ k1 =>
      have H := HA.out
      clear HA
      simp only [impl_endsDepth.l0] at H
      by_cases c2 : x9_1 < (a0.size : Int)
      · rw [if_pos c2] at H
        have c2b0 : decide (x9_1 < (a0.size : Int)) = true := decide_eq_true c2
        clear c2
        by_cases c3 : 0 ≤ x9_1
        · rw [if_pos c3] at H
          have c3b0 : decide (0 ≤ x9_1) = true := decide_eq_true c3
          clear c3
          by_cases c4 : x9_1 < (a0.size : Int)
          · rw [if_pos c4] at H
            have c4b0 : decide (x9_1 < (a0.size : Int)) = true := decide_eq_true c4
            clear c4
            by_cases c6 : (bt a0 x9_1) = 73
            · rw [if_pos c6] at H
              have c6b0 : ((bt a0 x9_1) == 73) = true := beq_iff_eq.mpr c6
              have c6b1 : ((bt a0 x9_1) != 73) = false := bne_eq_false_iff_eq.mpr c6
              clear c6
              by_cases c7 : (wrap64 (x4_1 + 1)) < 0
              · rw [if_pos c7] at H
                have c7b0 : decide ((wrap64 (x4_1 + 1)) < 0) = true := decide_eq_true c7
                clear c7
                simp only [Option.some.injEq, Prod.mk.injEq] at H
                obtain ⟨rfl, rfl⟩ := H
                have p5 : 0 ≤ (x9_1 : Int) := of_decide_eq_true (by first | (with_reducible assumption) | assumption)
                have q5 : x9_1 < (a0.size : Int) := of_decide_eq_true (by first | (with_reducible assumption) | assumption)
                have hx5 := bt_at a0 x9_1
                replace p5 := eq_true p5
                replace q5 := eq_true q5
                go_wp2
                go_ret2
                exact ⟨by first | rfl | (simp [errW_none, errW_some] <;> rfl) | (simp [*, errW_none, errW_some] <;> rfl), by repeat (first | (with_reducible first | exact HB.out | apply below_alloc | apply pw_below_drewN | apply below_drew1) | exact HB.out)⟩
              · rw [if_neg c7] at H
                have c7b0 : decide ((wrap64 (x4_1 + 1)) < 0) = false := decide_eq_false c7
                clear c7
                obtain ⟨ji8, hji8⟩ : ∃ j_ : Int, (mx x5_1 (wrap64 (x4_1 + 1))) = j_ := ⟨_, rfl⟩
                replace H : (impl_endsDepth.l0 k1 a0 (wrap64 (x4_1 + 1)) ji8 (a0.size : Int) (wrap64 (x9_1 + 1))) = some (r1, r2) := by first | (rw [hji8] at H; exact H) | (simp only [hji8] at H ⊢; exact H)
                have hji8_ : (if x5_1 < (wrap64 (x4_1 + 1)) then (wrap64 (x4_1 + 1)) else x5_1) = ji8 := hji8
                have H' := Aside0.mk H
                clear H
                have p5 : 0 ≤ (x9_1 : Int) := of_decide_eq_true (by first | (with_reducible assumption) | assumption)
                have q5 : x9_1 < (a0.size : Int) := of_decide_eq_true (by first | (with_reducible assumption) | assumption)
                have hx5 := bt_at a0 x9_1
                replace p5 := eq_true p5
                replace q5 := eq_true q5
                go_wp2
                go_roundg k1
                case measure => have := HK1.out; omega
                case rel => exact ⟨(wrap64 (x4_1 + 1)), (ji8), (wrap64 (x9_1 + 1)), (by first | rfl | (simp; done) | (simp [*]; done)), (by first | rfl | (simp; done) | (simp only [← hji8] <;> (first | rfl | simp)) | (simp [*]; done)), (by first | rfl | (simp; done) | (simp [*]; done)), H', ⟨by have := HK1.out; omega⟩, ⟨by repeat (first | (with_reducible first | exact HB.out | apply below_alloc | apply pw_below_drewN | apply below_drew1) | exact HB.out)⟩⟩
            · rw [if_neg c6] at H
              have c6b0 : ((bt a0 x9_1) == 73) = false := beq_eq_false_iff_ne.mpr c6
              have c6b1 : ((bt a0 x9_1) != 73) = true := bne_iff_ne.mpr c6
              have HC9 := Aside0.mk H
              clear H
              have p5 : 0 ≤ (x9_1 : Int) := of_decide_eq_true (by first | (with_reducible assumption) | assumption)
              have q5 : x9_1 < (a0.size : Int) := of_decide_eq_true (by first | (with_reducible assumption) | assumption)
              have hx5 := bt_at a0 x9_1
              replace p5 := eq_true p5
              replace q5 := eq_true q5
              go_upto_if 19 with (fail)
              go_cut [19] (fun v19 wc => ∃ (kq : Nat) (x19_8 : Bool), v19 = .bool x19_8 ∧ Aside0 (impl_endsDepth.j1 kq a0 x4_1 x5_1 (a0.size : Int) x9_1 x19_8 = some (r1, r2)) ∧ Aside0 (kq ≤ k1) ∧ Aside0 (Below w.heap.size w wc))
              case first =>
                have H := HC9.out
                clear HC9
                by_cases c10 : (bt a0 x9_1) = 84
                · rw [if_pos c10] at H
                  have c10b0 : ((bt a0 x9_1) == 84) = true := beq_iff_eq.mpr c10
                  have c10b1 : ((bt a0 x9_1) != 84) = false := bne_eq_false_iff_eq.mpr c10
                  clear c10
                  (first | rw [c10b0] | (simp only [i64_w, i32_w]; rw [c10b0]) | skip)
                  have H' := Aside0.mk H
                  clear H
                  go_wp2
                  go_meet
                  case rel => exact ⟨_, (((bt a0 x9_1) == 84)), (by first | rfl | (simp; done) | (simp [*]; done)), H', ⟨by have := HK1.out; first | omega | exact Nat.le_refl _⟩, ⟨by repeat (first | (with_reducible first | exact HB.out | apply below_alloc | apply pw_below_drewN | apply below_drew1) | exact HB.out)⟩⟩
                · rw [if_neg c10] at H
                  have c10b0 : ((bt a0 x9_1) == 84) = false := beq_eq_false_iff_ne.mpr c10
                  have c10b1 : ((bt a0 x9_1) != 84) = true := bne_iff_ne.mpr c10
                  (first | rw [c10b0] | (simp only [i64_w, i32_w]; rw [c10b0]) | skip)
                  have H' := Aside0.mk H
                  clear H
                  go_wp2
                  go_meet
                  case rel => exact ⟨_, (((bt a0 x9_1) == 66)), (by first | rfl | (simp; done) | (simp [*]; done)), H', ⟨by have := HK1.out; first | omega | exact Nat.le_refl _⟩, ⟨by repeat (first | (with_reducible first | exact HB.out | apply below_alloc | apply pw_below_drewN | apply below_drew1) | exact HB.out)⟩⟩
              case rest =>
                clear HC9
                try clear c1
                try clear c2
                try clear c2b0
                try clear p2
                try clear c3
                try clear c3b0
                try clear c4
                try clear c4b0
                try clear p5
                try clear q5
                try clear hx5
                try clear c6
                try clear c6b0
                try clear c6b1
                try clear p6
                try clear c7
                try clear c7b0
                try clear c10
                try clear c10b0
                try clear c10b1
                try clear p5
                try clear q5
                obtain ⟨kq, x19_8, rfl, HA, HJ8, HB⟩ := hcut
                cases kq with
                | zero => exact absurd HA.out (by simp [impl_endsDepth.j1])
                | succ kj8 =>
                  have H := HA.out
                  clear HA
                  simp only [impl_endsDepth.j1] at H
                  by_cases c11 : x19_8 = true
                  · subst c11
                    have H1 : (if (wrap64 (x4_1 - 1)) < 0 then (some (0, false)) else (impl_endsDepth.l0 kj8 a0 (wrap64 (x4_1 - 1)) (mx x5_1 (wrap64 (x4_1 - 1))) (a0.size : Int) (wrap64 (x9_1 + 1)))) = some (r1, r2) := by rw [if_pos rfl] at H; exact H
                    clear H
                    have H := H1
                    clear H1
                    by_cases c12 : (wrap64 (x4_1 - 1)) < 0
                    · rw [if_pos c12] at H
                      have c12b0 : decide ((wrap64 (x4_1 - 1)) < 0) = true := decide_eq_true c12
                      clear c12
                      simp only [Option.some.injEq, Prod.mk.injEq] at H
                      obtain ⟨rfl, rfl⟩ := H
                      go_wp2
                      go_ret2
                      exact ⟨by first | rfl | (simp [errW_none, errW_some] <;> rfl) | (simp [*, errW_none, errW_some] <;> rfl), by repeat (first | (with_reducible first | exact HB.out | apply below_alloc | apply pw_below_drewN | apply below_drew1) | exact HB.out)⟩
                    · rw [if_neg c12] at H
                      have c12b0 : decide ((wrap64 (x4_1 - 1)) < 0) = false := decide_eq_false c12
                      clear c12
                      obtain ⟨ji13, hji13⟩ : ∃ j_ : Int, (mx x5_1 (wrap64 (x4_1 - 1))) = j_ := ⟨_, rfl⟩
                      replace H : (impl_endsDepth.l0 kj8 a0 (wrap64 (x4_1 - 1)) ji13 (a0.size : Int) (wrap64 (x9_1 + 1))) = some (r1, r2) := by first | (rw [hji13] at H; exact H) | (simp only [hji13] at H ⊢; exact H)
                      have hji13_ : (if x5_1 < (wrap64 (x4_1 - 1)) then (wrap64 (x4_1 - 1)) else x5_1) = ji13 := hji13
                      have H' := Aside0.mk H
                      clear H
                      go_wp2
                      go_roundg kj8
                      case measure => have := HK1.out; have := HJ8.out; omega
                      case rel => exact ⟨(wrap64 (x4_1 - 1)), (ji13), (wrap64 (x9_1 + 1)), (by first | rfl | (simp; done) | (simp [*]; done)), (by first | rfl | (simp; done) | (simp only [← hji13] <;> (first | rfl | simp)) | (simp [*]; done)), (by first | rfl | (simp; done) | (simp [*]; done)), H', ⟨by have := HK1.out; have := HJ8.out; omega⟩, ⟨by repeat (first | (with_reducible first | exact HB.out | apply below_alloc | apply pw_below_drewN | apply below_drew1) | exact HB.out)⟩⟩
                  · replace c11 := Bool.eq_false_iff.mpr c11
                    subst c11
                    have H1 : (some (0, false)) = some (r1, r2) := by rw [if_neg (show ¬ (false = true) by decide)] at H; exact H
                    clear H
                    have H := H1
                    clear H1
                    simp only [Option.some.injEq, Prod.mk.injEq] at H
                    obtain ⟨rfl, rfl⟩ := H
                    go_wp2
                    go_ret2
                    exact ⟨by first | rfl | (simp [errW_none, errW_some] <;> rfl) | (simp [*, errW_none, errW_some] <;> rfl), by repeat (first | (with_reducible first | exact HB.out | apply below_alloc | apply pw_below_drewN | apply below_drew1) | exact HB.out)⟩
          · rw [if_neg c4] at H
            exact absurd H (by simp)
        · rw [if_neg c3] at H
          exact absurd H (by simp)
      · rw [if_neg c2] at H
        have c2b0 : decide (x9_1 < (a0.size : Int)) = false := decide_eq_false c2
        clear c2
        by_cases c14 : x4_1 = 0
        · rw [if_pos c14] at H
          have c14b0 : (x4_1 == 0) = true := beq_iff_eq.mpr c14
          have c14b1 : (x4_1 != 0) = false := bne_eq_false_iff_eq.mpr c14
          clear c14
          replace H := Option.bind_eq_some_iff.mp H
          obtain ⟨t104, A150, H⟩ := H
          replace H : (some (x5_1, t104)) = some (r1, r2) := H
          have A15 := Aside0.mk A150
          clear A150
          simp only [Option.some.injEq, Prod.mk.injEq] at H
          obtain ⟨rfl, rfl⟩ := H
          go_wp2_with (first | (go_at_call 50; (with_reducible refine (impl_isSize.calls (wrap64 ((a0.size : Int) / 2)) t104 _ A15.out).mono ?_); rintro e w' ⟨rfl, ⟨nd, rfl⟩⟩))
          go_ret2
          exact ⟨by first | rfl | (simp [errW_none, errW_some] <;> rfl) | (simp [*, errW_none, errW_some] <;> rfl), by repeat (first | (with_reducible first | exact HB.out | apply below_alloc | apply pw_below_drewN | apply below_drew1) | exact HB.out)⟩
        · rw [if_neg c14] at H
          have c14b0 : (x4_1 == 0) = false := beq_eq_false_iff_ne.mpr c14
          have c14b1 : (x4_1 != 0) = true := bne_iff_ne.mpr c14
          simp only [Option.some.injEq, Prod.mk.injEq] at H
          obtain ⟨rfl, rfl⟩ := H
          go_wp2
          go_ret2
          exact ⟨by first | rfl | (simp [errW_none, errW_some] <;> rfl) | (simp [*, errW_none, errW_some] <;> rfl), by repeat (first | (with_reducible first | exact HB.out | apply below_alloc | apply pw_below_drewN | apply below_drew1) | exact HB.out)⟩

/-! ### impl_IsEndsWord: function 16 -/
def impl_IsEndsWord.f (k : Nat) (a0 : ByteArray) : Option (Bool) := (impl_endsDepth.f k a0).bind fun bt105 => (some bt105.2)
theorem impl_IsEndsWord.mono : ∀ a0 k, LeO (impl_IsEndsWord.f k a0) (impl_IsEndsWord.f (k + 1) a0) := by
  intro a0 k
  unfold impl_IsEndsWord.f
  repeat' first
      | (with_reducible exact impl_endsDepth.mono _ _)
      | (with_reducible exact LeO.refl _)
      | (with_reducible exact LeO.none _)
      | (with_reducible refine LeO.ite ?_ ?_)
      | (with_reducible refine LeO.bind ?_ (fun _ => ?_))
      | exact impl_endsDepth.mono _ _
      | exact LeO.none _
      | refine LeO.ite ?_ ?_
      | refine LeO.bind ?_ (fun _ => ?_)
set_option maxHeartbeats 8000000 in
set_option maxRecDepth 100000 in
theorem impl_IsEndsWord.calls (k : Nat) (a0 : ByteArray) (r : Bool) (w : World) (h : impl_IsEndsWord.f k a0 = some r) :
    Calls Try.prog 16 #[.string a0] w fun e w' => e = .returned (.bool r) ∧ Below w.heap.size w w' := by
  have HB := Aside0.mk (Below.refl w.heap.size w)
  have H : ((impl_endsDepth.f k a0).bind fun bt105 => (some bt105.2)) = some r := h
  clear h
  replace H := Option.bind_eq_some_iff.mp H
  obtain ⟨⟨t105, t106⟩, A20, H⟩ := H
  replace H : (some t106) = some r := H
  have A2 := Aside0.mk A20
  clear A20
  obtain rfl := Option.some.inj H
  go_enter Try.func16, Try.ntmps16
  go_wp2_with (first | ((with_reducible refine gate_callee (f := 45) rfl ?_); refine goesL_ (some 7) rfl rfl Try.func45 (by kernel_rfl) rfl #[.string a0] rfl (by (try simp only [List.map_toArray, List.map_cons, List.map_nil]); first | done | rfl | (simp only [List.length_drop, List.length_take]; rfl)) ?_; (with_reducible refine (impl_endsDepth.calls k a0 t105 t106 _ A2.out).mono ?_); rintro e w3 ⟨rfl, hb⟩; refine ⟨_, rfl, ?_⟩; have n0_ := Aside0.mk (below_step (by repeat (first | (with_reducible first | exact HB.out | apply below_alloc | apply pw_below_drewN | apply below_drew1) | exact HB.out)) hb); clear HB; have HB := n0_; clear n0_; (try clear hb); (try clear hb2); (try clear hk); (try clear hi)))
  go_ret
  exact ⟨by first | rfl | (simp [errW_none, errW_some] <;> rfl) | (simp [*, errW_none, errW_some] <;> rfl), by repeat (first | (with_reducible first | exact HB.out | apply below_alloc | apply pw_below_drewN | apply below_drew1) | exact HB.out)⟩

/-! ### impl_PlainEnds: function 28 -/
def plainGo : Nat → Nat → List Int → Int → List Int
  | 0, _, l, _ => l
  | d + 1, i, l, now => if rd l (i : Int) = 73 then plainGo d (i + 1) l (wrap64 (now + 1)) else plainGo d (i + 1) (if now = 1 then l.set i 84 else l) (wrap64 (now - 1))
def impl_PlainEnds.f (k : Nat) (a0 : ByteArray) : Option (ByteArray × Bool) := (impl_IsEndsWord.f k a0).bind fun t => if t = true then (if a0.size ≤ 1000000 then some (strOfNums (plainGo a0.size 0 (bytesOf a0) 0), true) else none) else some (⟨#[]⟩, false)
theorem impl_PlainEnds.mono : ∀ a0 k, LeO (impl_PlainEnds.f k a0) (impl_PlainEnds.f (k + 1) a0) := fun _ _ => LeO.bind (impl_IsEndsWord.mono _ _) (fun _ => LeO.refl _)
/-- the bytes of a text, in a block of their own that may be written into -/
def Bts (e : Nat) (W : World) (g n : Nat) (l : List Int) : Prop :=
  l.length = n ∧ n ≤ 9223372036854775807 ∧ ∃ (cs : Array Value) (hi : Nat), W.heap[g]? = some (.cells cs e (cs.size, hi)) ∧ n ≤ cs.size ∧ ∀ j, j < n → cs[j]? = some (.int .u8 (rd l (j : Int)))
theorem Bts.of (W : World) (e : Nat) (s : ByteArray) (hs : s.size ≤ 9223372036854775807) : Bts e (Lib.bytesWorld W e s) W.heap.size s.size (bytesOf s) := by
  refine ⟨bytesOf_length s, hs, _, _, Lib.bytesWorld_at_new W e s, ?_, fun j hj => ?_⟩
  · simp [Lib.bytesCells]
  · have h := Lib.bytesWorld_cell W e s j hj
    rw [World.cell?, Lib.bytesWorld_at_new] at h
    have h' : j < s.data.toList.length := by rw [data_length]; exact hj
    rw [show rd (bytesOf s) (j : Int) = ((s.data.toList.getD j 0).toNat : Int) from by simp [rd, bytesOf, List.getD_eq_getElem?_getD, List.getElem?_eq_getElem h']]
    simpa using h
theorem Bts.cell {e g n : Nat} {W : World} {l : List Int} (h : Bts e W g n l) (i : Nat) (hi : i < n) : W.cell? ⟨g, i, none⟩ = some (.int .u8 (rd l (i : Int))) ∧ W.frozen? ⟨g, i, none⟩ = false := by
  obtain ⟨_, _, cs, hh, hb, hn, hc⟩ := h
  refine ⟨(cell_of_row W g i cs e (cs.size, hh) hb).trans (hc i hi), ?_⟩
  simp [World.frozen?, hb]
  omega
theorem Bts.set {e g n : Nat} {W : World} {l : List Int} (h : Bts e W g n l) (i : Nat) (hi : i < n) (v : Int) : Bts e (W.setCell ⟨g, i, none⟩ (.int .u8 v)) g n (l.set i v) := by
  obtain ⟨h1, h2, cs, hh, hb, hn, hc⟩ := h
  refine ⟨by rw [List.length_set]; exact h1, h2, cs.setIfInBounds i (.int .u8 v), hh, ?_, by simpa using hn, fun j hj => ?_⟩
  · have hlt : g < W.heap.size := (Array.getElem?_eq_some_iff.1 hb).1
    have hg : W.heap[g] = .cells cs e (cs.size, hh) := (Array.getElem?_eq_some_iff.1 hb).2
    simp [World.setCell, Array.getElem?_modify, hb]
  · by_cases e1 : j = i
    · subst e1
      rw [Array.getElem?_setIfInBounds_self_of_lt (by omega)]
      congr 2
      simp [rd, List.getD_eq_getElem?_getD, List.getElem?_set_self (show j < l.length by omega)]
    · rw [Array.getElem?_setIfInBounds_ne (fun h => e1 h.symm), hc j hj]
      congr 2
      simp [rd, List.getD_eq_getElem?_getD, List.getElem?_set_ne (fun h => e1 h.symm)]
theorem Bts.reads {e g n : Nat} {W : World} {l : List Int} (h : Bts e W g n l) : ReadsInt W .u8 (some ⟨g, 0, none⟩) n l := by
  refine ⟨h.1, h.2.1, fun _ => ⟨_, rfl, fun j hj => ?_⟩⟩
  rw [add_plain]
  exact (h.cell j hj).1
theorem Bts.drew {e g n : Nat} {W : World} {l : List Int} (h : Bts e W g n l) : Bts e W.drew g n l := h
set_option maxHeartbeats 8000000 in
set_option maxRecDepth 100000 in
theorem impl_PlainEnds.calls (k : Nat) (a0 : ByteArray) (r1 : ByteArray) (r2 : Bool) (w : World) (h : impl_PlainEnds.f k a0 = some (r1, r2)) :
    Calls Try.prog 28 #[.string a0] w fun e w' => e = .returned (.tuple #[.string r1, .bool r2]) ∧ Below w.heap.size w w' := by
  unfold impl_PlainEnds.f at h
  obtain ⟨t, h1, H⟩ := Option.bind_eq_some_iff.1 h
  have A2 := Aside0.mk h1
  clear h h1
  cases t with
  | false =>
    rw [if_neg (by simp)] at H
    obtain ⟨rfl, rfl⟩ := Prod.mk.inj (Option.some.inj H)
    clear H
    go_enter Try.func28, Try.ntmps28
    (repeat ((fail_if_success (with_reducible refine gate_dst (N := 9) rfl ?_)); first | go_values | go_skip | go_guarded | go_step | go_upon))
    refine goesL_ (some 9) rfl rfl Try.func16 (by kernel_rfl) rfl #[.string a0] rfl (by (try simp only [List.map_toArray, List.map_cons, List.map_nil]); first | done | rfl) ?_
    refine (impl_IsEndsWord.calls k a0 _ w A2.out).mono ?_
    rintro e wS ⟨rfl, hb_⟩
    refine ⟨_, rfl, ?_⟩
    have HB := Aside0.mk hb_
    clear hb_
    go_wp2
    go_ret2
    exact ⟨rfl, HB.out⟩
  | true =>
    rw [if_pos rfl] at H
    by_cases hsz : a0.size ≤ 1000000
    case neg => rw [if_neg hsz] at H; cases H
    rw [if_pos hsz] at H
    obtain ⟨rfl, rfl⟩ := Prod.mk.inj (Option.some.inj H)
    have HZ := Aside0.mk hsz
    clear H hsz
    go_enter Try.func28, Try.ntmps28
    (repeat ((fail_if_success (with_reducible refine gate_dst (N := 9) rfl ?_)); first | go_values | go_skip | go_guarded | go_step | go_upon))
    refine goesL_ (some 9) rfl rfl Try.func16 (by kernel_rfl) rfl #[.string a0] rfl (by (try simp only [List.map_toArray, List.map_cons, List.map_nil]); first | done | rfl) ?_
    refine (impl_IsEndsWord.calls k a0 _ w A2.out).mono ?_
    rintro e wS ⟨rfl, hb_⟩
    refine ⟨_, rfl, ?_⟩
    have HB := Aside0.mk hb_
    clear hb_
    (repeat ((fail_if_success (with_reducible refine gate_dst (N := 12) rfl ?_)); first | go_values | go_skip | go_guarded | go_step | go_upon))
    have kb := print_bytes (P := Try.prog) 9 51 5 Try.underlying9 Try.underlying51 Try.underlying5 a0 wS
    refine Kd.event_run (v := .slice (some ⟨wS.heap.size, 0, none⟩) a0.size (grownCap wS a0.size 0 5)) (w1 := Lib.bytesWorld wS 5 a0) rfl ?hr ?_
    case hr => first | (go_simp; done) | (go_simp; rfl)
    have HN := Aside0.mk (show w.heap.size ≤ wS.heap.size from HB.out.size)
    have nb_ := Aside0.mk (bytes_below HB.out HB.out.size 5 a0)
    have HL := Aside0.mk (Bts.of wS 5 a0 (by have := HZ.out; omega))
    clear HB kb
    have HB := nb_
    clear nb_
    generalize Lib.bytesWorld wS 5 a0 = wB at HB HL ⊢
    generalize wS.heap.size = g at HN HL ⊢
    generalize grownCap wS a0.size 0 5 = cp
    go_wp2
    go_loopg [5, 15] a0.size (fun kq v5 v15 w' => ∃ (i : Nat) (now : Int) (l : List Int), v5 = .int .i64 now ∧ v15 = .int .i64 (i : Int) ∧ Aside0 (i + kq = a0.size) ∧ Aside0 (plainGo kq i l now = plainGo a0.size 0 (bytesOf a0) 0) ∧ Aside0 (Bts 5 w' g a0.size l) ∧ Aside0 (Below w.heap.size w w'))
    case atStart => exact ⟨0, 0, bytesOf a0, rfl, rfl, ⟨by omega⟩, ⟨rfl⟩, HL, HB⟩
    case round =>
      clear HL HB
      obtain ⟨i, now, l, rfl, rfl, HI, HQ, HL, HB⟩ := hrel
      cases gk with
      | zero =>
        have c1 : decide (i < a0.size) = false := decide_eq_false (by have := HI.out; omega)
        have hcv := string_of_reads (P := Try.prog) (src := 51) (dst := 9) (e := 5) (c := cp) Try.underlying51 Try.underlying5 Try.underlying9 HL.out.reads
        rw [show l = plainGo a0.size 0 (bytesOf a0) 0 from HQ.out] at hcv
        go_wp2
        go_ret2
        exact ⟨rfl, HB.out⟩
      | succ d =>
        have c1 : decide (i < a0.size) = true := decide_eq_true (by have := HI.out; omega)
        have p1 : (i < a0.size) = True := eq_true (by have := HI.out; omega)
        obtain ⟨hx, hf⟩ := HL.out.cell i (by have := HI.out; omega)
        obtain ⟨cc, hcc⟩ : ∃ c, rd l (i : Int) = c := ⟨_, rfl⟩
        rw [hcc] at hx
        have hQ := HQ.out
        rw [plainGo, hcc] at hQ
        clear HQ
        have zi := wup_ i (by have := HI.out; have := HZ.out; omega)
        by_cases h73 : cc = 73
        · skip
          rw [if_pos h73] at hQ
          have HQ := Aside0.mk hQ
          have d1 : (cc == 73) = true := beq_iff_eq.mpr h73
          clear hQ hcc h73
          go_wp2
          go_roundg d
          case measure => omega
          case rel => exact ⟨i + 1, _, l, rfl, (by first | rfl | rw [zi]), ⟨by have := HI.out; omega⟩, HQ, HL, HB⟩
        · skip
          rw [if_neg h73] at hQ
          have d1 : (cc == 73) = false := beq_eq_false_iff_ne.mpr h73
          clear h73 hcc
          by_cases hn1 : now = 1
          · skip
            rw [if_pos hn1] at hQ
            have HQ := Aside0.mk hQ
            have d2 : (now == 1) = true := beq_iff_eq.mpr hn1
            clear hQ hn1
            go_wp2_with (first | ((with_reducible refine gate_store (t := 5) (p := 28) rfl ?_); refine store_event (t := 5) (p := 28) (v := ?vo) (w1 := (wr.setCell ⟨g, i, none⟩ (.int .u8 84))) ?hg ?ho ?hn ?hr ?_; (case ho => rfl); (case hg => rfl); (case hn => rfl); (case hr => first | (go_simp; done) | (go_simp; rfl)); intro w5 hw; have nl_ := Aside0.mk (show Bts 5 w5 g a0.size (l.set i 84) from by rw [hw]; exact HL.out.set i (by have := HI.out; omega) 84); have nb_ := Aside0.mk (show Below w.heap.size w w5 from by rw [hw]; exact below_set HB.out HN.out); clear HL HB hw hx hf; have HL := nl_; have HB := nb_; clear nl_ nb_))
            go_roundg d
            case measure => omega
            case rel => exact ⟨i + 1, _, l.set i 84, rfl, (by first | rfl | rw [zi]), ⟨by have := HI.out; omega⟩, HQ, HL, HB⟩
          · skip
            rw [if_neg hn1] at hQ
            have HQ := Aside0.mk hQ
            have d2 : (now == 1) = false := beq_eq_false_iff_ne.mpr hn1
            clear hQ hn1
            go_wp2
            go_roundg d
            case measure => omega
            case rel => exact ⟨i + 1, _, l, rfl, (by first | rfl | rw [zi]), ⟨by have := HI.out; omega⟩, HQ, HL, HB⟩

/-! ### laws_FnExactPlainEnds: function 7 -/
def laws_FnExactPlainEnds.f (k : Nat) (a0 : ByteArray) : Option (Bool) := if (a0.size : Int) > 1048576 then (some true) else ((spec_PlainEnds.f k a0).bind fun bt107 => ((impl_PlainEnds.f k a0).bind fun bt109 => (if bt109.1.toList = bt107.1.toList then (if (bt109.2 != bt107.2) = true then (some false) else (some true)) else (some false))))
theorem laws_FnExactPlainEnds.mono : ∀ a0 k, LeO (laws_FnExactPlainEnds.f k a0) (laws_FnExactPlainEnds.f (k + 1) a0) := by
  intro a0 k
  unfold laws_FnExactPlainEnds.f
  repeat' first
      | (with_reducible exact impl_PlainEnds.mono _ _)
      | (with_reducible exact spec_PlainEnds.mono _ _)
      | (with_reducible exact LeO.refl _)
      | (with_reducible exact LeO.none _)
      | (with_reducible refine LeO.ite ?_ ?_)
      | (with_reducible refine LeO.bind ?_ (fun _ => ?_))
      | exact impl_PlainEnds.mono _ _
      | exact spec_PlainEnds.mono _ _
      | exact LeO.none _
      | refine LeO.ite ?_ ?_
      | refine LeO.bind ?_ (fun _ => ?_)
set_option maxHeartbeats 8000000 in
set_option maxRecDepth 100000 in
theorem laws_FnExactPlainEnds.calls (k : Nat) (a0 : ByteArray) (r : Bool) (w : World) (h : laws_FnExactPlainEnds.f k a0 = some r) :
    Calls Try.prog 7 #[.string a0] w fun e w' => e = .returned (.bool r) ∧ Below w.heap.size w w' := by
  have HB := Aside0.mk (Below.refl w.heap.size w)
  have H : (if (a0.size : Int) > 1048576 then (some true) else ((spec_PlainEnds.f k a0).bind fun bt107 => ((impl_PlainEnds.f k a0).bind fun bt109 => (if bt109.1.toList = bt107.1.toList then (if (bt109.2 != bt107.2) = true then (some false) else (some true)) else (some false))))) = some r := h
  clear h
  by_cases c2 : (a0.size : Int) > 1048576
  · rw [if_pos c2] at H
    have c2b0 : decide (1048576 < (a0.size : Int)) = true := decide_eq_true c2
    have c2b1 : decide (1048576 < a0.size) = true := decide_eq_true (by omega)
    clear c2
    obtain rfl := Option.some.inj H
    go_enter Try.func7, Try.ntmps7
    go_wp2
    go_ret
    exact ⟨by first | rfl | (simp [errW_none, errW_some] <;> rfl) | (simp [*, errW_none, errW_some] <;> rfl), by repeat (first | (with_reducible first | exact HB.out | apply below_alloc | apply pw_below_drewN | apply below_drew1) | exact HB.out)⟩
  · rw [if_neg c2] at H
    have c2b0 : decide (1048576 < (a0.size : Int)) = false := decide_eq_false c2
    have c2b1 : decide (1048576 < a0.size) = false := decide_eq_false (by omega)
    clear c2
    replace H := Option.bind_eq_some_iff.mp H
    obtain ⟨⟨t107, t108⟩, A30, H⟩ := H
    replace H : ((impl_PlainEnds.f k a0).bind fun bt109 => (if bt109.1.toList = t107.toList then (if (bt109.2 != t108) = true then (some false) else (some true)) else (some false))) = some r := H
    have A3 := Aside0.mk A30
    clear A30
    replace H := Option.bind_eq_some_iff.mp H
    obtain ⟨⟨t109, t110⟩, A40, H⟩ := H
    replace H : (if t109.toList = t107.toList then (if (t110 != t108) = true then (some false) else (some true)) else (some false)) = some r := H
    have A4 := Aside0.mk A40
    clear A40
    by_cases c5 : t109.toList = t107.toList
    · rw [if_pos c5] at H
      have c5b0 : (t109.toList == t107.toList) = true := beq_iff_eq.mpr c5
      have c5b1 : (t109.toList != t107.toList) = false := bne_eq_false_iff_eq.mpr c5
      clear c5
      by_cases c6 : (t110 != t108) = true
      · rw [if_pos c6] at H
        have c6b0 : (t110 != t108) = true := c6
        (try (have c6b1 : decide (t110 = t108) = false := by simpa using c6))
        (try (have c6b2 : (t110 == t108) = false := by simpa using c6))
        (try (have c6b3 : ¬ (t110 = t108) := by simpa using c6))
        clear c6
        obtain rfl := Option.some.inj H
        go_enter Try.func7, Try.ntmps7
        go_wp2_with (first | ((with_reducible refine gate_callee (f := 27) rfl ?_); refine goesL_ (some 12) rfl rfl Try.func27 (by kernel_rfl) rfl #[.string a0] rfl (by (try simp only [List.map_toArray, List.map_cons, List.map_nil]); first | done | rfl | (simp only [List.length_drop, List.length_take]; rfl)) ?_; (with_reducible refine (spec_PlainEnds.calls k a0 t107 t108 _ A3.out).mono ?_); rintro e w' ⟨rfl, ⟨nd, rfl⟩⟩; refine ⟨_, rfl, ?_⟩) | ((with_reducible refine gate_callee (f := 28) rfl ?_); refine goesL_ (some 17) rfl rfl Try.func28 (by kernel_rfl) rfl #[.string a0] rfl (by (try simp only [List.map_toArray, List.map_cons, List.map_nil]); first | done | rfl | (simp only [List.length_drop, List.length_take]; rfl)) ?_; (with_reducible refine (impl_PlainEnds.calls k a0 t109 t110 _ A4.out).mono ?_); rintro e w7 ⟨rfl, hb⟩; refine ⟨_, rfl, ?_⟩; have n0_ := Aside0.mk (below_step (by repeat (first | (with_reducible first | exact HB.out | apply below_alloc | apply pw_below_drewN | apply below_drew1) | exact HB.out)) hb); clear HB; have HB := n0_; clear n0_; (try clear hb); (try clear hb2); (try clear hk); (try clear hi)))
        go_ret
        exact ⟨by first | rfl | (simp [errW_none, errW_some] <;> rfl) | (simp [*, errW_none, errW_some] <;> rfl), by repeat (first | (with_reducible first | exact HB.out | apply below_alloc | apply pw_below_drewN | apply below_drew1) | exact HB.out)⟩
      · rw [if_neg c6] at H
        have c6b0 : (t110 != t108) = false := by simpa using c6
        (try (have c6b1 : decide (t110 = t108) = true := by simpa using c6))
        (try (have c6b2 : (t110 == t108) = true := by simpa using c6))
        clear c6
        obtain rfl := Option.some.inj H
        go_enter Try.func7, Try.ntmps7
        go_wp2_with (first | ((with_reducible refine gate_callee (f := 27) rfl ?_); refine goesL_ (some 12) rfl rfl Try.func27 (by kernel_rfl) rfl #[.string a0] rfl (by (try simp only [List.map_toArray, List.map_cons, List.map_nil]); first | done | rfl | (simp only [List.length_drop, List.length_take]; rfl)) ?_; (with_reducible refine (spec_PlainEnds.calls k a0 t107 t108 _ A3.out).mono ?_); rintro e w' ⟨rfl, ⟨nd, rfl⟩⟩; refine ⟨_, rfl, ?_⟩) | ((with_reducible refine gate_callee (f := 28) rfl ?_); refine goesL_ (some 17) rfl rfl Try.func28 (by kernel_rfl) rfl #[.string a0] rfl (by (try simp only [List.map_toArray, List.map_cons, List.map_nil]); first | done | rfl | (simp only [List.length_drop, List.length_take]; rfl)) ?_; (with_reducible refine (impl_PlainEnds.calls k a0 t109 t110 _ A4.out).mono ?_); rintro e w8 ⟨rfl, hb⟩; refine ⟨_, rfl, ?_⟩; have n0_ := Aside0.mk (below_step (by repeat (first | (with_reducible first | exact HB.out | apply below_alloc | apply pw_below_drewN | apply below_drew1) | exact HB.out)) hb); clear HB; have HB := n0_; clear n0_; (try clear hb); (try clear hb2); (try clear hk); (try clear hi)))
        go_ret
        exact ⟨by first | rfl | (simp [errW_none, errW_some] <;> rfl) | (simp [*, errW_none, errW_some] <;> rfl), by repeat (first | (with_reducible first | exact HB.out | apply below_alloc | apply pw_below_drewN | apply below_drew1) | exact HB.out)⟩
    · rw [if_neg c5] at H
      have c5b0 : (t109.toList == t107.toList) = false := beq_eq_false_iff_ne.mpr c5
      have c5b1 : (t109.toList != t107.toList) = true := bne_iff_ne.mpr c5
      obtain rfl := Option.some.inj H
      go_enter Try.func7, Try.ntmps7
      go_wp2_with (first | ((with_reducible refine gate_callee (f := 27) rfl ?_); refine goesL_ (some 12) rfl rfl Try.func27 (by kernel_rfl) rfl #[.string a0] rfl (by (try simp only [List.map_toArray, List.map_cons, List.map_nil]); first | done | rfl | (simp only [List.length_drop, List.length_take]; rfl)) ?_; (with_reducible refine (spec_PlainEnds.calls k a0 t107 t108 _ A3.out).mono ?_); rintro e w' ⟨rfl, ⟨nd, rfl⟩⟩; refine ⟨_, rfl, ?_⟩) | ((with_reducible refine gate_callee (f := 28) rfl ?_); refine goesL_ (some 17) rfl rfl Try.func28 (by kernel_rfl) rfl #[.string a0] rfl (by (try simp only [List.map_toArray, List.map_cons, List.map_nil]); first | done | rfl | (simp only [List.length_drop, List.length_take]; rfl)) ?_; (with_reducible refine (impl_PlainEnds.calls k a0 t109 t110 _ A4.out).mono ?_); rintro e w9 ⟨rfl, hb⟩; refine ⟨_, rfl, ?_⟩; have n0_ := Aside0.mk (below_step (by repeat (first | (with_reducible first | exact HB.out | apply below_alloc | apply pw_below_drewN | apply below_drew1) | exact HB.out)) hb); clear HB; have HB := n0_; clear n0_; (try clear hb); (try clear hb2); (try clear hk); (try clear hi)))
      go_ret
      exact ⟨by first | rfl | (simp [errW_none, errW_some] <;> rfl) | (simp [*, errW_none, errW_some] <;> rfl), by repeat (first | (with_reducible first | exact HB.out | apply below_alloc | apply pw_below_drewN | apply below_drew1) | exact HB.out)⟩

/-- THE ONE PURE STATEMENT of laws_FnExactPlainEnds: yours. -/
def laws_FnExactPlainEnds.Pure : Prop := ∀ (a0 : ByteArray), a0.size ≤ 140737488351232 → ∃ k, laws_FnExactPlainEnds.f k a0 = some true
theorem laws_FnExactPlainEnds.walk (P : laws_FnExactPlainEnds.Pure) (a0 : ByteArray) (w : World) (w0 : a0.size ≤ 140737488351232) :
    Calls Try.prog 7 #[.string a0] w fun e w' => e = .returned (.bool true) ∧ Below w.heap.size w w' := by
  obtain ⟨k, h⟩ := P a0 w0
  refine (laws_FnExactPlainEnds.calls k a0 true w h).mono ?_
  rintro e w' ⟨rfl, hd⟩
  exact ⟨rfl, hd⟩

end Go.Proofs.Ytfoededcgeemcaa.PFnExactPlainEnds
