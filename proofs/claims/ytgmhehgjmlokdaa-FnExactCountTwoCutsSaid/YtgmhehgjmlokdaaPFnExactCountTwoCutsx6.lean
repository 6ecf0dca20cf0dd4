-- laid by mkprint.py, a program of this claim's writer, over the kit's print program; parts of it are typed by hand
import Derived.Test.YtgmhehgjmlokdaaPFnExactCountTwoCutsx0
import Derived.Test.YtgmhehgjmlokdaaPFnExactCountTwoCutsx5
namespace Go.Proofs.Ytgmhehgjmlokdaa.PFnExactCountTwoCuts
open Go.RowKit Go.Proofs.YtgmhehgjmlokdaaW.PrintWords Go.Proofs.YtgmhehgjmlokdaaW.PrintLast Go.Proofs.YtgmhehgjmlokdaaW.PrintMore
attribute [local go_sem] max2_int min2_int max_two min_two max_three min_three max_four min_four   -- for this text's walks alone
set_option linter.unusedVariables false
set_option linter.unusedSimpArgs false

/-! ### slices_Compare_int_int: function 124 -/
def slices_Compare_int_int.l0 : Nat → List Int → List Int → List Int → Int → Int → Option (Int)
  | 0, _, _, _, _, _ => none
  | k + 1, x0, x1, x9, x10, x11 => if x11 < x10 then (if 0 ≤ x11 then (if x11 < (x9.length : Int) then (if x11 ≥ (x1.length : Int) then (some 1) else (if x11 < (x1.length : Int) then ((cmp_Compare_int.f (rd x9 x11) (rd x1 x11)).bind fun t227 => (if t227 = 0 then (slices_Compare_int_int.l0 k x0 x1 x9 x10 (wrap64 (x11 + 1))) else (some t227))) else (none))) else (none)) else (none)) else (if (x0.length : Int) < (x1.length : Int) then (some (-1)) else (some 0))
def slices_Compare_int_int.f (k : Nat) (l0 : List Int) (l1 : List Int) : Option (Int) := slices_Compare_int_int.l0 k l0 l1 l0 (l0.length : Int) 0
theorem slices_Compare_int_int.mono_l : ∀ k, (∀ y0 y1 y2 y3 y4, LeO (slices_Compare_int_int.l0 k y0 y1 y2 y3 y4) (slices_Compare_int_int.l0 (k + 1) y0 y1 y2 y3 y4))
  | 0 => fun _ _ _ _ _ r h => by simp [slices_Compare_int_int.l0] at h
  | k + 1 => by
    have ih0 := slices_Compare_int_int.mono_l k
    · intro y0 y1 y2 y3 y4
      unfold slices_Compare_int_int.l0
      repeat' first
      | (with_reducible exact ih0 _ _ _ _ _)
      | (with_reducible exact LeO.refl _)
      | (with_reducible exact LeO.none _)
      | (with_reducible refine LeO.ite ?_ ?_)
      | (with_reducible refine LeO.bind ?_ (fun _ => ?_))
      | exact ih0 _ _ _ _ _
      | exact LeO.none _
      | refine LeO.ite ?_ ?_
      | refine LeO.bind ?_ (fun _ => ?_)
theorem slices_Compare_int_int.mono : ∀ a0 a1 k, LeO (slices_Compare_int_int.f k a0 a1) (slices_Compare_int_int.f (k + 1) a0 a1) := by
  intro a0 a1 k
  have ih0 := slices_Compare_int_int.mono_l k
  unfold slices_Compare_int_int.f
  repeat' first
      | (with_reducible exact ih0 _ _ _ _ _)
      | (with_reducible exact LeO.refl _)
      | (with_reducible exact LeO.none _)
      | (with_reducible refine LeO.ite ?_ ?_)
      | (with_reducible refine LeO.bind ?_ (fun _ => ?_))
      | exact ih0 _ _ _ _ _
      | exact LeO.none _
      | refine LeO.ite ?_ ?_
      | refine LeO.bind ?_ (fun _ => ?_)
set_option maxHeartbeats 8000000 in
set_option maxRecDepth 100000 in
theorem slices_Compare_int_int.calls (k : Nat) (A0 : Option Addr) (c0 : Nat) (l0 : List Int) (A1 : Option Addr) (c1 : Nat) (l1 : List Int) (r : Int) (w : World) (hr0 : Kd.C (Kd.int .i64) w A0 l0.length l0) (hc0 : l0.length ≤ c0) (hr1 : Kd.C (Kd.int .i64) w A1 l1.length l1) (hc1 : l1.length ≤ c1) (h : slices_Compare_int_int.f k l0 l1 = some r) :
    Calls Try.prog 124 #[.slice A0 l0.length c0, .slice A1 l1.length c1] w fun e w' => e = .returned (.int .i64 r) ∧ Drawn0 w w' := by
  have HR0 := Aside0.mk hr0
  have HC0 := Aside0.mk hc0
  clear hr0 hc0
  have HR1 := Aside0.mk hr1
  have HC1 := Aside0.mk hc1
  clear hr1 hc1
  have H : (slices_Compare_int_int.l0 k l0 l1 l0 (l0.length : Int) 0) = some r := h
  clear h
  have H' := Aside0.mk H
  clear H
  go_enter Try.func124, Try.ntmps124
  go_wp2
  go_loopg [11] k (fun kq v11 w' => ∃ (x11_1 : Int), v11 = .int .i64 x11_1 ∧ Aside0 (slices_Compare_int_int.l0 kq l0 l1 l0 (l0.length : Int) x11_1 = some r) ∧ Aside0 (kq ≤ k) ∧ Drawn0 w w')
  case atStart => exact ⟨(0), (by first | rfl | (simp; done) | (simp [*]; done)), H', ⟨Nat.le_refl _⟩, by repeat (first | exact Drawn0.refl _ | apply Drawn0.step)⟩
  case round =>
    clear H'
    try clear c1
    try clear p2
    obtain ⟨x11_1, rfl, HA, HK1, ⟨m1, rfl⟩⟩ := hrel
    cases gk with
    | zero => exact absurd HA.out (by simp [slices_Compare_int_int.l0])
    | succ k1 =>
      have H := HA.out
      clear HA
      simp only [slices_Compare_int_int.l0] at H
      by_cases c3 : x11_1 < (l0.length : Int)
      · rw [if_pos c3] at H
        have c3b0 : decide (x11_1 < (l0.length : Int)) = true := decide_eq_true c3
        clear c3
        by_cases c4 : 0 ≤ x11_1
        · rw [if_pos c4] at H
          have c4b0 : decide (0 ≤ x11_1) = true := decide_eq_true c4
          clear c4
          by_cases c5 : x11_1 < (l0.length : Int)
          · rw [if_pos c5] at H
            have c5b0 : decide (x11_1 < (l0.length : Int)) = true := decide_eq_true c5
            clear c5
            by_cases c6 : x11_1 ≥ (l1.length : Int)
            · rw [if_pos c6] at H
              have c6b0 : decide ((l1.length : Int) ≤ x11_1) = true := decide_eq_true c6
              clear c6
              obtain rfl := Option.some.inj H
              have p225 : 0 ≤ (x11_1 : Int) := of_decide_eq_true (by first | (with_reducible assumption) | assumption)
              have q225 : x11_1 < (l0.length : Int) := of_decide_eq_true (by first | (with_reducible assumption) | assumption)
              obtain ⟨ad225, e225, hx225_0⟩ := Kd.at_int HR0.out x11_1 p225 q225
              cases e225
              replace p225 := eq_true p225
              replace q225 := eq_true q225
              go_wp2
              go_ret
              exact ⟨by first | rfl | (simp; done) | (simp [*]; done), by repeat (first | exact Drawn0.refl _ | apply Drawn0.step)⟩
            · rw [if_neg c6] at H
              have c6b0 : decide ((l1.length : Int) ≤ x11_1) = false := decide_eq_false c6
              clear c6
              by_cases c7 : x11_1 < (l1.length : Int)
              · rw [if_pos c7] at H
                have c7b0 : decide (x11_1 < (l1.length : Int)) = true := decide_eq_true c7
                clear c7
                replace H := Option.bind_eq_some_iff.mp H
                obtain ⟨t227, A80, H⟩ := H
                replace H : (if t227 = 0 then (slices_Compare_int_int.l0 k1 l0 l1 l0 (l0.length : Int) (wrap64 (x11_1 + 1))) else (some t227)) = some r := H
                have A8 := Aside0.mk A80
                clear A80
                by_cases c9 : t227 = 0
                · rw [if_pos c9] at H
                  have c9b0 : (t227 == 0) = true := beq_iff_eq.mpr c9
                  have c9b1 : (t227 != 0) = false := bne_eq_false_iff_eq.mpr c9
                  clear c9
                  have H' := Aside0.mk H
                  clear H
                  have p225 : 0 ≤ (x11_1 : Int) := of_decide_eq_true (by first | (with_reducible assumption) | assumption)
                  have q225 : x11_1 < (l0.length : Int) := of_decide_eq_true (by first | (with_reducible assumption) | assumption)
                  obtain ⟨ad225, e225, hx225_0⟩ := Kd.at_int HR0.out x11_1 p225 q225
                  cases e225
                  replace p225 := eq_true p225
                  replace q225 := eq_true q225
                  have p226 : 0 ≤ (x11_1 : Int) := of_decide_eq_true (by first | (with_reducible assumption) | assumption)
                  have q226 : x11_1 < (l1.length : Int) := of_decide_eq_true (by first | (with_reducible assumption) | assumption)
                  obtain ⟨ad226, e226, hx226_0⟩ := Kd.at_int HR1.out x11_1 p226 q226
                  cases e226
                  replace p226 := eq_true p226
                  replace q226 := eq_true q226
                  go_wp2_with (first | ((with_reducible refine gate_callee (f := 138) rfl ?_); refine goesL_ (some 26) rfl rfl Try.func138 (by kernel_rfl) rfl #[.int .i64 (rd l0 x11_1), .int .i64 (rd l1 x11_1)] rfl (by (try simp only [List.map_toArray, List.map_cons, List.map_nil]); first | done | rfl | (simp only [List.length_drop, List.length_take]; rfl)) ?_; (with_reducible refine (cmp_Compare_int.calls (rd l0 x11_1) (rd l1 x11_1) t227 _ A8.out).mono ?_); rintro e w' ⟨rfl, ⟨nd, rfl⟩⟩; refine ⟨_, rfl, ?_⟩))
                  go_roundg k1
                  case measure => have := HK1.out; omega
                  case rel => exact ⟨(wrap64 (x11_1 + 1)), (by first | rfl | (simp; done) | (simp [*]; done)), H', ⟨by have := HK1.out; omega⟩, by repeat (first | exact Drawn0.refl _ | apply Drawn0.step)⟩
                · rw [if_neg c9] at H
                  have c9b0 : (t227 == 0) = false := beq_eq_false_iff_ne.mpr c9
                  have c9b1 : (t227 != 0) = true := bne_iff_ne.mpr c9
                  obtain rfl := Option.some.inj H
                  have p225 : 0 ≤ (x11_1 : Int) := of_decide_eq_true (by first | (with_reducible assumption) | assumption)
                  have q225 : x11_1 < (l0.length : Int) := of_decide_eq_true (by first | (with_reducible assumption) | assumption)
                  obtain ⟨ad225, e225, hx225_0⟩ := Kd.at_int HR0.out x11_1 p225 q225
                  cases e225
                  replace p225 := eq_true p225
                  replace q225 := eq_true q225
                  have p226 : 0 ≤ (x11_1 : Int) := of_decide_eq_true (by first | (with_reducible assumption) | assumption)
                  have q226 : x11_1 < (l1.length : Int) := of_decide_eq_true (by first | (with_reducible assumption) | assumption)
                  obtain ⟨ad226, e226, hx226_0⟩ := Kd.at_int HR1.out x11_1 p226 q226
                  cases e226
                  replace p226 := eq_true p226
                  replace q226 := eq_true q226
                  go_wp2_with (first | ((with_reducible refine gate_callee (f := 138) rfl ?_); refine goesL_ (some 26) rfl rfl Try.func138 (by kernel_rfl) rfl #[.int .i64 (rd l0 x11_1), .int .i64 (rd l1 x11_1)] rfl (by (try simp only [List.map_toArray, List.map_cons, List.map_nil]); first | done | rfl | (simp only [List.length_drop, List.length_take]; rfl)) ?_; (with_reducible refine (cmp_Compare_int.calls (rd l0 x11_1) (rd l1 x11_1) t227 _ A8.out).mono ?_); rintro e w' ⟨rfl, ⟨nd, rfl⟩⟩; refine ⟨_, rfl, ?_⟩))
                  go_ret
                  exact ⟨by first | rfl | (simp; done) | (simp [*]; done), by repeat (first | exact Drawn0.refl _ | apply Drawn0.step)⟩
              · rw [if_neg c7] at H
                exact absurd H (by simp)
          · rw [if_neg c5] at H
            exact absurd H (by simp)
        · rw [if_neg c4] at H
          exact absurd H (by simp)
      · rw [if_neg c3] at H
        have c3b0 : decide (x11_1 < (l0.length : Int)) = false := decide_eq_false c3
        clear c3
        by_cases c10 : (l0.length : Int) < (l1.length : Int)
        · rw [if_pos c10] at H
          have c10b0 : decide ((l0.length : Int) < (l1.length : Int)) = true := decide_eq_true c10
          have c10b1 : decide (l0.length < l1.length) = true := decide_eq_true (Int.ofNat_lt.mp c10)
          clear c10
          obtain rfl := Option.some.inj H
          go_wp2
          go_ret
          exact ⟨by first | rfl | (simp; done) | (simp [*]; done), by repeat (first | exact Drawn0.refl _ | apply Drawn0.step)⟩
        · rw [if_neg c10] at H
          have c10b0 : decide ((l0.length : Int) < (l1.length : Int)) = false := decide_eq_false c10
          have c10b1 : decide (l0.length < l1.length) = false := decide_eq_false (fun h => c10 (Int.ofNat_lt.mpr h))
          clear c10
          obtain rfl := Option.some.inj H
          go_wp2
          go_ret
          exact ⟨by first | rfl | (simp; done) | (simp [*]; done), by repeat (first | exact Drawn0.refl _ | apply Drawn0.step)⟩

/-! ### impl_compareOrders: function 107 -/
def impl_compareOrders.f (k : Nat) (l0 : List Int) (l1 : List Int) : Option (Int) := if (l0.length : Int) = (l1.length : Int) then ((slices_Compare_int_int.f k l0 l1).bind fun t228 => (some t228)) else (some (wrap64 ((l0.length : Int) - (l1.length : Int))))
theorem impl_compareOrders.mono : ∀ a0 a1 k, LeO (impl_compareOrders.f k a0 a1) (impl_compareOrders.f (k + 1) a0 a1) := by
  intro a0 a1 k
  unfold impl_compareOrders.f
  repeat' first
      | (with_reducible exact slices_Compare_int_int.mono _ _ _)
      | (with_reducible exact LeO.refl _)
      | (with_reducible exact LeO.none _)
      | (with_reducible refine LeO.ite ?_ ?_)
      | (with_reducible refine LeO.bind ?_ (fun _ => ?_))
      | exact slices_Compare_int_int.mono _ _ _
      | exact LeO.none _
      | refine LeO.ite ?_ ?_
      | refine LeO.bind ?_ (fun _ => ?_)
set_option maxHeartbeats 8000000 in
set_option maxRecDepth 100000 in
theorem impl_compareOrders.calls (k : Nat) (A0 : Option Addr) (c0 : Nat) (l0 : List Int) (A1 : Option Addr) (c1 : Nat) (l1 : List Int) (r : Int) (w : World) (hr0 : Kd.C (Kd.int .i64) w A0 l0.length l0) (hc0 : l0.length ≤ c0) (hr1 : Kd.C (Kd.int .i64) w A1 l1.length l1) (hc1 : l1.length ≤ c1) (h : impl_compareOrders.f k l0 l1 = some r) :
    Calls Try.prog 107 #[.slice A0 l0.length c0, .slice A1 l1.length c1] w fun e w' => e = .returned (.int .i64 r) ∧ Drawn0 w w' := by
  have HR0 := Aside0.mk hr0
  have HC0 := Aside0.mk hc0
  clear hr0 hc0
  have HR1 := Aside0.mk hr1
  have HC1 := Aside0.mk hc1
  clear hr1 hc1
  have H : (if (l0.length : Int) = (l1.length : Int) then ((slices_Compare_int_int.f k l0 l1).bind fun t228 => (some t228)) else (some (wrap64 ((l0.length : Int) - (l1.length : Int))))) = some r := h
  clear h
  by_cases c3 : (l0.length : Int) = (l1.length : Int)
  · rw [if_pos c3] at H
    have c3b0 : ((l0.length : Int) == (l1.length : Int)) = true := beq_iff_eq.mpr c3
    have c3b1 : ((l0.length : Int) != (l1.length : Int)) = false := bne_eq_false_iff_eq.mpr c3
    have c3b2 : (l0.length == l1.length) = true := by first | simpa using c3 | (simp at c3 ⊢; omega)
    clear c3
    replace H := Option.bind_eq_some_iff.mp H
    obtain ⟨t228, A40, H⟩ := H
    replace H : (some t228) = some r := H
    have A4 := Aside0.mk A40
    clear A40
    obtain rfl := Option.some.inj H
    go_enter Try.func107, Try.ntmps107
    go_wp2_with (first | ((with_reducible refine gate_callee (f := 124) rfl ?_); refine goesL_ (some 17) rfl rfl Try.func124 (by kernel_rfl) rfl #[.slice A0 l0.length c0, .slice A1 l1.length c1] rfl (by (try simp only [List.map_toArray, List.map_cons, List.map_nil]); first | done | rfl | (simp only [List.length_drop, List.length_take]; rfl)) ?_; (with_reducible refine (slices_Compare_int_int.calls k _ _ l0 _ _ l1 t228 _ ?side1 ?side2 ?side3 ?side4 A4.out).mono ?_); (case side1 => repeat (first | exact HR0.out | (with_reducible refine Kd.C_alloc ?_ _) | (with_reducible refine Kd.C_drewN ?_ _) | (with_reducible refine Kd.C_drew ?_))); (case side2 => exact HC0.out); (case side3 => repeat (first | exact HR1.out | (with_reducible refine Kd.C_alloc ?_ _) | (with_reducible refine Kd.C_drewN ?_ _) | (with_reducible refine Kd.C_drew ?_))); (case side4 => exact HC1.out); rintro e w' ⟨rfl, ⟨nd, rfl⟩⟩; refine ⟨_, rfl, ?_⟩))
    go_ret
    exact ⟨by first | rfl | (simp; done) | (simp [*]; done), by repeat (first | exact Drawn0.refl _ | apply Drawn0.step)⟩
  · rw [if_neg c3] at H
    have c3b0 : ((l0.length : Int) == (l1.length : Int)) = false := beq_eq_false_iff_ne.mpr c3
    have c3b1 : ((l0.length : Int) != (l1.length : Int)) = true := bne_iff_ne.mpr c3
    have c3b2 : (l0.length == l1.length) = false := by first | simpa using c3 | (simp at c3 ⊢; omega)
    obtain rfl := Option.some.inj H
    go_enter Try.func107, Try.ntmps107
    go_wp2
    go_ret
    exact ⟨by first | rfl | (simp; done) | (simp [*]; done), by repeat (first | exact Drawn0.refl _ | apply Drawn0.step)⟩

/-! ### slices_SortFunc_int_int: function 106 -/
def cmpL : List Int → List Int → Int
  | a :: s, b :: t => if a = b then cmpL s t else if a < b then -1 else 1
  | _, _ => 0
/-- how the program compares rows -/
def cmpO (x y : List Int) : Int := if x.length = y.length then cmpL x y else (x.length : Int) - (y.length : Int)
theorem cmpL_self : ∀ x : List Int, cmpL x x = 0
  | [] => rfl
  | a :: s => by rw [cmpL, if_pos rfl, cmpL_self s]
theorem cmpL_eq : ∀ x y : List Int, x.length = y.length → ¬ cmpL x y < 0 → ¬ cmpL y x < 0 → x = y
  | [], [], _, _, _ => rfl
  | [], _ :: _, h, _, _ => by simp at h
  | _ :: _, [], h, _, _ => by simp at h
  | a :: s, b :: t, h, h1, h2 => by
    rw [cmpL] at h1 h2
    by_cases e : a = b
    · subst e
      rw [if_pos rfl] at h1 h2
      rw [cmpL_eq s t (by simpa using h) h1 h2]
    · rw [if_neg e] at h1
      rw [if_neg (Ne.symm e)] at h2
      exfalso
      by_cases c : a < b
      · rw [if_pos c] at h1; omega
      · rw [if_pos (show b < a by omega)] at h2; omega
theorem cmpL_trans : ∀ x y z : List Int, x.length = y.length → y.length = z.length → cmpL x y < 0 → cmpL y z < 0 → cmpL x z < 0
  | [], _, _, _, _, h, _ => by simp [cmpL] at h
  | _ :: _, [], _, h, _, _, _ => by simp at h
  | _ :: _, _ :: _, [], _, h, _, _ => by simp at h
  | a :: s, b :: t, c :: u, h, h', h1, h2 => by
    rw [cmpL] at h1 h2 ⊢
    by_cases e1 : a = b
    · subst e1
      rw [if_pos rfl] at h1
      by_cases e2 : a = c
      · subst e2
        rw [if_pos rfl] at h2 ⊢
        exact cmpL_trans s t u (by simpa using h) (by simpa using h') h1 h2
      · rw [if_neg e2] at h2 ⊢; exact h2
    · rw [if_neg e1] at h1
      by_cases l1 : a < b
      · by_cases e2 : b = c
        · subst e2; rw [if_neg e1, if_pos l1]; omega
        · rw [if_neg e2] at h2
          by_cases l2 : b < c
          · rw [if_neg (by omega), if_pos (by omega)]; omega
          · rw [if_neg l2] at h2; omega
      · rw [if_neg l1] at h1; omega
theorem cmpO_eq (x y : List Int) (h1 : ¬ cmpO x y < 0) (h2 : ¬ cmpO y x < 0) : x = y := by
  unfold cmpO at h1 h2
  by_cases h : x.length = y.length
  · rw [if_pos h] at h1
    rw [if_pos h.symm] at h2
    exact cmpL_eq x y h h1 h2
  · rw [if_neg h] at h1
    rw [if_neg (Ne.symm h)] at h2
    omega
theorem cmpO_self (x : List Int) : cmpO x x = 0 := by rw [cmpO, if_pos rfl, cmpL_self]
theorem cmpO_trans (x y z : List Int) (h1 : cmpO x y < 0) (h2 : cmpO y z < 0) : cmpO x z < 0 := by
  unfold cmpO at h1 h2 ⊢
  by_cases e1 : x.length = y.length
  · rw [if_pos e1] at h1
    by_cases e2 : y.length = z.length
    · rw [if_pos e2] at h2
      rw [if_pos (e1.trans e2)]
      exact cmpL_trans x y z e1 e2 h1 h2
    · rw [if_neg e2] at h2
      rw [if_neg (by omega)]
      omega
  · rw [if_neg e1] at h1
    by_cases e2 : y.length = z.length
    · rw [if_neg (by omega)]; omega
    · rw [if_neg e2] at h2
      rw [if_neg (by omega)]
      omega
theorem cmpO_swo {α : Type} (row : α → List Int) : Go.Sort.SWO (Go.Proofs.ltOf fun x y => cmpO (row x) (row y)) where
  irrefl x := by simp [Go.Proofs.ltOf, cmpO_self]
  trans x y z h1 h2 := by
    simp only [Go.Proofs.ltOf, decide_eq_true_eq] at h1 h2 ⊢
    exact cmpO_trans _ _ _ h1 h2
  ntrans x y z h1 h2 := by
    simp only [Go.Proofs.ltOf, decide_eq_false_iff_not] at h1 h2 ⊢
    intro h
    by_cases c : cmpO (row y) (row x) < 0
    · exact h2 (cmpO_trans _ _ _ c h)
    · rw [cmpO_eq _ _ h1 c] at h; exact h2 h
def leO (x y : List Int) : Bool := !decide (cmpO y x < 0)
def sortL (l : List (List Int)) : List (List Int) := l.mergeSort leO
theorem leO_trans (a b c : List Int) (h1 : leO a b = true) (h2 : leO b c = true) : leO a c = true := by
  simp only [leO, Bool.not_eq_true', decide_eq_false_iff_not] at h1 h2 ⊢
  intro h
  by_cases q : cmpO a b < 0
  · exact h2 (cmpO_trans _ _ _ h q)
  · rw [cmpO_eq _ _ q h1] at h; exact h2 h
theorem leO_total (a b : List Int) : (leO a b || leO b a) = true := by
  simp only [leO, Bool.or_eq_true, Bool.not_eq_true', decide_eq_false_iff_not]
  by_cases h : cmpO b a < 0
  · right; intro h2; have := cmpO_trans _ _ _ h h2; rw [cmpO_self] at this; omega
  · exact .inl h
theorem leO_anti (a b : List Int) (h1 : leO a b = true) (h2 : leO b a = true) : a = b := by
  simp only [leO, Bool.not_eq_true', decide_eq_false_iff_not] at h1 h2
  exact cmpO_eq a b h2 h1
theorem sortL_unique (l m : List (List Int)) (h : m.Perm l) (hs : m.Pairwise fun x y => leO x y = true) : m = sortL l :=
  List.Perm.eq_of_pairwise (le := fun a b => leO a b = true) (fun a b _ _ h1 h2 => leO_anti a b h1 h2) hs (List.pairwise_mergeSort leO_trans leO_total l) (h.trans (List.mergeSort_perm l leO).symm)
theorem sortL_perm (l : List (List Int)) : (sortL l).Perm l := List.mergeSort_perm l leO
def slices_SortFunc.ren : Go.Shelf.Ren := { f := fun x => if x = 6 then 106 else if x = 14 then 122 else if x = 15 then 123 else if x = 20 then 128 else if x = 21 then 129 else if x = 22 then 130 else if x = 23 then 131 else if x = 24 then 132 else if x = 25 then 133 else if x = 26 then 134 else if x = 27 then 135 else if x = 28 then 136 else if x = 29 then 137 else if x = 46 then 140 else if x = 47 then 141 else if x = 48 then 142 else if x = 49 then 143 else if x = 50 then 144 else if x = 57 then 145 else x, t := fun x => if x = 0 then 0 else if x = 3 then 3 else if x = 4 then 4 else if x = 5 then 5 else if x = 9 then 9 else if x = 22 then 41 else if x = 24 then 22 else if x = 25 then 87 else if x = 39 then 71 else if x = 45 then 107 else if x = 46 then 108 else if x = 50 then 32 else if x = 53 then 93 else if x = 55 then 96 else if x = 66 then 115 else if x = 70 then 119 else if x = 76 then 121 else if x = 77 then 122 else x, g := fun x => x }
theorem slices_SortFunc.lays : Go.Proofs.SlLaysF.n6 Try.prog slices_SortFunc.ren := { mixed := by kernel_rfl, f6 := ⟨Try.f106.name, by kernel_rfl, Try.func106.trans (congrArg some (by kernel_rfl))⟩, f14 := ⟨Try.f122.name, by kernel_rfl, Try.func122.trans (congrArg some (by kernel_rfl))⟩, f15 := Try.func123.trans (congrArg some (by kernel_rfl)), f20 := ⟨Try.f128.name, by kernel_rfl, Try.func128.trans (congrArg some (by kernel_rfl))⟩, f21 := ⟨Try.f129.name, by kernel_rfl, Try.func129.trans (congrArg some (by kernel_rfl))⟩, f22 := ⟨Try.f130.name, by kernel_rfl, Try.func130.trans (congrArg some (by kernel_rfl))⟩, f23 := ⟨Try.f131.name, by kernel_rfl, Try.func131.trans (congrArg some (by kernel_rfl))⟩, f24 := ⟨Try.f132.name, by kernel_rfl, Try.func132.trans (congrArg some (by kernel_rfl))⟩, f25 := ⟨Try.f133.name, by kernel_rfl, Try.func133.trans (congrArg some (by kernel_rfl))⟩, f26 := ⟨Try.f134.name, by kernel_rfl, Try.func134.trans (congrArg some (by kernel_rfl))⟩, f27 := ⟨Try.f135.name, by kernel_rfl, Try.func135.trans (congrArg some (by kernel_rfl))⟩, f28 := Try.func136.trans (congrArg some (by kernel_rfl)), f29 := Try.func137.trans (congrArg some (by kernel_rfl)), f46 := ⟨Try.f140.name, by kernel_rfl, Try.func140.trans (congrArg some (by kernel_rfl))⟩, f47 := Try.func141.trans (congrArg some (by kernel_rfl)), f48 := Try.func142.trans (congrArg some (by kernel_rfl)), f49 := ⟨Try.f143.name, by kernel_rfl, Try.func143.trans (congrArg some (by kernel_rfl))⟩, f50 := ⟨Try.f144.name, by kernel_rfl, Try.func144.trans (congrArg some (by kernel_rfl))⟩, f57 := ⟨Try.f145.name, by kernel_rfl, Try.func145.trans (congrArg some (by kernel_rfl))⟩, t0 := Try.underlying0, a0 := Try.isAgg0, z0 := Try.sizeOf0, v0 := Try.zeroValue0, t3 := Try.underlying3, a3 := Try.isAgg3, z3 := Try.sizeOf3, v3 := Try.zeroValue3, t4 := Try.underlying4, a4 := Try.isAgg4, z4 := Try.sizeOf4, v4 := Try.zeroValue4, t5 := Try.underlying5, a5 := Try.isAgg5, z5 := Try.sizeOf5, v5 := Try.zeroValue5, t9 := Try.underlying9, a9 := Try.isAgg9, z9 := Try.sizeOf9, v9 := Try.zeroValue9, t22 := Try.underlying41, a22 := Try.isAgg41, z22 := Try.sizeOf41, v22 := Try.zeroValue41, a24 := Try.isAgg22, z24 := Try.sizeOf22, t25 := Try.underlying87, a25 := Try.isAgg87, z25 := Try.sizeOf87, v25 := Try.zeroValue87, t39 := Try.underlying71, a39 := Try.isAgg71, z39 := Try.sizeOf71, v39 := Try.zeroValue71, t45 := Try.underlying107, a45 := Try.isAgg107, z45 := Try.sizeOf107, v45 := Try.zeroValue107, t46 := Try.underlying108, a46 := Try.isAgg108, z46 := Try.sizeOf108, v46 := Try.zeroValue108, t50 := Try.underlying32, a50 := Try.isAgg32, z50 := Try.sizeOf32, v50 := Try.zeroValue32, t53 := Try.underlying93, a53 := Try.isAgg93, z53 := Try.sizeOf93, v53 := Try.zeroValue93, t55 := Try.underlying96, a55 := Try.isAgg96, z55 := Try.sizeOf96, v55 := Try.zeroValue96, t66 := Try.underlying115, a66 := Try.isAgg115, z66 := Try.sizeOf115, v66 := Try.zeroValue115, t70 := Try.underlying119, a70 := Try.isAgg119, z70 := Try.sizeOf119, v70 := Try.zeroValue119, t76 := Try.underlying121, a76 := Try.isAgg121, z76 := Try.sizeOf121, v76 := Try.zeroValue121, t77 := Try.underlying122, a77 := Try.isAgg122, z77 := Try.sizeOf122, v77 := Try.zeroValue122 }
theorem extract_all {β : Type} {n : Nat} (a : Array β) (h : a.size = n) : a.extract 0 n = a := by subst h; exact Array.extract_size
theorem finRange_val (n : Nat) : (List.finRange n).map (fun i => i.val) = List.range n := by
  apply List.ext_getElem
  · simp
  · intro i h1 h2
    simp
theorem sortWorld_kept {α : Type} [Inhabited α] (enc : α → Value) (w : World) (g n : Nat) (d : Array α) (os : Array Obj) : Kept w (Go.Proofs.sortWorld enc w g 0 n d os) (fun k => k = g) := by
  refine ⟨?_, fun k hk hn => ?_⟩
  · simp [Go.Proofs.sortWorld, Go.Sort.grow, Go.Sort.putRow, Go.Sort.mapBlock, Go.Sort.ahead]
  · unfold Go.Proofs.sortWorld
    rw [Go.Sort.heap_grow_old _ _ (by simpa [Go.Sort.putRow, Go.Sort.mapBlock, Go.Sort.ahead] using hk)]
    simp only [Go.Sort.putRow, Go.Sort.mapBlock, Go.Sort.ahead]
    rw [Array.getElem?_modify, if_neg (Ne.symm hn)]
theorem sortWorld_row {α : Type} [Inhabited α] (enc : α → Value) (w : World) (g n : Nat) (d : Array α) (os : Array Obj) (cur : Array Value) (e : TypeId) (hh : w.heap[g]? = some (.cells cur e (0, 0))) (hs : d.size ≤ cur.size) :
    ∃ cur' : Array Value, (Go.Proofs.sortWorld enc w g 0 n d os).heap[g]? = some (.cells cur' e (0, 0)) ∧ cur'.size = cur.size ∧ ∀ t : Nat, t < d.size → cur'[t]? = some (enc d[t]!) := by
  have hg : g < w.heap.size := (Array.getElem?_eq_some_iff.1 hh).1
  refine ⟨Go.Sort.putCells enc 0 d cur, ?_, by simp [Go.Sort.putCells], fun t ht => ?_⟩
  · unfold Go.Proofs.sortWorld
    rw [Go.Sort.heap_grow_old _ _ (by simpa [Go.Sort.putRow, Go.Sort.mapBlock, Go.Sort.ahead] using hg)]
    simp only [Go.Sort.putRow, Go.Sort.mapBlock, Go.Sort.ahead]
    rw [Array.getElem?_modify, if_pos rfl, hh]
    rfl
  · simp only [Go.Sort.putCells, Array.getElem?_mapIdx]
    rw [Array.getElem?_eq_getElem (by omega), Option.map_some, if_pos ⟨by omega, by omega⟩, Nat.sub_zero]
set_option maxHeartbeats 8000000 in
set_option maxRecDepth 100000 in
theorem slices_SortFunc_int_int.calls (k : Nat) (P0_ : Nat → Prop) (u9000_ : Value) (l0 : List (List Int)) (w0 w : World) (hB : Below w0.heap.size w0 w) (ho0 : Kd.S (Kd.slice 3 (Kd.int .i64)) 22 w w0.heap.size P0_ u9000_ l0) (hp : 0 < l0.length) (hsm : l0.length ≤ 1000000) (hc : ∀ x ∈ l0, ∀ y ∈ l0, impl_compareOrders.f k x y = some (cmpO x y)) :
    Calls Try.prog 106 #[u9000_, .func (.func 107) #[] #[]] w fun e w' => e = .returned (.tuple #[]) ∧ Kd.S (Kd.slice 3 (Kd.int .i64)) 22 w' w0.heap.size P0_ u9000_ (sortL l0) ∧ Below w0.heap.size w0 w' ∧ Kept w w' (fun k_ => P0_ k_) := by
  obtain ⟨G0, c0, hv, _, _, _⟩ := Kd.S_form ho0 hp
  subst hv
  obtain ⟨_, hokG, hbG, hnc, hcm, cur, f, hcur, hcs, hrows⟩ := Kd.S_open ho0
  have hm1 : 9223372036854775807 = maxLen := by decide
  have hlen : l0.length ≤ maxLen := by omega
  haveI hin : Inhabited (Fin l0.length) := ⟨⟨0, hp⟩⟩
  obtain ⟨enc, henc⟩ : ∃ enc : Fin l0.length → Value, enc = fun i => (cur[i.val]?).getD undef := ⟨_, rfl⟩
  have hE : ∀ i : Fin l0.length, cur[i.val]? = some (enc i) ∧ ∃ A c, enc i = .slice A (l0[i.val]).length c ∧ Kd.R (Kd.int .i64) 3 w w0.heap.size (fun k_ => (P0_ k_ ∧ k_ ≠ G0) ∧ f k_ = i.val) (.slice A (l0[i.val]).length c) (l0[i.val]) := by
    intro i
    obtain ⟨v, h1, h2⟩ := hrows i.val l0[i.val] (List.getElem?_eq_getElem i.isLt)
    obtain ⟨A, c, rfl⟩ := Kd.R_slice h2
    have h3 : enc i = .slice A (l0[i.val]).length c := by rw [henc]; simp only [h1, Option.getD_some]
    exact ⟨by rw [h3]; exact h1, A, c, h3, h2⟩
  obtain ⟨d, hd⟩ : ∃ d : Array (Fin l0.length), d = Array.ofFn (fun i => i) := ⟨_, rfl⟩
  have hds : d.size = l0.length := by rw [hd]; simp
  have hdj : ∀ (j : Nat) (hj : j < l0.length), d[j]! = (⟨j, hj⟩ : Fin l0.length) := fun j hj => by
    rw [getElem!_pos d j (by omega)]
    subst hd
    simp
  have h1 : Go.Proofs.OneCell enc := fun i => by obtain ⟨_, A, c, h, _⟩ := hE i; rw [h]; rfl
  have hcmp : Go.Proofs.CmpReads Try.prog 107 #[] enc (fun i j => cmpO (l0[i.val]) (l0[j.val])) G0 0 d.size w := by
    intro m os dk hdk x y
    obtain ⟨_, Ax, cx, ex, Rx⟩ := hE x
    obtain ⟨_, Ay, cy, ey, Ry⟩ := hE y
    have hk := sortWorld_kept enc w G0 m dk os
    have Rx2 := Kd.R_reads' (Kd.R_kept Rx hk (fun k hk => hk.1.2))
    have Ry2 := Kd.R_reads' (Kd.R_kept Ry hk (fun k hk => hk.1.2))
    rw [ex, ey]
    refine (impl_compareOrders.calls k Ax cx (l0[x.val]) Ay cy (l0[y.val]) _ _ Rx2.2.2 Rx2.2.1 Ry2.2.2 Ry2.2.1 (hc _ (List.getElem_mem x.isLt) _ (List.getElem_mem y.isLt))).mono ?_
    rintro e w' ⟨rfl, ⟨nd, rfl⟩⟩
    exact ⟨rfl, nd, rfl⟩
  have hH : Go.Sort.Holds enc w G0 0 d := fun j hj => by
    have hj' : j < l0.length := by omega
    rw [hdj j hj', Nat.zero_add]
    exact ⟨(blk_cell hcur _).trans (hE ⟨j, hj'⟩).1, blk_frozen hcur _⟩
  have key := Go.Proofs.Any.slices_SortFunc slices_SortFunc.lays enc h1 (fun i j => cmpO (l0[i.val]) (l0[j.val])) (cmpO_swo fun i : Fin l0.length => l0[i.val]) 107 #[] G0 0 c0 d w (enters_of Try.func107 (by kernel_rfl) rfl) hcmp.lays hH (blk_lt hcur) (by omega)
  rw [hds] at key
  refine key.mono ?_
  rintro e w' ⟨rfl, d', n, os, hperm, hsort, rfl⟩
  obtain ⟨hp1, _, hp3⟩ := hperm
  rw [hds] at hp1
  have hk := sortWorld_kept enc w G0 n d' os
  obtain ⟨cur', hc', hs', ht'⟩ := sortWorld_row enc w G0 n d' os cur _ hcur (by omega)
  have hx1 : d'.extract 0 l0.length = d' := extract_all d' hp1
  have hx2 : d.extract 0 l0.length = d := extract_all d hds
  rw [hx1, hx2] at hp3
  have hdl : d.toList = List.finRange l0.length := by rw [hd, Array.toList_ofFn]; rfl
  rw [hdl] at hp3
  have hS := Kd.S_pick (z := []) (K := d'.toList.map fun i => i.val) ?nd hokG hbG hcm hrows hk hc' (hs'.trans hcs) (by rw [List.length_map, Array.length_toList]; omega) ?hK
  case nd =>
    refine (hp3.map _).nodup_iff.2 ?_
    rw [finRange_val]
    exact List.nodup_range
  case hK =>
    intro m t hmt
    rw [List.getElem?_map] at hmt
    obtain ⟨i, hi, rfl⟩ := Option.map_eq_some_iff.1 hmt
    rw [Array.getElem?_toList] at hi
    obtain ⟨hm, hi2⟩ := Array.getElem?_eq_some_iff.1 hi
    refine ⟨i.isLt, ?_⟩
    rw [ht' m hm, getElem!_pos d' m hm, hi2, (hE i).1]
  have hL : (d'.toList.map fun i => i.val).map (fun t => l0.getD t []) = sortL l0 := by
    rw [List.map_map]
    refine sortL_unique _ _ ?_ ?_
    · refine (hp3.map _).trans ?_
      have : (List.finRange l0.length).map ((fun t => l0.getD t []) ∘ fun i => i.val) = l0 := by
        apply List.ext_getElem
        · simp
        · intro i h1 h2
          simp [List.getD_eq_getElem?_getD, h2]
      rw [this]
    · rw [List.pairwise_map, List.pairwise_iff_getElem]
      intro i j hi hj hij
      have := hsort i j (Nat.zero_le _) hij (by simpa [hp1] using hj)
      rw [getElem!_pos d' i (by simpa using hi), getElem!_pos d' j (by simpa using hj)] at this
      simp only [Go.Proofs.ltOf, decide_eq_false_iff_not] at this
      simp only [leO, Bool.not_eq_true', decide_eq_false_iff_not, Function.comp, Array.getElem_toList, List.getD_eq_getElem?_getD]
      rw [List.getElem?_eq_getElem (Fin.isLt _), List.getElem?_eq_getElem (Fin.isLt _)]
      exact this
  rw [hL] at hS
  have hlk : (d'.toList.map fun i => i.val).length = l0.length := by rw [List.length_map, Array.length_toList, hp1]
  rw [hlk] at hS
  refine ⟨rfl, hS, ⟨hB.os, hB.tape, hB.output, Nat.le_trans hB.size hk.1, fun q hq => ?_⟩, hk.mono (fun q hq => by subst hq; exact hokG)⟩
  exact (hk.2 q (Nat.lt_of_lt_of_le hq hB.size) (by omega)).trans (hB.block q hq)

end Go.Proofs.Ytgmhehgjmlokdaa.PFnExactCountTwoCuts
