/- The program's FallSweptFrom returns what the reference's returns, for every list, in memory of its own. -/
import Derived.Test.YtgmhehgjmlokdaaPFnExactFallSweptFromx9
import Derived.Test.YtgmhehgjmlokdaaK
set_option linter.unusedVariables false
set_option linter.unusedSimpArgs false
namespace Go.Proofs.Ytgmhehgjmlokdaa.Pure
open Go.RowKit Go.Proofs.Ytgmhehgjmlokdaa.PFnExactFallSweptFrom Go.Proofs.YtgmhehgjmlokdaaW.PrintWords Go.Proofs.YtgmhehgjmlokdaaW.PrintLast Go.Proofs.YtgmhehgjmlokdaaW.PrintMore

theorem toIntS_l (x0 : List Int) (hn : x0.length ≤ 17592186044416) : ∀ (d i : Nat) (x3 : List Int), x3.length = x0.length → x3.take i = x0.take i → x0.length = i + d → Ev (fun k => laws_toIntS.l0 k x0 x3 i) x0
  | 0, i, x3, h1, h2, h3 => by
    refine Ev.step (fun k => by rw [laws_toIntS.l0]) ?_
    refine Ev.neg (by omega) (Ev.val ?_)
    rw [List.take_of_length_le (by omega), List.take_of_length_le (by omega)] at h2
    exact h2
  | d + 1, i, x3, h1, h2, h3 => by
    refine Ev.step (fun k => by rw [laws_toIntS.l0]) ?_
    refine Ev.pos (by omega) (Ev.pos (by omega) (Ev.pos (by omega) ?_))
    have e : wrap64 ((i : Int) + 1) = ((i + 1 : Nat) : Int) := by rw [w64 (by omega)]; omega
    simp only [e, Int.toNat_natCast]
    exact toIntS_l x0 hn d (i + 1) _ (by simpa using h1) (by rw [take_set_succ _ _ _ (by omega), h2, take_step _ _ (by omega), rd_nat]) (by omega)
theorem toIntS_ev (l : List Int) (hn : l.length ≤ 17592186044416) : Ev (fun k => laws_toIntS.f k l) l := by
  unfold laws_toIntS.f
  refine Ev.pos (by omega) (Ev.pos (by omega) ?_)
  exact toIntS_l l hn l.length 0 _ (by simp) (by simp) (by omega)

theorem eqIntS_l (a b : List Int) (hn : a.length ≤ 17592186044416) (hl : a.length = b.length) : ∀ (d i : Nat), a.length = i + d → Ev (fun k => laws_eqIntS.l0 k a b i) (decide (a.drop i = b.drop i))
  | 0, i, h => by
    refine Ev.step (fun k => by rw [laws_eqIntS.l0]) ?_
    refine Ev.neg (by omega) (Ev.val ?_)
    rw [List.drop_of_length_le (by omega), List.drop_of_length_le (by omega)]
    simp
  | d + 1, i, h => by
    refine Ev.step (fun k => by rw [laws_eqIntS.l0]) ?_
    refine Ev.pos (by omega) (Ev.pos (by omega) (Ev.pos (by omega) ?_))
    have e : wrap64 ((i : Int) + 1) = ((i + 1 : Nat) : Int) := by rw [w64 (by omega)]; omega
    simp only [e]
    rw [drop_step a i (by omega), drop_step b i (by omega)]
    refine Ev.ite (fun hc => ?_) (fun hc => Ev.val ?_)
    · have hc' : nth a i = nth b i := hc
      refine (eqIntS_l a b hn hl d (i + 1) (by omega)).to ?_
      rw [hc']
      simp
    · have hc' : ¬ nth a i = nth b i := hc
      simp [hc']
theorem eqIntS_ev (a b : List Int) (hn : a.length ≤ 17592186044416) : Ev (fun k => laws_eqIntS.f k a b) (decide (a = b)) := by
  unfold laws_eqIntS.f
  refine Ev.ite (fun hc => ?_) (fun hc => Ev.val ?_)
  · exact (eqIntS_l a b hn (by omega) a.length 0 (by omega)).to (by simp)
  · have : ¬ a = b := fun h => hc (by rw [h])
    simp [this]

theorem markIntS_l : ∀ (d i : Nat) (x0 : List Int) (x1 : Int), x0.length = i + d → x0.length ≤ 17592186044416 → -1000000000000000000 ≤ x1 → x1 + d ≤ 1000000000000000000 → Ev (fun k => laws_markIntS.l0 k x0 x1 i) (x1 + d, x0.take i ++ marked x1 d)
  | 0, i, x0, x1, h, hn, h1, h2 => by
    refine Ev.step (fun k => by rw [laws_markIntS.l0]) ?_
    refine Ev.neg (by omega) (Ev.val ?_)
    rw [List.take_of_length_le (by omega)]
    simp [marked]
  | d + 1, i, x0, x1, h, hn, h1, h2 => by
    refine Ev.step (fun k => by rw [laws_markIntS.l0]) ?_
    refine Ev.pos (by omega) (Ev.pos (by omega) ?_)
    have e : wrap64 ((i : Int) + 1) = ((i + 1 : Nat) : Int) := by rw [w64 (by omega)]; omega
    have e1 : wrap64 (x1 + 1) = x1 + 1 := w64 (by omega)
    simp only [e, e1, Int.toNat_natCast]
    refine (markIntS_l d (i + 1) (x0.set i x1) (x1 + 1) (by simpa using (by omega)) (by simpa using hn) (by omega) (by omega)).to ?_
    rw [take_set_succ _ _ _ (by omega)]
    simp [marked]
    omega
theorem markIntS_ev (l : List Int) (a : Int) (hn : l.length ≤ 17592186044416) (h1 : -1000000000000000 ≤ a) (h2 : a ≤ 1000000000000000) : Ev (fun k => laws_markIntS.f k l a) (a + l.length, marked a l.length) := by
  unfold laws_markIntS.f
  exact (markIntS_l l.length 0 l a (by omega) hn (by omega) (by omega)).to (by simp)

theorem heldIntS_l (n : Nat) (a : Int) (hn : n ≤ 17592186044416) (h1 : -1000000000000000 ≤ a) (h2 : a ≤ 1000000000000000) : ∀ (d i : Nat), n = i + d → Ev (fun k => laws_heldIntS.l0 k (marked a n) (a + i) i) (a + n)
  | 0, i, h => by
    refine Ev.step (fun k => by rw [laws_heldIntS.l0]) ?_
    refine Ev.neg (by rw [marked_length]; omega) (Ev.val ?_)
    omega
  | d + 1, i, h => by
    refine Ev.step (fun k => by rw [laws_heldIntS.l0]) ?_
    refine Ev.pos (by rw [marked_length]; omega) (Ev.pos (by omega) (Ev.pos (by rw [rd_nat, marked_nth n a i (by omega)]) ?_))
    have e : wrap64 ((i : Int) + 1) = ((i + 1 : Nat) : Int) := by rw [w64 (by omega)]; omega
    have e1 : wrap64 (a + i + 1) = a + ((i + 1 : Nat) : Int) := by rw [w64 (by omega)]; omega
    simp only [e, e1]
    exact heldIntS_l n a hn h1 h2 d (i + 1) (by omega)
theorem heldIntS_ev (n : Nat) (a : Int) (hn : n ≤ 17592186044416) (h1 : -1000000000000000 ≤ a) (h2 : a ≤ 1000000000000000) : Ev (fun k => laws_heldIntS.f k (marked a n) a) (a + n) := by
  unfold laws_heldIntS.f
  have := heldIntS_l n a hn h1 h2 n 0 (by omega)
  rw [show a + ((0 : Nat) : Int) = a by omega] at this
  exact this

theorem l1In_is (a b c : Int) : spec_l1In.f a b c = some (decide (b ≤ a ∧ a ≤ c)) := by
  unfold spec_l1In.f
  by_cases h : a ≥ b
  · rw [if_pos h]; simp [h]
  · rw [if_neg h]; simp; omega

theorem l1Has_l (l : List Int) (x : Int) (hn : l.length ≤ 17592186044416) : ∀ (d i : Nat), l.length = i + d → Ev (fun k => spec_l1Has.l0 k l x i) ((l.drop i).contains x)
  | 0, i, h => by
    refine Ev.step (fun k => by rw [spec_l1Has.l0]) ?_
    refine Ev.neg (by omega) (Ev.val ?_)
    rw [List.drop_of_length_le (by omega)]
    simp
  | d + 1, i, h => by
    refine Ev.step (fun k => by rw [spec_l1Has.l0]) ?_
    have e : wrap64 ((i : Int) + 1) = ((i + 1 : Nat) : Int) := by rw [w64 (by omega)]; omega
    simp only [e]
    rw [drop_step l i (by omega)]
    refine Ev.pos (by omega) (Ev.pos (by omega) (Ev.ite (fun hc => Ev.val ?_) (fun hc => ?_)))
    · have hc' : nth l i = x := hc
      rw [hc']; simp
    · have hc' : ¬ nth l i = x := hc
      refine (l1Has_l l x hn d (i + 1) (by omega)).to ?_
      have : ¬ x = nth l i := fun h => hc' h.symm
      rw [List.contains_cons]
      simp [this]
theorem l1Has_ev (l : List Int) (x : Int) (hn : l.length ≤ 17592186044416) : Ev (fun k => spec_l1Has.f k l x) (l.contains x) := by
  unfold spec_l1Has.f
  exact (l1Has_l l x hn l.length 0 (by omega)).to (by simp)

theorem l2Order_l (l : List Int) (hn : l.length ≤ 17592186044416) : ∀ (d i : Nat), l.length = i + d → Ev (fun k => spec_l2Order.l0 k l i) (allFrom (ordAt l) d i)
  | 0, i, h => by
    refine Ev.step (fun k => by rw [spec_l2Order.l0]) ?_
    exact Ev.neg (by omega) (Ev.val rfl)
  | d + 1, i, h => by
    refine Ev.step (fun k => by rw [spec_l2Order.l0]) ?_
    have e : wrap64 ((i : Int) + 1) = ((i + 1 : Nat) : Int) := by rw [w64 (by omega)]; omega
    simp only [e, l1In_is, Option.bind_some, rd_nat, Int.toNat_natCast, decide_eq_true_eq]
    refine Ev.pos (by omega) (Ev.pos (by omega) (Ev.ite (fun hc => Ev.pos (by omega) ?_) (fun hc => Ev.val ?_)))
    · refine Ev.bind (l1Has_ev _ _ (by simp; omega)) ?_
      refine Ev.ite (fun hb => Ev.val ?_) (fun hb => (l2Order_l l hn d (i + 1) (by omega)).to ?_)
      · rw [allFrom, ordAt, hb]; simp
      · rw [Bool.not_eq_true] at hb
        rw [allFrom, ordAt, hb]; simp [hc]
    · rw [allFrom, ordAt]
      by_cases h1 : 1 ≤ nth l i
      · have : ¬ nth l i ≤ l.length := fun h2 => hc ⟨h1, h2⟩
        simp [this]
      · simp [h1]
theorem l2Order_ev (l : List Int) (hn : l.length ≤ 17592186044416) : Ev (fun k => spec_l2Order.f k l) (isOrd l) := by
  unfold spec_l2Order.f
  simp only [l1In_is, Option.bind_some, decide_eq_true_eq]
  refine Ev.ite (fun hc => (l2Order_l l hn l.length 0 (by omega)).to ?_) (fun hc => Ev.val ?_)
  · have h1 : 1 ≤ l.length := by omega
    have h2 : l.length ≤ 7 := by omega
    simp [isOrd, h1, h2]
  · rw [isOrd]
    by_cases h1 : 1 ≤ l.length
    · have : ¬ l.length ≤ 7 := by omega
      simp [this]
    · simp [h1]

theorem Index_l (l : List Int) (x : Int) (hn : l.length ≤ 17592186044416) : ∀ (d i : Nat), l.length = i + d → (∀ j, j < i → nth l j ≠ x) → Ev (fun k => slices_Index_int_int.l0 k l x (l.length : Int) i) (idx l x)
  | 0, i, h, hq => by
    refine Ev.step (fun k => by rw [slices_Index_int_int.l0]) ?_
    refine Ev.neg (by omega) (Ev.val ?_)
    exact (idx_none l x fun j hj => hq j (by omega)).symm
  | d + 1, i, h, hq => by
    refine Ev.step (fun k => by rw [slices_Index_int_int.l0]) ?_
    have e : wrap64 ((i : Int) + 1) = ((i + 1 : Nat) : Int) := by rw [w64 (by omega)]; omega
    simp only [e]
    refine Ev.pos (by omega) (Ev.pos (by omega) (Ev.pos (by omega) (Ev.ite (fun hc => Ev.val ?_) (fun hc => ?_))))
    · exact (idx_some l x i (by omega) (by rw [hc]; rfl) hq).symm
    · refine Index_l l x hn d (i + 1) (by omega) (fun j hj => ?_)
      by_cases e : j = i
      · subst e; exact fun h => hc h.symm
      · exact hq j (by omega)
theorem Index_ev (l : List Int) (x : Int) (hn : l.length ≤ 17592186044416) : Ev (fun k => slices_Index_int_int.f k l x) (idx l x) := by
  unfold slices_Index_int_int.f
  exact Index_l l x hn l.length 0 (by omega) (fun j hj => by omega)

theorem Contains_ev (l : List Int) (x : Int) (hn : l.length ≤ 17592186044416) : Ev (fun k => slices_Contains_int_int.f k l x) (l.contains x) := by
  unfold slices_Contains_int_int.f
  exact Ev.bind (Index_ev l x hn) (Ev.val (idx_contains l x))

theorem isOrder_l (l : List Int) (hn : l.length ≤ 17592186044416) : ∀ (d i : Nat), l.length = i + d → Ev (fun k => impl_isOrder.l0 k l l (l.length : Int) i) (allFrom (ordAt l) d i)
  | 0, i, h => by
    refine Ev.step (fun k => by rw [impl_isOrder.l0]) ?_
    exact Ev.neg (by omega) (Ev.val rfl)
  | d + 1, i, h => by
    refine Ev.step (fun k => by rw [impl_isOrder.l0]) ?_
    have e : wrap64 ((i : Int) + 1) = ((i + 1 : Nat) : Int) := by rw [w64 (by omega)]; omega
    simp only [e, rd_nat, Int.toNat_natCast]
    refine Ev.pos (by omega) (Ev.pos (by omega) (Ev.pos (by omega) (Ev.ite (fun hc => Ev.val ?_) (fun hc => Ev.ite (fun hd => Ev.val ?_) (fun hd => Ev.pos (by omega) ?_)))))
    · have : ¬ 1 ≤ nth l i := by omega
      rw [allFrom, ordAt]; simp [this]
    · have : ¬ nth l i ≤ l.length := by omega
      rw [allFrom, ordAt]; simp [this]
    · refine Ev.bind (Contains_ev _ _ (by simp; omega)) ?_
      refine Ev.ite (fun hb => Ev.val ?_) (fun hb => (isOrder_l l hn d (i + 1) (by omega)).to ?_)
      · rw [allFrom, ordAt, hb]; simp
      · rw [Bool.not_eq_true] at hb
        have h1 : 1 ≤ nth l i := by omega
        have h2 : nth l i ≤ l.length := by omega
        rw [allFrom, ordAt, hb]; simp [h1, h2]
theorem isOrder_ev (l : List Int) (hn : l.length ≤ 17592186044416) : Ev (fun k => impl_isOrder.f k l) (isOrd l) := by
  unfold impl_isOrder.f
  refine Ev.ite (fun hc => ?_) (fun hc => ?_)
  · refine Ev.step (fun k => by rw [impl_isOrder.j0]) ?_
    refine Ev.pos rfl (Ev.val ?_)
    have : ¬ 1 ≤ l.length := by omega
    simp [isOrd, this]
  · refine Ev.step (fun k => by rw [impl_isOrder.j0]) ?_
    simp only [decide_eq_true_eq]
    refine Ev.ite (fun hd => Ev.val ?_) (fun hd => (isOrder_l l hn l.length 0 (by omega)).to ?_)
    · have : ¬ l.length ≤ 7 := by omega
      simp [isOrd, this]
    · have h1 : 1 ≤ l.length := by omega
      have h2 : l.length ≤ 7 := by omega
      simp [isOrd, h1, h2]

/-! how many orders; all orders -/
def facN (n : Nat) : Nat := [1, 1, 2, 6, 24, 120, 720, 5040].getD n 1
theorem facN_pos (n : Nat) : 0 < facN n := by
  rcases Nat.lt_or_ge n 8 with h | h
  · have : n = 0 ∨ n = 1 ∨ n = 2 ∨ n = 3 ∨ n = 4 ∨ n = 5 ∨ n = 6 ∨ n = 7 := by omega
    rcases this with rfl | rfl | rfl | rfl | rfl | rfl | rfl | rfl <;> decide
  · unfold facN
    rw [List.getD_eq_getElem?_getD, List.getElem?_eq_none (by simpa using h)]
    decide
theorem facN_le (n : Nat) : facN n ≤ 5040 := by
  rcases Nat.lt_or_ge n 8 with h | h
  · have : n = 0 ∨ n = 1 ∨ n = 2 ∨ n = 3 ∨ n = 4 ∨ n = 5 ∨ n = 6 ∨ n = 7 := by omega
    rcases this with rfl | rfl | rfl | rfl | rfl | rfl | rfl | rfl <;> decide
  · unfold facN
    rw [List.getD_eq_getElem?_getD, List.getElem?_eq_none (by simpa using h)]
    decide
theorem facN_succ (n : Nat) (h : n ≤ 6) : facN (n + 1) = (n + 1) * facN n := by
  have : n = 0 ∨ n = 1 ∨ n = 2 ∨ n = 3 ∨ n = 4 ∨ n = 5 ∨ n = 6 := by omega
  rcases this with rfl | rfl | rfl | rfl | rfl | rfl | rfl <;> decide
def atM : Nat → List Int → Nat → List Int
  | 0, _, _ => []
  | d + 1, left, k => nth left (k / facN d) :: atM d (left.take (k / facN d) ++ left.drop (k / facN d + 1)) (k % facN d)
theorem atM_length : ∀ (d : Nat) (left : List Int) (k : Nat), (atM d left k).length = d
  | 0, _, _ => rfl
  | d + 1, left, k => by rw [atM, List.length_cons, atM_length d]
def ordsM (n : Nat) : List (List Int) := (List.range (facN n)).map fun k => atM n (marked 1 n) k
theorem ordsM_length (n : Nat) : (ordsM n).length = facN n := by simp [ordsM]
theorem ordsM_len (n : Nat) (l : List Int) (h : l ∈ ordsM n) : l.length = n := by
  obtain ⟨k, _, rfl⟩ := List.mem_map.1 h
  exact atM_length n _ k
theorem tdiv_nat (a b : Nat) : Int.tdiv (a : Int) (b : Int) = ((a / b : Nat) : Int) := (Int.ofNat_tdiv a b).symm
theorem tmod_nat (a b : Nat) : Int.tmod (a : Int) (b : Int) = ((a % b : Nat) : Int) := (Int.ofNat_tmod a b).symm
theorem div_lt_of (d k : Nat) (hd : d ≤ 6) (h : k < facN (d + 1)) : k / facN d < d + 1 := by
  rw [Nat.div_lt_iff_lt_mul (facN_pos d), ← facN_succ d hd]
  exact h

theorem l1Own_is (l : List Int) (h : l.length < 17592186044416) : spec_l1Own.f l = some l := by
  unfold spec_l1Own.f
  simp [h]

theorem l1Same_l (a b : List Int) (hn : a.length ≤ 17592186044416) (hl : a.length = b.length) : ∀ (d i : Nat), a.length = i + d → Ev (fun k => spec_l1Same.l0 k a b i) (decide (a.drop i = b.drop i))
  | 0, i, h => by
    refine Ev.step (fun k => by rw [spec_l1Same.l0]) (Ev.neg (by omega) (Ev.val ?_))
    rw [List.drop_of_length_le (by omega), List.drop_of_length_le (by omega)]; rfl
  | d + 1, i, h => by
    refine Ev.step (fun k => by rw [spec_l1Same.l0]) ?_
    have e : wrap64 ((i : Int) + 1) = ((i + 1 : Nat) : Int) := by rw [w64 (by omega)]; omega
    simp only [e]
    refine Ev.pos (by omega) (Ev.pos (by omega) (Ev.pos (by omega) (Ev.ite (fun hc => Ev.to (l1Same_l a b hn hl d (i + 1) (by omega)) ?_) (fun hc => Ev.val ?_))))
    · rw [drop_step a i (by omega), drop_step b i (by omega)]
      have hc' : nth a i = nth b i := hc
      simp [hc']
    · rw [drop_step a i (by omega), drop_step b i (by omega)]
      have hc' : ¬ nth a i = nth b i := hc
      simp [hc']
theorem l1Same_ev (a b : List Int) (hn : a.length ≤ 17592186044416) : Ev (fun k => spec_l1Same.f k a b) (decide (a = b)) := by
  unfold spec_l1Same.f
  by_cases hl : a.length = b.length
  · exact Ev.pos (by omega) (Ev.to (l1Same_l a b hn hl a.length 0 (by omega)) (by simp))
  · refine Ev.neg (by omega) (Ev.val ?_)
    have : a ≠ b := fun e => hl (by rw [e])
    simp [this]

theorem Equal_l (a b : List Int) (hn : a.length ≤ 17592186044416) (hl : a.length = b.length) : ∀ (d i : Nat), a.length = i + d → Ev (fun k => slices_Equal_int_int.l0 k a b (a.length : Int) i) (decide (a.drop i = b.drop i))
  | 0, i, h => by
    refine Ev.step (fun k => by rw [slices_Equal_int_int.l0]) (Ev.neg (by omega) (Ev.val ?_))
    rw [List.drop_of_length_le (by omega), List.drop_of_length_le (by omega)]; rfl
  | d + 1, i, h => by
    refine Ev.step (fun k => by rw [slices_Equal_int_int.l0]) ?_
    have e : wrap64 ((i : Int) + 1) = ((i + 1 : Nat) : Int) := by rw [w64 (by omega)]; omega
    simp only [e]
    refine Ev.pos (by omega) (Ev.pos (by omega) (Ev.pos (by omega) (Ev.pos (by omega) (Ev.ite (fun hc => Ev.to (Equal_l a b hn hl d (i + 1) (by omega)) ?_) (fun hc => Ev.val ?_)))))
    · rw [drop_step a i (by omega), drop_step b i (by omega)]
      have hc' : nth a i = nth b i := hc
      simp [hc']
    · rw [drop_step a i (by omega), drop_step b i (by omega)]
      have hc' : ¬ nth a i = nth b i := hc
      simp [hc']
theorem Equal_ev (a b : List Int) (hn : a.length ≤ 17592186044416) : Ev (fun k => slices_Equal_int_int.f k a b) (decide (a = b)) := by
  unfold slices_Equal_int_int.f
  by_cases hl : a.length = b.length
  · exact Ev.pos (by omega) (Ev.to (Equal_l a b hn hl a.length 0 (by omega)) (by simp))
  · refine Ev.neg (by omega) (Ev.val ?_)
    have : a ≠ b := fun e => hl (by rw [e])
    simp [this]

theorem l2Sorted_l (n : Nat) (hn : n ≤ 1000) : ∀ d i : Nat, n = i + d → Ev (fun k => spec_l2Sorted.l0 k n (marked 1 i) ((i : Int) + 1)) (marked 1 n)
  | 0, i, h => by
    refine Ev.step (fun k => by rw [spec_l2Sorted.l0]) (Ev.neg (by omega) (Ev.val ?_))
    rw [h, Nat.add_zero]
  | d + 1, i, h => by
    refine Ev.step (fun k => by rw [spec_l2Sorted.l0]) ?_
    have e : wrap64 ((i : Int) + 1 + 1) = ((i + 1 : Nat) : Int) + 1 := by rw [w64 (by omega)]; omega
    have e2 : marked 1 i ++ [(i : Int) + 1] = marked 1 (i + 1) := by rw [marked_snoc]; congr 2; omega
    simp only [e, e2]
    exact Ev.pos (by omega) (Ev.pos (by rw [marked_length]; omega) (l2Sorted_l n hn d (i + 1) (by omega)))
theorem l2Sorted_ev (n : Nat) (hn : n ≤ 1000) : Ev (fun k => spec_l2Sorted.f k n) (marked 1 n) := l2Sorted_l n hn n 0 (by omega)

theorem sorted_l (n : Nat) (hn : n ≤ 1000) : ∀ d i : Nat, n = i + d → Ev (fun k => impl_sorted.l0 k (marked 1 i) n i) (marked 1 n)
  | 0, i, h => by
    refine Ev.step (fun k => by rw [impl_sorted.l0]) (Ev.neg (by omega) (Ev.val ?_))
    rw [h, Nat.add_zero]
  | d + 1, i, h => by
    refine Ev.step (fun k => by rw [impl_sorted.l0]) ?_
    have e : wrap64 ((i : Int) + 1) = ((i + 1 : Nat) : Int) := by rw [w64 (by omega)]; omega
    have e2 : marked 1 i ++ [((i + 1 : Nat) : Int)] = marked 1 (i + 1) := by rw [marked_snoc]; congr 2; omega
    simp only [e, e2]
    exact Ev.pos (by omega) (Ev.pos (by rw [marked_length]; omega) (sorted_l n hn d (i + 1) (by omega)))
theorem sorted_ev (n : Nat) (hn : n ≤ 1000) : Ev (fun k => impl_sorted.f k n) (marked 1 n) := sorted_l n hn n 0 (by omega)

theorem l2Ways_ev (n : Nat) (h : n ≤ 7) : Ev (fun k => spec_l2Ways.f k (n : Int)) (facN n : Int) := by
  have : n = 0 ∨ n = 1 ∨ n = 2 ∨ n = 3 ∨ n = 4 ∨ n = 5 ∨ n = 6 ∨ n = 7 := by omega
  rcases this with rfl | rfl | rfl | rfl | rfl | rfl | rfl | rfl <;> exact Ev.of (fun k => spec_l2Ways.mono _ k) (k := 10) (by decide +kernel)
theorem l2At_l : ∀ (d : Nat) (left acc : List Int) (k : Nat), left.length = d → d ≤ 7 → acc.length + d ≤ 100 → k < facN d → Ev (fun q => spec_l2At.l0 q (k : Int) acc left) (acc ++ atM d left k)
  | 0, left, acc, k, hl, hd, ha, hk => by
    refine Ev.step (fun q => by rw [spec_l2At.l0]) (Ev.neg (by omega) (Ev.val ?_))
    rw [atM, List.append_nil]
  | d + 1, left, acc, k, hl, hd, ha, hk => by
    refine Ev.step (fun q => by rw [spec_l2At.l0]) (Ev.pos (by omega) ?_)
    have e1 : wrap64 ((left.length : Int) - 1) = (d : Int) := by rw [w64 (by omega)]; omega
    rw [e1]
    clear e1
    refine Ev.bind (l2Ways_ev d (by omega)) (Ev.neg (by have := facN_pos d; omega) ?_)
    have hq := div_lt_of d k (by omega) hk
    have h5 := facN_le (d + 1)
    have e2 : wrap64 (Int.tdiv (k : Int) (facN d : Int)) = ((k / facN d : Nat) : Int) := by rw [tdiv_nat]; exact w64n _ (by have := Nat.div_le_self k (facN d); omega)
    have hmod := Nat.mod_lt k (facN_pos d)
    simp only [e2, tmod_nat]
    rw [atM]
    clear e2 hk
    generalize k / facN d = qq at hq ⊢
    generalize k % facN d = k2 at hmod ⊢
    have e3 : wrap64 ((qq : Int) + 1) = ((qq + 1 : Nat) : Int) := by rw [w64 (by omega)]; omega
    simp only [e3, Int.toNat_natCast, rd_nat]
    clear e3
    refine Ev.pos (by omega) (Ev.pos (by omega) (Ev.pos (by omega) (Ev.pos (by omega) ?_)))
    have h1 : (left.take qq).length < 17592186044416 := by rw [List.length_take]; omega
    simp only [l1Own_is _ h1, Option.bind_some]
    refine Ev.pos (by omega) (Ev.pos (by omega) (Ev.pos (by rw [List.length_take, List.length_drop]; omega) ?_))
    refine Ev.to (l2At_l d _ _ k2 (by rw [List.length_append, List.length_take, List.length_drop]; omega) (by omega) (by rw [List.length_append, List.length_singleton]; omega) hmod) ?_
    rw [List.append_assoc]; rfl
theorem l2At_ev (n k : Nat) (hn : n ≤ 7) (hk : k < facN n) : Ev (fun q => spec_l2At.f q (n : Int) (k : Int)) (atM n (marked 1 n) k) := by
  unfold spec_l2At.f
  exact Ev.bind (l2Sorted_ev n (by omega)) (Ev.to (l2At_l n _ [] k (marked_length n 1) hn (by simp; omega) hk) (List.nil_append _))
theorem l2Orders_l (n : Nat) (hn : n ≤ 7) : ∀ (d i : Nat), facN n = i + d → Ev (fun q => spec_l2Orders.l0 q (n : Int) ((List.range i).map fun k => atM n (marked 1 n) k) (i : Int)) (ordsM n)
  | 0, i, h => by
    refine Ev.step (fun q => by rw [spec_l2Orders.l0]) ?_
    refine Ev.bind (l2Ways_ev n hn) ?_
    refine Ev.neg (by omega) (Ev.val ?_)
    rw [ordsM, h, Nat.add_zero]
  | d + 1, i, h => by
    have h5 := facN_le n
    refine Ev.step (fun q => by rw [spec_l2Orders.l0]) ?_
    refine Ev.bind (l2Ways_ev n hn) ?_
    refine Ev.pos (by omega) ?_
    refine Ev.bind (l2At_ev n i hn (by omega)) ?_
    refine Ev.pos (by rw [List.length_map, List.length_range]; omega) ?_
    have e : wrap64 ((i : Int) + 1) = ((i + 1 : Nat) : Int) := by rw [w64 (by omega)]; omega
    have e2 : ((List.range i).map fun k => atM n (marked 1 n) k) ++ [atM n (marked 1 n) i] = (List.range (i + 1)).map fun k => atM n (marked 1 n) k := by rw [List.range_succ, List.map_append]; rfl
    simp only [e, e2]
    exact l2Orders_l n hn d (i + 1) (by omega)
theorem l2Orders_ev (n : Nat) (hn : n ≤ 7) : Ev (fun q => spec_l2Orders.f q (n : Int)) (ordsM n) := by
  unfold spec_l2Orders.f
  exact l2Orders_l n hn (facN n) 0 (by omega)

theorem factorial_ev (n : Nat) (h : n ≤ 7) : Ev (fun k => impl_factorial.f k (n : Int)) (facN n : Int) := by
  have : n = 0 ∨ n = 1 ∨ n = 2 ∨ n = 3 ∨ n = 4 ∨ n = 5 ∨ n = 6 ∨ n = 7 := by omega
  rcases this with rfl | rfl | rfl | rfl | rfl | rfl | rfl | rfl <;> exact Ev.of (fun k => impl_factorial.mono _ k) (k := 10) (by decide +kernel)
theorem orderAt_l : ∀ (d : Nat) (left acc : List Int) (k : Nat), left.length = d → d ≤ 7 → acc.length + d ≤ 100 → k < facN d → Ev (fun q => impl_orderAt.l0 q (k : Int) left acc) (acc ++ atM d left k)
  | 0, left, acc, k, hl, hd, ha, hk => by
    refine Ev.step (fun q => by rw [impl_orderAt.l0]) (Ev.neg (by omega) (Ev.val ?_))
    rw [atM, List.append_nil]
  | d + 1, left, acc, k, hl, hd, ha, hk => by
    refine Ev.step (fun q => by rw [impl_orderAt.l0]) (Ev.pos (by omega) ?_)
    have e1 : wrap64 ((left.length : Int) - 1) = (d : Int) := by rw [w64 (by omega)]; omega
    rw [e1]
    clear e1
    refine Ev.bind (factorial_ev d (by omega)) (Ev.neg (by have := facN_pos d; omega) ?_)
    have hq := div_lt_of d k (by omega) hk
    have h5 := facN_le (d + 1)
    have e2 : wrap64 (Int.tdiv (k : Int) (facN d : Int)) = ((k / facN d : Nat) : Int) := by rw [tdiv_nat]; exact w64n _ (by have := Nat.div_le_self k (facN d); omega)
    have hmod := Nat.mod_lt k (facN_pos d)
    simp only [e2, tmod_nat]
    rw [atM]
    clear e2 hk
    generalize k / facN d = qq at hq ⊢
    generalize k % facN d = k2 at hmod ⊢
    have e3 : wrap64 ((qq : Int) + 1) = ((qq + 1 : Nat) : Int) := by rw [w64 (by omega)]; omega
    simp only [e3, rd_nat]
    clear e3
    have hdel : slices_Delete_int_int.f left (qq : Int) ((qq + 1 : Nat) : Int) = some (left.take qq ++ left.drop (qq + 1)) := by
      unfold slices_Delete_int_int.f
      rw [if_pos (by omega), Int.toNat_natCast, Int.toNat_natCast]
    refine Ev.pos (by omega) (Ev.pos (by omega) (Ev.pos (by omega) ?_))
    simp only [hdel, Option.bind_some]
    refine Ev.to (orderAt_l d _ _ k2 (by rw [List.length_append, List.length_take, List.length_drop]; omega) (by omega) (by rw [List.length_append, List.length_singleton]; omega) hmod) ?_
    rw [List.append_assoc]; rfl
theorem orderAt_ev (n k : Nat) (hn : n ≤ 7) (hk : k < facN n) : Ev (fun q => impl_orderAt.f q (n : Int) (k : Int)) (atM n (marked 1 n) k) := by
  unfold impl_orderAt.f
  exact Ev.bind (sorted_ev n (by omega)) (Ev.to (orderAt_l n _ [] k (marked_length n 1) hn (by simp; omega) hk) (List.nil_append _))
theorem allOrders_l (n : Nat) (hn : n ≤ 7) : ∀ (d i : Nat), facN n = i + d → Ev (fun q => impl_allOrders.l0 q (n : Int) ((List.range i).map fun k => atM n (marked 1 n) k) (facN n : Int) (i : Int)) (ordsM n)
  | 0, i, h => by
    refine Ev.step (fun q => by rw [impl_allOrders.l0]) (Ev.neg (by omega) (Ev.val ?_))
    rw [ordsM, h, Nat.add_zero]
  | d + 1, i, h => by
    have h5 := facN_le n
    refine Ev.step (fun q => by rw [impl_allOrders.l0]) ?_
    refine Ev.pos (by omega) ?_
    refine Ev.bind (orderAt_ev n i hn (by omega)) ?_
    refine Ev.pos (by rw [List.length_map, List.length_range]; omega) ?_
    have e : wrap64 ((i : Int) + 1) = ((i + 1 : Nat) : Int) := by rw [w64 (by omega)]; omega
    have e2 : ((List.range i).map fun k => atM n (marked 1 n) k) ++ [atM n (marked 1 n) i] = (List.range (i + 1)).map fun k => atM n (marked 1 n) k := by rw [List.range_succ, List.map_append]; rfl
    simp only [e, e2]
    exact allOrders_l n hn d (i + 1) (by omega)
theorem allOrders_ev (n : Nat) (hn : n ≤ 7) : Ev (fun q => impl_allOrders.f q (n : Int)) (ordsM n) := by
  unfold impl_allOrders.f
  exact Ev.bind (factorial_ev n hn) (allOrders_l n hn (facN n) 0 (by omega))

theorem isOrd_of {l : List Int} (h1 : 1 ≤ l.length) (h2 : l.length ≤ 7) (hd : l.Nodup) (hm : ∀ x ∈ l, 1 ≤ x ∧ x ≤ l.length) : isOrd l = true := by
  simp only [isOrd, Bool.and_eq_true, decide_eq_true_eq]
  refine ⟨h1, h2, (allFrom_iff _ _ _).2 fun j _ hj => ?_⟩
  have hj' : j < l.length := by omega
  have := hm (nth l j) (by rw [nth_lt _ _ hj']; exact List.getElem_mem hj')
  have hn : nth l j ∉ l.take j := by
    intro hc
    obtain ⟨i, hi, e⟩ := List.mem_take_iff_getElem.1 hc
    rw [nth_lt _ _ hj'] at e
    have := (List.getElem_inj hd).1 e
    omega
  simp [ordAt, this.1, this.2, hn]

theorem atM_mem : ∀ (d : Nat) (left : List Int) (k : Nat), left.length = d → d ≤ 7 → k < facN d → (∀ x ∈ atM d left k, x ∈ left) ∧ (left.Nodup → (atM d left k).Nodup)
  | 0, left, k, _, _, _ => ⟨fun x hx => by simp [atM] at hx, fun _ => by simp [atM]⟩
  | d + 1, left, k, hl, hd, hk => by
    have hq := div_lt_of d k (by omega) hk
    have hmod := Nat.mod_lt k (facN_pos d)
    rw [atM]
    generalize k / facN d = q at hq ⊢
    have ih := atM_mem d (left.take q ++ left.drop (q + 1)) (k % facN d) (by rw [List.length_append, List.length_take, List.length_drop]; omega) (by omega) hmod
    have hsub : ∀ x ∈ left.take q ++ left.drop (q + 1), x ∈ left := fun x hx => by
      rcases List.mem_append.1 hx with hx | hx
      · exact List.mem_of_mem_take hx
      · exact List.mem_of_mem_drop hx
    refine ⟨fun x hx => ?_, fun hn => ?_⟩
    · rcases List.mem_cons.1 hx with rfl | hx
      · rw [nth_lt _ _ (by omega)]; exact List.getElem_mem _
      · exact hsub x (ih.1 x hx)
    · have e : left = left.take q ++ nth left q :: left.drop (q + 1) := by
        rw [← drop_step left q (by omega), List.take_append_drop]
      have hn2 := hn
      rw [e, List.nodup_append] at hn2
      obtain ⟨n1, n2, n3⟩ := hn2
      rw [List.nodup_cons] at n2 ⊢
      refine ⟨fun hc => ?_, ih.2 ?_⟩
      · rcases List.mem_append.1 (ih.1 _ hc) with hc | hc
        · exact n3 _ hc _ (by simp) rfl
        · exact n2.1 hc
      · rw [List.nodup_append]
        exact ⟨n1, n2.2, fun a ha b hb => n3 a ha b (by simp [hb])⟩
theorem marked_mem (n : Nat) : ∀ (a x : Int), x ∈ marked a n → a ≤ x ∧ x < a + n := by
  induction n with
  | zero => intro a x h; simp [marked] at h
  | succ n ih =>
    intro a x h
    rw [marked, List.mem_cons] at h
    rcases h with rfl | h
    · omega
    · have := ih (a + 1) x h; omega
theorem marked_nodup (n : Nat) : ∀ (a : Int), (marked a n).Nodup := by
  induction n with
  | zero => intro a; simp [marked]
  | succ n ih =>
    intro a
    rw [marked, List.nodup_cons]
    exact ⟨fun h => by have := marked_mem n _ _ h; omega, ih _⟩
theorem ordsM_ord (n : Nat) (h1 : 1 ≤ n) (h2 : n ≤ 7) (l : List Int) (h : l ∈ ordsM n) : isOrd l = true := by
  obtain ⟨k, hk, rfl⟩ := List.mem_map.1 h
  have hk := List.mem_range.1 hk
  have hm := atM_mem n (marked 1 n) k (marked_length n 1) h2 hk
  have hl := atM_length n (marked 1 n) k
  refine isOrd_of (by omega) (by omega) (hm.2 (marked_nodup n 1)) fun x hx => ?_
  have := marked_mem n 1 x (hm.1 x hx)
  rw [hl]
  omega

/-! what the laws' own loops make of rows -/
theorem rd_L1_natS (xs : List (List Int)) (i : Nat) : rd_L1 xs (i : Int) = xs.getD i [] := rfl
theorem getD_memS {xs : List (List Int)} {i : Nat} (h : i < xs.length) : xs.getD i [] ∈ xs := by
  rw [List.getD_eq_getElem?_getD, List.getElem?_eq_getElem h]; exact List.getElem_mem h
theorem eqIntSS_l (A : List (List Int)) (hn : A.length ≤ 100000) (hr : ∀ r ∈ A, r.length ≤ 1000) : ∀ d i : Nat, A.length = i + d → Ev (fun k => laws_eqIntSS.l0 k A A (i : Int)) true
  | 0, i, h => by
    refine Ev.step (fun k => by rw [laws_eqIntSS.l0]) ?_
    exact Ev.neg (by omega) (Ev.val rfl)
  | d + 1, i, h => by
    have hm := hr _ (getD_memS (xs := A) (i := i) (by omega))
    refine Ev.step (fun k => by rw [laws_eqIntSS.l0]) ?_
    simp only [wup i (by omega), rd_L1_natS]
    refine Ev.pos (by omega) ?_
    refine Ev.pos (by omega) ?_
    refine Ev.pos (by omega) ?_
    refine Ev.bind (eqIntS_ev _ _ (by omega)) ?_
    exact Ev.pos (by simp) (eqIntSS_l A hn hr d (i + 1) (by omega))
theorem eqIntSS_ev (A : List (List Int)) (hn : A.length ≤ 100000) (hr : ∀ r ∈ A, r.length ≤ 1000) : Ev (fun k => laws_eqIntSS.f k A A) true := by
  unfold laws_eqIntSS.f
  exact Ev.pos rfl (eqIntSS_l A hn hr A.length 0 (by omega))
def marksM : List (List Int) → Int → List (List Int)
  | [], _ => []
  | r :: rs, a => marked a r.length :: marksM rs (a + r.length)
def tot : List (List Int) → Nat
  | [] => 0
  | r :: rs => r.length + tot rs
theorem tot_le : ∀ rs : List (List Int), (∀ r ∈ rs, r.length ≤ 1000) → tot rs ≤ 1000 * rs.length
  | [], _ => by simp [tot]
  | r :: rs, h => by
    have h1 := h r (by simp)
    have h2 := tot_le rs fun x hx => h x (by simp [hx])
    simp only [tot, List.length_cons]
    omega
theorem marksM_length : ∀ (rs : List (List Int)) (a : Int), (marksM rs a).length = rs.length
  | [], _ => rfl
  | r :: rs, a => by simp [marksM, marksM_length rs]
theorem at_front (P rs : List (List Int)) (r : List Int) : (P ++ r :: rs).getD P.length [] = r := by simp
theorem set_front (P rs : List (List Int)) (r y : List Int) : (P ++ r :: rs).set P.length y = (P ++ [y]) ++ rs := by
  rw [List.set_append_right _ _ (Nat.le_refl _)]; simp
theorem markSS_l : ∀ (rs P : List (List Int)) (a : Int), P.length + rs.length ≤ 100000 → (∀ r ∈ rs, r.length ≤ 1000) → 1 ≤ a → a + 1000 * rs.length ≤ 1000000000 → Ev (fun k => laws_markIntSS.l0 k (P ++ rs) a (P.length : Int)) (a + tot rs, P ++ marksM rs a)
  | [], P, a, hn, hr, h1, h2 => by
    refine Ev.step (fun k => by rw [laws_markIntSS.l0]) ?_
    refine Ev.neg (by simp) (Ev.val ?_)
    simp [tot, marksM]
  | r :: rs, P, a, hn, hr, h1, h2 => by
    simp only [List.length_cons] at hn h2
    have hm := hr r (by simp)
    refine Ev.step (fun k => by rw [laws_markIntSS.l0]) ?_
    simp only [wup P.length (by omega), Int.toNat_natCast, at_front]
    refine Ev.pos (by simp; omega) ?_
    refine Ev.pos (by omega) ?_
    refine Ev.bind (markIntS_ev r a (by omega) (by omega) (by omega)) ?_
    simp only [set_front]
    have ih := markSS_l rs (P ++ [marked a r.length]) (a + r.length) (by rw [List.length_append, List.length_singleton]; omega) (fun x hx => hr x (by simp [hx])) (by omega) (by omega)
    rw [List.length_append, List.length_singleton] at ih
    refine Ev.to ih ?_
    simp only [tot, marksM, List.append_assoc, List.singleton_append]
    congr 1
    omega
theorem markSS_ev (R : List (List Int)) (hn : R.length ≤ 100000) (hr : ∀ r ∈ R, r.length ≤ 1000) : Ev (fun k => laws_markIntSS.f k R 1) (1 + (tot R : Int), marksM R 1) := by
  unfold laws_markIntSS.f
  have := markSS_l R [] 1 (by simpa using hn) hr (by omega) (by omega)
  rw [List.nil_append, List.nil_append] at this
  exact this
theorem heldSS_l : ∀ (rs P : List (List Int)) (a : Int), P.length + rs.length ≤ 100000 → (∀ r ∈ rs, r.length ≤ 1000) → 1 ≤ a → a + 1000 * rs.length ≤ 1000000000 → Ev (fun k => laws_heldIntSS.l0 k (P ++ marksM rs a) a (P.length : Int)) (a + tot rs)
  | [], P, a, hn, hr, h1, h2 => by
    refine Ev.step (fun k => by rw [laws_heldIntSS.l0]) ?_
    refine Ev.neg (by simp [marksM]) (Ev.val ?_)
    simp [tot]
  | r :: rs, P, a, hn, hr, h1, h2 => by
    simp only [List.length_cons] at hn h2
    have hm := hr r (by simp)
    refine Ev.step (fun k => by rw [laws_heldIntSS.l0]) ?_
    simp only [wup P.length (by omega), rd_L1_natS, marksM, at_front]
    refine Ev.pos (by simp; omega) ?_
    refine Ev.pos (by omega) ?_
    refine Ev.bind (heldIntS_ev r.length a (by omega) (by omega) (by omega)) ?_
    refine Ev.neg (by omega) ?_
    have ih := heldSS_l rs (P ++ [marked a r.length]) (a + r.length) (by rw [List.length_append, List.length_singleton]; omega) (fun x hx => hr x (by simp [hx])) (by omega) (by omega)
    rw [List.length_append, List.length_singleton, List.append_assoc, List.singleton_append] at ih
    refine Ev.to ih ?_
    simp only [tot]
    omega
theorem heldSS_ev (R : List (List Int)) (hn : R.length ≤ 100000) (hr : ∀ r ∈ R, r.length ≤ 1000) : Ev (fun k => laws_heldIntSS.f k (marksM R 1) 1) (1 + (tot R : Int)) := by
  unfold laws_heldIntSS.f
  have := heldSS_l R [] 1 (by simpa using hn) hr (by omega) (by omega)
  rw [List.nil_append] at this
  exact this
theorem Ev.both {α β : Type} {g : Nat → Option α} {h : Nat → Option β} {a : α} {b : β} (h1 : Ev g a) (h2 : Ev h b) : ∃ K, ∀ k, K ≤ k → g k = some a ∧ h k = some b := by
  obtain ⟨K, h1⟩ := h1
  obtain ⟨L, h2⟩ := h2
  exact ⟨max K L, fun k hk => ⟨h1 k (by omega), h2 k (by omega)⟩⟩

theorem keepO_ev (of_ : Nat → List Int → Option Bool) (p : List Int → Bool) : ∀ l : List (List Int), (∀ x ∈ l, Ev (fun k => of_ k x) (p x)) → Ev (fun k => keepO (of_ k) l) (l.filter fun x => !p x)
  | [], _ => Ev.val rfl
  | x :: l, h => by
    refine Ev.congr (fun k => by rw [keepO]) ?_
    refine Ev.bind (h x (by simp)) (Ev.bind (keepO_ev of_ p l fun y hy => h y (by simp [hy])) (Ev.val ?_))
    rw [List.filter_cons]
    cases p x <;> rfl
theorem drop_stepK (l : List (List Int)) (i : Nat) (h : i < l.length) : l.drop i = l.getD i [] :: l.drop (i + 1) := by
  rw [List.getD_eq_getElem?_getD, List.getElem?_eq_getElem h]; exact List.drop_eq_getElem_cons h
theorem getD_memK {xs : List (List Int)} {i : Nat} (h : i < xs.length) : xs.getD i [] ∈ xs := by
  rw [List.getD_eq_getElem?_getD, List.getElem?_eq_getElem h]; exact List.getElem_mem h
theorem rd_L1_natK (xs : List (List Int)) (i : Nat) : rd_L1 xs (i : Int) = xs.getD i [] := rfl

/-! cuts: numbers of at least 1 whose sum is n -/
def cutsOk : Int → List Int → Bool
  | n, [] => n == 0
  | n, c :: cs => decide (1 ≤ c) && (decide (c ≤ n) && cutsOk (n - c) cs)
theorem cutsOk_neg (l : List Int) (n : Int) (h : n < 0) : cutsOk n l = false := by
  cases l with
  | nil => simp [cutsOk]; omega
  | cons c cs =>
    by_cases h1 : 1 ≤ c
    · have : ¬ c ≤ n := by omega
      simp [cutsOk, this]
    · simp [cutsOk, h1]
theorem cutsOk_len : ∀ (l : List Int) (n : Int), cutsOk n l = true → (l.length : Int) ≤ n
  | [], n, h => by simp [cutsOk] at h; simp [h]
  | c :: cs, n, h => by
    simp only [cutsOk, Bool.and_eq_true, decide_eq_true_eq] at h
    have := cutsOk_len cs (n - c) h.2.2
    simp only [List.length_cons]
    omega
def isCuts (n : Int) (l : List Int) : Bool := decide (1 ≤ n ∧ n ≤ 7) && cutsOk n l

/-! falls -/
def fallsL (l : List Int) : Nat → Nat → List Int → List Int
  | 0, _, acc => acc
  | d + 1, i, acc => if 0 < i ∧ nth l i < nth l (i - 1) then fallsL l d (i + 1) (acc.set (acc.length - 1) (wrap64 (nth acc (acc.length - 1) + 1))) else fallsL l d (i + 1) (acc ++ [1])
def fallsOf (l : List Int) : List Int := fallsL l l.length 0 []
theorem fallsL_length (l : List Int) : ∀ (d i : Nat) (acc : List Int), (fallsL l d i acc).length ≤ acc.length + d
  | 0, i, acc => Nat.le_refl _
  | d + 1, i, acc => by
    rw [fallsL]
    split
    · have := fallsL_length l d (i + 1) (acc.set (acc.length - 1) (wrap64 (nth acc (acc.length - 1) + 1))); simp at this ⊢; omega
    · have := fallsL_length l d (i + 1) (acc ++ [1]); simp at this ⊢; omega
theorem l6Falls_l (l : List Int) (hn : l.length ≤ 17592186044415) : ∀ (d i : Nat) (acc : List Int), l.length = i + d → acc.length ≤ i → (0 < i → 0 < acc.length) → Ev (fun k => spec_l6Falls.l0 k l acc i) (fallsL l d i acc)
  | 0, i, acc, h, ha, hp => by
    refine Ev.step (fun k => by rw [spec_l6Falls.l0]) ?_
    refine Ev.neg (by omega) (Ev.val rfl)
  | d + 1, i, acc, h, ha, hp => by
    refine Ev.step (fun k => by rw [spec_l6Falls.l0]) ?_
    refine Ev.pos (by omega) ?_
    have e : wrap64 ((i : Int) + 1) = ((i + 1 : Nat) : Int) := by rw [w64 (by omega)]; omega
    simp only [e]
    rw [fallsL]
    refine Ev.ite (fun hi => ?_) (fun hi => Ev.pos (by omega) ?_)
    · have h0 : 0 < i := by omega
      have hp := hp h0
      have e1 : wrap64 ((i : Int) - 1) = ((i - 1 : Nat) : Int) := by rw [w64 (by omega)]; omega
      have e2 : wrap64 ((acc.length : Int) - 1) = ((acc.length - 1 : Nat) : Int) := by rw [w64 (by omega)]; omega
      simp only [e1, e2, rd_nat, Int.toNat_natCast]
      refine Ev.pos (by omega) (Ev.pos (by omega) (Ev.pos (by omega) (Ev.ite (fun hc => Ev.pos (by omega) (Ev.pos (by omega) ?_)) (fun hc => Ev.pos (by omega) ?_))))
      · rw [if_pos ⟨h0, hc⟩]
        exact l6Falls_l l hn d (i + 1) _ (by omega) (by simp; omega) (fun _ => by simp; omega)
      · rw [if_neg (fun h => hc h.2)]
        exact l6Falls_l l hn d (i + 1) _ (by omega) (by simp; omega) (fun _ => by simp)
    · rw [if_neg (fun h => by omega)]
      exact l6Falls_l l hn d (i + 1) _ (by omega) (by simp; omega) (fun _ => by simp)
theorem l6Falls_ev (l : List Int) (hn : l.length ≤ 17592186044415) : Ev (fun k => spec_l6Falls.f k l) (fallsOf l) := by
  unfold spec_l6Falls.f
  exact l6Falls_l l hn l.length 0 [] (by omega) (by simp) (fun h => by omega)
theorem snoc_last (acc : List Int) (v w : Int) : (acc ++ [v]).set ((acc ++ [v]).length - 1) w = acc ++ [w] := by
  simp [List.set_append]
theorem fallsOf_l (l : List Int) (hn : l.length ≤ 17592186044415) (hne : ∀ i, 0 < i → i < l.length → nth l i ≠ nth l (i - 1)) : ∀ (d i : Nat) (acc : List Int), l.length = i + d → acc.length ≤ i → (0 < i → 0 < acc.length) → Ev (fun k => impl_fallsOf.l0 k l acc l (l.length : Int) i) (fallsL l d i acc)
  | 0, i, acc, h, ha, hp => by
    refine Ev.step (fun k => by rw [impl_fallsOf.l0]) ?_
    refine Ev.neg (by omega) (Ev.val rfl)
  | d + 1, i, acc, h, ha, hp => by
    refine Ev.step (fun k => by rw [impl_fallsOf.l0]) ?_
    refine Ev.pos (by omega) (Ev.pos (by omega) (Ev.pos (by omega) ?_))
    have e : wrap64 ((i : Int) + 1) = ((i + 1 : Nat) : Int) := by rw [w64 (by omega)]; omega
    have e3 : wrap64 (((acc ++ [0]).length : Int) - 1) = ((acc.length : Nat) : Int) := by rw [w64 (by simp; omega)]; simp
    have e4 : rd (acc ++ [0]) (acc.length : Nat) = 0 := by rw [rd_nat, nth_snoc]
    have e5 : wrap64 (0 + 1) = 1 := w64 (by omega)
    have e6 : (acc ++ [(0 : Int)]).set acc.length 1 = acc ++ [1] := by simp [List.set_append]
    simp only [e, Option.bind_some, e3, e4, e5, Int.toNat_natCast, e6]
    rw [fallsL]
    refine Ev.ite (fun hi => Ev.pos (by omega) (Ev.pos (by omega) (Ev.pos (by rw [List.length_append, List.length_singleton]; omega) ?_))) (fun hi => ?_)
    · rw [if_neg (fun h => by omega)]
      exact fallsOf_l l hn hne d (i + 1) _ (by omega) (by simp; omega) (fun _ => by simp)
    · have h0 : 0 < i := by omega
      have hp := hp h0
      have hne' := hne i h0 (by omega)
      have e1 : wrap64 ((i : Int) - 1) = ((i - 1 : Nat) : Int) := by rw [w64 (by omega)]; omega
      have e2 : wrap64 ((acc.length : Int) - 1) = ((acc.length - 1 : Nat) : Int) := by rw [w64 (by omega)]; omega
      simp only [e1, e2, rd_nat, Int.toNat_natCast]
      refine Ev.pos (by omega) (Ev.pos (by omega) (Ev.ite (fun hc => Ev.pos (by omega) (Ev.pos (by omega) (Ev.pos (by rw [List.length_append, List.length_singleton]; omega) ?_))) (fun hc => Ev.pos (by omega) (Ev.pos (by omega) ?_))))
      · rw [if_neg (fun h => by omega)]
        exact fallsOf_l l hn hne d (i + 1) _ (by omega) (by simp; omega) (fun _ => by simp)
      · rw [if_pos ⟨h0, by omega⟩]
        exact fallsOf_l l hn hne d (i + 1) _ (by omega) (by simp; omega) (fun _ => by simp; omega)
theorem isOrd_ne {l : List Int} (h : isOrd l = true) (i : Nat) (h0 : 0 < i) (hi : i < l.length) : nth l i ≠ nth l (i - 1) := by
  intro e
  refine (isOrd_at h i hi).2.2 ?_
  rw [e, nth_lt l (i - 1) (by omega)]
  rw [List.mem_take_iff_getElem]
  exact ⟨i - 1, by omega, rfl⟩
theorem fallsOf_ev (l : List Int) (h : isOrd l = true) : Ev (fun k => impl_fallsOf.f k l) (fallsOf l) := by
  have := isOrd_len h
  unfold impl_fallsOf.f
  exact fallsOf_l l (by omega) (isOrd_ne h) l.length 0 [] (by omega) (by simp) (fun h => by omega)

theorem l2Back_l (l : List Int) (hn : l.length ≤ 17592186044415) : ∀ (i : Nat) (acc : List Int), i ≤ l.length → acc.length + i ≤ l.length → Ev (fun k => spec_l2Back.l0 k l acc ((i : Int) - 1)) (acc ++ (l.take i).reverse)
  | 0, acc, hi, ha => by
    refine Ev.step (fun k => by rw [spec_l2Back.l0]) ?_
    exact Ev.neg (by omega) (Ev.val (by simp))
  | i + 1, acc, hi, ha => by
    have e : ((i + 1 : Nat) : Int) - 1 = (i : Int) := by omega
    have e2 : wrap64 ((i : Int) - 1) = (i : Int) - 1 := w64 (by omega)
    simp only [e]
    refine Ev.step (fun k => by rw [spec_l2Back.l0]) ?_
    simp only [e2, rd_nat]
    refine Ev.pos (by omega) (Ev.pos (by omega) (Ev.pos (by omega) (Ev.pos (by omega) ?_)))
    refine (l2Back_l l hn i (acc ++ [nth l i]) (by omega) (by simp; omega)).to ?_
    rw [take_step l i (by omega)]
    simp
theorem l2Back_ev (l : List Int) (hn : l.length ≤ 17592186044415) : Ev (fun k => spec_l2Back.f k l) l.reverse := by
  unfold spec_l2Back.f
  have e : wrap64 ((l.length : Int) - 1) = (l.length : Int) - 1 := w64 (by omega)
  simp only [e]
  refine (l2Back_l l hn l.length [] (Nat.le_refl _) (by simp)).to ?_
  simp

theorem nth_right (A B : List Int) (i : Nat) (h : A.length ≤ i) : nth (A ++ B) i = nth B (i - A.length) := by
  simp [nth, List.getD_eq_getElem?_getD, List.getElem?_append_right h]
theorem Reverse_l : ∀ (n : Nat) (A M B : List Int), M.length = n → (A ++ (M ++ B)).length ≤ 17592186044415 → Ev (fun k => slices_Reverse_int_int.l0 k (A ++ (M ++ B)) (A.length : Int) ((A.length : Int) + (M.length : Int) - 1)) (A ++ (M.reverse ++ B)) := by
  intro n
  induction n using Nat.strongRecOn with
  | _ n ih =>
    intro A M B hM hn
    by_cases h2 : n < 2
    · refine Ev.step (fun k => by rw [slices_Reverse_int_int.l0]) ?_
      refine Ev.neg (by omega) (Ev.val ?_)
      have : M = [] ∨ ∃ a, M = [a] := by
        rcases M with _ | ⟨a, _ | ⟨b, M⟩⟩
        · exact .inl rfl
        · exact .inr ⟨a, rfl⟩
        · simp at hM; omega
      rcases this with rfl | ⟨a, rfl⟩ <;> simp
    · obtain ⟨a, M', b, rfl⟩ : ∃ a M' b, M = a :: (M' ++ [b]) := by
        rcases M with _ | ⟨a, M⟩
        · simp at hM; omega
        · rcases List.eq_nil_or_concat M with rfl | ⟨M', b, rfl⟩
          · simp at hM; omega
          · exact ⟨a, M', b, by simp⟩
      have hl : M'.length + 2 = n := by simp at hM; omega
      have hn' : A.length + (M'.length + 2 + B.length) ≤ 17592186044415 := by simp at hn; omega
      refine Ev.step (fun k => by rw [slices_Reverse_int_int.l0]) ?_
      have e1 : (A.length : Int) + ((a :: (M' ++ [b])).length : Int) - 1 = ((A.length + 1 + M'.length : Nat) : Int) := by simp; omega
      have e2 : wrap64 ((A.length : Int) + 1) = ((A.length + 1 : Nat) : Int) := by rw [w64 (by omega)]; omega
      have e3 : wrap64 (((A.length + 1 + M'.length : Nat) : Int) - 1) = ((A.length + M'.length : Nat) : Int) := by rw [w64 (by omega)]; omega
      have g1 : nth (A ++ (a :: (M' ++ [b]) ++ B)) (A.length + 1 + M'.length) = b := by
        have : A ++ (a :: (M' ++ [b]) ++ B) = (A ++ a :: M') ++ (b :: B) := by simp
        rw [this, nth_right _ _ _ (by simp; omega)]
        have : A.length + 1 + M'.length - (A ++ a :: M').length = 0 := by simp; omega
        rw [this]; rfl
      have g2 : nth (A ++ (a :: (M' ++ [b]) ++ B)) A.length = a := by
        rw [nth_right _ _ _ (Nat.le_refl _)]
        simp [nth]
      have g3 : ((A ++ (a :: (M' ++ [b]) ++ B)).set A.length b).set (A.length + 1 + M'.length) a = (A ++ [b]) ++ (M' ++ (a :: B)) := by
        have h1 : (A ++ (a :: (M' ++ [b]) ++ B)).set A.length b = (A ++ b :: M') ++ (b :: B) := by
          rw [List.set_append_right _ _ (Nat.le_refl _)]; simp
        rw [h1, List.set_append_right _ _ (by simp; omega)]
        have : A.length + 1 + M'.length - (A ++ b :: M').length = 0 := by simp; omega
        rw [this]; simp
      simp only [e1, e2, e3, rd_nat, Int.toNat_natCast, g1, g2, g3]
      have hlen : (A ++ (a :: (M' ++ [b]) ++ B)).length = A.length + (M'.length + 2 + B.length) := by simp; omega
      refine Ev.pos (by omega) (Ev.pos (by omega) (Ev.pos (by rw [hlen]; omega) (Ev.pos (by omega) (Ev.pos (by rw [hlen]; omega) ?_))))
      have := ih M'.length (by omega) (A ++ [b]) M' (a :: B) rfl (by simp; omega)
      have e4 : ((A ++ [b]).length : Int) + (M'.length : Int) - 1 = ((A.length + M'.length : Nat) : Int) := by simp; omega
      have e5 : ((A ++ [b]).length : Int) = ((A.length + 1 : Nat) : Int) := by simp
      rw [e4, e5] at this
      refine this.to ?_
      simp
theorem Reverse_ev (l : List Int) (hn : l.length ≤ 17592186044415) : Ev (fun k => slices_Reverse_int_int.f k l) l.reverse := by
  unfold slices_Reverse_int_int.f
  have e : wrap64 ((l.length : Int) - 1) = (([] : List Int).length : Int) + (l.length : Int) - 1 := by rw [w64 (by omega)]; simp
  have := Reverse_l l.length [] l [] rfl (by simpa using hn)
  simp only [e]
  simpa using this
theorem back_ev (l : List Int) (hn : l.length ≤ 17592186044415) : Ev (fun k => impl_back.f k l) l.reverse := by
  unfold impl_back.f
  refine Ev.bind (a := l) ?_ (Ev.bind (Reverse_ev l hn) (Ev.val rfl))
  unfold slices_Clone_int_int.f
  exact Ev.pos (by omega) (Ev.val rfl)

/-! what comes out by cuts -/
def runL : List Int → List Int → List Int
  | _, [] => []
  | l, c :: cs => (l.take c.toNat).reverse ++ runL (l.drop c.toNat) cs
theorem runL_length : ∀ (cs l : List Int), (runL l cs).length ≤ l.length
  | [], l => by simp [runL]
  | c :: cs, l => by
    have := runL_length cs (l.drop c.toNat)
    simp [runL] at this ⊢
    omega
theorem l6Run_l (l cs : List Int) (hn : l.length ≤ 17592186044415) (hc : cs.length ≤ 17592186044415) : ∀ (d i f : Nat) (acc : List Int), cs.length = i + d → f ≤ l.length → acc.length = f → cutsOk ((l.length - f : Nat) : Int) (cs.drop i) = true → Ev (fun k => spec_l6Run.l0 k l cs acc f i) (acc ++ runL (l.drop f) (cs.drop i))
  | 0, i, f, acc, h, hf, ha, ho => by
    refine Ev.step (fun k => by rw [spec_l6Run.l0]) ?_
    refine Ev.neg (by omega) (Ev.val ?_)
    rw [List.drop_of_length_le (by omega : cs.length ≤ i)]
    simp [runL]
  | d + 1, i, f, acc, h, hf, ha, ho => by
    refine Ev.step (fun k => by rw [spec_l6Run.l0]) ?_
    rw [drop_step cs i (by omega)] at ho ⊢
    simp only [cutsOk, Bool.and_eq_true, decide_eq_true_eq] at ho
    obtain ⟨m, hm⟩ : ∃ m : Nat, nth cs i = m := ⟨(nth cs i).toNat, by omega⟩
    rw [hm] at ho ⊢
    have e : wrap64 ((i : Int) + 1) = ((i + 1 : Nat) : Int) := by rw [w64 (by omega)]; omega
    have e2 : wrap64 ((f : Int) + (m : Int)) = ((f + m : Nat) : Int) := by rw [w64 (by omega)]; omega
    simp only [rd_nat, hm, e, e2, Int.toNat_natCast]
    clear e e2
    refine Ev.pos (by omega) (Ev.pos (by omega) (Ev.pos (by omega) (Ev.pos (by omega) (Ev.pos (by omega) ?_))))
    have hd : (l.take (f + m)).drop f = (l.drop f).take m := by rw [List.drop_take]; congr 1; omega
    rw [hd]
    refine Ev.bind (l2Back_ev _ (by simp; omega)) (Ev.pos (by simp; omega) ?_)
    refine (l6Run_l l cs hn hc d (i + 1) (f + m) _ (by omega) (by omega) (by simp; omega) ?_).to ?_
    · have : ((l.length - (f + m) : Nat) : Int) = ((l.length - f : Nat) : Int) - (m : Int) := by omega
      rw [this]
      exact ho.2.2
    · simp [runL, List.drop_drop]
theorem l6Run_ev (l cs : List Int) (hn : l.length ≤ 17592186044415) (ho : isCuts (l.length : Int) cs = true) : Ev (fun k => spec_l6Run.f k l cs) (runL l cs) := by
  simp only [isCuts, Bool.and_eq_true, decide_eq_true_eq] at ho
  have := cutsOk_len _ _ ho.2
  unfold spec_l6Run.f
  exact l6Run_l l cs hn (by omega) cs.length 0 0 [] (by omega) (by omega) rfl ho.2
theorem runCuts_l (cs : List Int) (hc : cs.length ≤ 17592186044415) : ∀ (d i : Nat) (l acc : List Int), cs.length = i + d → l.length + acc.length ≤ 17592186044415 → cutsOk (l.length : Int) (cs.drop i) = true → Ev (fun k => impl_runCuts.l0 k l acc cs (cs.length : Int) i) (acc ++ runL l (cs.drop i))
  | 0, i, l, acc, h, hn, ho => by
    refine Ev.step (fun k => by rw [impl_runCuts.l0]) ?_
    refine Ev.neg (by omega) (Ev.val ?_)
    rw [List.drop_of_length_le (by omega : cs.length ≤ i)]
    simp [runL]
  | d + 1, i, l, acc, h, hn, ho => by
    refine Ev.step (fun k => by rw [impl_runCuts.l0]) ?_
    rw [drop_step cs i (by omega)] at ho ⊢
    simp only [cutsOk, Bool.and_eq_true, decide_eq_true_eq] at ho
    obtain ⟨m, hm⟩ : ∃ m : Nat, nth cs i = m := ⟨(nth cs i).toNat, by omega⟩
    rw [hm] at ho ⊢
    have e : wrap64 ((i : Int) + 1) = ((i + 1 : Nat) : Int) := by rw [w64 (by omega)]; omega
    simp only [rd_nat, hm, e, Int.toNat_natCast]
    clear e
    refine Ev.pos (by omega) (Ev.pos (by omega) (Ev.pos (by omega) (Ev.pos (by omega) (Ev.pos (by omega) ?_))))
    refine Ev.bind (back_ev _ (by simp; omega)) (Ev.pos (by simp; omega) ?_)
    refine (runCuts_l cs hc d (i + 1) (l.drop m) _ (by omega) (by simp; omega) ?_).to ?_
    · have : ((l.drop m).length : Int) = (l.length : Int) - (m : Int) := by simp; omega
      rw [this]
      exact ho.2.2
    · simp [runL]
theorem runCuts_ev (l cs : List Int) (hn : l.length ≤ 17592186044415) (ho : isCuts (l.length : Int) cs = true) : Ev (fun k => impl_runCuts.f k l cs) (runL l cs) := by
  simp only [isCuts, Bool.and_eq_true, decide_eq_true_eq] at ho
  have := cutsOk_len _ _ ho.2
  unfold impl_runCuts.f
  exact runCuts_l cs (by omega) cs.length 0 l [] (by omega) (by simpa using hn) ho.2

theorem cutsOk_of : ∀ (l : List Int) (n : Int), (∀ c ∈ l, 1 ≤ c) → l.sum = n → cutsOk n l = true ∧ 0 ≤ n
  | [], n, h, e => by simp at e; simp [cutsOk, ← e]
  | c :: cs, n, h, e => by
    have h1 := h c (by simp)
    rw [List.sum_cons] at e
    have h2 := cutsOk_of cs (n - c) (fun x hx => h x (by simp [hx])) (by omega)
    have h3 : c ≤ n := by omega
    exact ⟨by simp [cutsOk, h1, h3, h2.1], by omega⟩
theorem fallsL_cuts (l : List Int) : ∀ (d i : Nat) (acc : List Int), i + d ≤ 1000 → (0 < i → 0 < acc.length) → (∀ c ∈ acc, 1 ≤ c ∧ c ≤ i) → acc.sum = i → (∀ c ∈ fallsL l d i acc, 1 ≤ c) ∧ (fallsL l d i acc).sum = ((i + d : Nat) : Int)
  | 0, i, acc, hn, hp, ha, hs => ⟨fun c hc => (ha c hc).1, by simpa [fallsL] using hs⟩
  | d + 1, i, acc, hn, hp, ha, hs => by
    rw [fallsL]
    split
    · rename_i hi
      have hp := hp hi.1
      rcases List.eq_nil_or_concat acc with rfl | ⟨A, v, rfl⟩
      · simp at hp
      · rw [List.concat_eq_append] at *
        have hv := ha v (by simp)
        have e1 : nth (A ++ [v]) ((A ++ [v]).length - 1) = v := by simp [nth]
        have e2 : wrap64 (v + 1) = v + 1 := w64 (by omega)
        rw [e1, e2, snoc_last]
        have := fallsL_cuts l d (i + 1) (A ++ [v + 1]) (by omega) (fun _ => by simp) (fun c hc => by
          rw [List.mem_append] at hc
          rcases hc with hc | hc
          · have := ha c (by simp [hc]); omega
          · simp at hc; omega) (by simp at hs ⊢; omega)
        refine ⟨this.1, this.2.trans ?_⟩
        omega
    · have := fallsL_cuts l d (i + 1) (acc ++ [1]) (by omega) (fun _ => by simp) (fun c hc => by
        rw [List.mem_append] at hc
        rcases hc with hc | hc
        · have := ha c hc; omega
        · simp at hc; omega) (by simp; omega)
      refine ⟨this.1, this.2.trans ?_⟩
      omega
theorem fallsOf_cuts {l : List Int} (h : isOrd l = true) : isCuts (l.length : Int) (fallsOf l) = true := by
  have hl := isOrd_len h
  have := fallsL_cuts l l.length 0 [] (by omega) (fun h => by omega) (fun c hc => by simp at hc) (by simp)
  have h2 := cutsOk_of (fallsOf l) (l.length : Int) this.1 (by rw [fallsOf, this.2]; omega)
  simp only [isCuts, Bool.and_eq_true, decide_eq_true_eq]
  exact ⟨by omega, h2.1⟩
theorem l6Sweep_ev {l : List Int} (h : isOrd l = true) : Ev (fun k => spec_l6Sweep.f k l) (runL l (fallsOf l)) := by
  have := isOrd_len h
  unfold spec_l6Sweep.f
  exact Ev.bind (l6Falls_ev l (by omega)) (Ev.bind (l6Run_ev l _ (by omega) (fallsOf_cuts h)) (Ev.val rfl))
theorem fallSweep_ev {l : List Int} (h : isOrd l = true) : Ev (fun k => impl_fallSweep.f k l) (runL l (fallsOf l)) := by
  have := isOrd_len h
  unfold impl_fallSweep.f
  exact Ev.bind (fallsOf_ev l h) (Ev.bind (runCuts_ev l _ (by omega) (fallsOf_cuts h)) (Ev.val rfl))

def sweptTo (l t : List Int) : Bool := decide (runL t (fallsOf t) = l)
theorem specFS_l (l : List Int) (h1 : 1 ≤ l.length) (h7 : l.length ≤ 7) :
    ∀ (d i : Nat) (acc : List (List Int)), (ordsM l.length).length = i + d → acc.length ≤ i → Ev (fun k => spec_FallSweptFrom.l0 k l acc (ordsM l.length) (i : Int)) (acc ++ ((ordsM l.length).drop i).filter (sweptTo l), true)
  | 0, i, acc, h, ha => by
    refine Ev.step (fun k => by rw [spec_FallSweptFrom.l0]) ?_
    refine Ev.neg (by omega) (Ev.val ?_)
    rw [List.drop_of_length_le (by omega)]; simp
  | d + 1, i, acc, h, ha => by
    have hlen := facN_le l.length
    have hol := ordsM_length l.length
    have hi : i < (ordsM l.length).length := by omega
    have hxo := ordsM_ord l.length h1 h7 _ (getD_memK hi)
    rw [drop_stepK _ i hi]
    refine Ev.step (fun k => by rw [spec_FallSweptFrom.l0]) ?_
    simp only [wup i (by omega), rd_L1_natK]
    generalize (ordsM l.length).getD i [] = x at hxo ⊢
    have hxl := isOrd_len hxo
    have hrl := runL_length (fallsOf x) x
    refine Ev.pos (by omega) (Ev.pos (by omega) (Ev.bind (l6Sweep_ev hxo) (Ev.bind (l1Same_ev _ _ (by omega)) ?_)))
    rw [List.filter_cons]
    refine Ev.ite (fun hc => ?_) (fun hc => ?_)
    · have hc' : sweptTo l x = true := hc
      rw [if_pos hc']
      refine Ev.pos (by omega) (Ev.to (specFS_l l h1 h7 d (i + 1) (acc ++ [x]) (by omega) (by rw [List.length_append, List.length_singleton]; omega)) ?_)
      rw [List.append_assoc]; rfl
    · have hc' : ¬ sweptTo l x = true := hc
      rw [if_neg hc']
      exact specFS_l l h1 h7 d (i + 1) acc (by omega) (by omega)
theorem bothFallSweptFrom (l : List Int) (hn : l.length ≤ 17592186044415) : ∃ (R : List (List Int)) (b : Bool), R.length ≤ 100000 ∧ (∀ r ∈ R, r.length ≤ 1000) ∧ Ev (fun k => spec_FallSweptFrom.f k l) (R, b) ∧ Ev (fun k => impl_FallSweptFrom.f k l) (R, b) := by
  unfold spec_FallSweptFrom.f impl_FallSweptFrom.f
  by_cases hc : isOrd l = true
  · have hl := isOrd_len hc
    have hlen := facN_le l.length
    have hol := ordsM_length l.length
    have hfl := List.length_filter_le (sweptTo l) (ordsM l.length)
    refine ⟨(ordsM l.length).filter (sweptTo l), true, by omega, fun r hr => by have := ordsM_len _ r (List.mem_filter.1 hr).1; omega, ?_, ?_⟩
    · refine Ev.bind (Ev.now _) (Ev.bind (l2Order_ev l (by omega)) (Ev.pos hc (Ev.bind (l2Orders_ev l.length hl.2) ?_)))
      exact Ev.to (specFS_l l hl.1 hl.2 (ordsM l.length).length 0 [] (by omega) (by simp)) (by simp)
    · refine Ev.bind (isOrder_ev l (by omega)) (Ev.pos hc ?_)
      refine Ev.bind (allOrders_ev l.length hl.2) (Ev.bind (a := (ordsM l.length).filter (sweptTo l)) ?_ (Ev.val rfl))
      refine Ev.to (keepO_ev (fun k x => impl_FallSweptFrom_1.f k x l) (fun x => !sweptTo l x) _ fun x hx => ?_) (by simp)
      have hxo := ordsM_ord l.length hl.1 hl.2 x hx
      have hxl := isOrd_len hxo
      have hrl := runL_length (fallsOf x) x
      unfold impl_FallSweptFrom_1.f
      exact Ev.bind (fallSweep_ev hxo) (Ev.bind (Equal_ev _ _ (by omega)) (Ev.val rfl))
  · refine ⟨[], false, by simp, by simp, ?_, ?_⟩
    · exact Ev.bind (Ev.now _) (Ev.bind (l2Order_ev l (by omega)) (Ev.neg hc (Ev.val rfl)))
    · exact Ev.bind (isOrder_ev l (by omega)) (Ev.neg hc (Ev.val rfl))

theorem FnExactFallSweptFrom : laws_FnExactFallSweptFrom.Pure := by
  intro l hm hr hw hn
  obtain ⟨R, b, hR, hrow, h1, h2⟩ := bothFallSweptFrom l (by omega)
  obtain ⟨K1, g1⟩ := Ev.both h1 h2
  obtain ⟨K2, g2⟩ := Ev.both (toIntS_ev l (by omega)) (eqIntS_ev l l (by omega))
  obtain ⟨K3, g3⟩ := Ev.both (eqIntSS_ev R hR hrow) (markIntS_ev l 1 (by omega) (by omega) (by omega))
  obtain ⟨K4, g4⟩ := Ev.both (markSS_ev R hR hrow) (heldSS_ev R hR hrow)
  have e1 := g1 (K1 + K2 + K3 + K4) (by omega)
  have e2 := g2 (K1 + K2 + K3 + K4) (by omega)
  have e3 := g3 (K1 + K2 + K3 + K4) (by omega)
  have e4 := g4 (K1 + K2 + K3 + K4) (by omega)
  refine ⟨K1 + K2 + K3 + K4, R, b, _, _, _, _, ⟨e2.1, e1.1, e1.2, e3.1, by have := e2.2; simpa using this, e3.2, by omega, e4.1, e4.2, by omega⟩⟩

end Go.Proofs.Ytgmhehgjmlokdaa.Pure
