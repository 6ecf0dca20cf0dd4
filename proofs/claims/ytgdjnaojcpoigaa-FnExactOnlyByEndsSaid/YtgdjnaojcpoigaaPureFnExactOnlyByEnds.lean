/- The program's OnlyByEnds returns what the reference's returns, for every list. -/
import Derived.Test.YtgdjnaojcpoigaaPFnExactOnlyByEndsx11
import Derived.Test.YtgdjnaojcpoigaaK
set_option linter.unusedVariables false
set_option linter.unusedSimpArgs false
namespace Go.Proofs.Ytgdjnaojcpoigaa.Pure
open Go.RowKit Go.Proofs.Ytgdjnaojcpoigaa.PFnExactOnlyByEnds Go.Proofs.YtgdjnaojcpoigaaW.PrintWords Go.Proofs.YtgdjnaojcpoigaaW.PrintLast Go.Proofs.YtgdjnaojcpoigaaW.PrintMore

theorem toIntS_l (x0 : List Int) (hn : x0.length ≤ 17592186044416) : ∀ (d i : Nat) (x3 : List Int), x3.length = x0.length → x3.take i = x0.take i → x0.length = i + d → Ev (fun k => laws_toIntS.l0 k x0 x3 i) x0
  | 0, i, x3, h1, h2, h3 => by
    refine Ev.step (fun k => by rw [laws_toIntS.l0]) ?_
    refine Ev.neg (by omega) (Ev.val ?_)
    rw [List.take_of_length_le (by omega), List.take_of_length_le (by omega)] at h2
    exact h2
  | d + 1, i, x3, h1, h2, h3 => by
    refine Ev.step (fun k => by rw [laws_toIntS.l0]) ?_
    refine Ev.pos (by omega) (Ev.pos (by omega) (Ev.pos (by omega) ?_))
    have e : wrap64 ((i : Int) + 1) = ((i + 1 : Nat) : Int) := by rw [w64 (by omega)]; omega
    simp only [e, Int.toNat_natCast]
    exact toIntS_l x0 hn d (i + 1) _ (by simpa using h1) (by rw [take_set_succ _ _ _ (by omega), h2, take_step _ _ (by omega), rd_nat]) (by omega)
theorem toIntS_ev (l : List Int) (hn : l.length ≤ 17592186044416) : Ev (fun k => laws_toIntS.f k l) l := by
  unfold laws_toIntS.f
  refine Ev.pos (by omega) (Ev.pos (by omega) ?_)
  exact toIntS_l l hn l.length 0 _ (by simp) (by simp) (by omega)

theorem eqIntS_l (a b : List Int) (hn : a.length ≤ 17592186044416) (hl : a.length = b.length) : ∀ (d i : Nat), a.length = i + d → Ev (fun k => laws_eqIntS.l0 k a b i) (decide (a.drop i = b.drop i))
  | 0, i, h => by
    refine Ev.step (fun k => by rw [laws_eqIntS.l0]) ?_
    refine Ev.neg (by omega) (Ev.val ?_)
    rw [List.drop_of_length_le (by omega), List.drop_of_length_le (by omega)]
    simp
  | d + 1, i, h => by
    refine Ev.step (fun k => by rw [laws_eqIntS.l0]) ?_
    refine Ev.pos (by omega) (Ev.pos (by omega) (Ev.pos (by omega) ?_))
    have e : wrap64 ((i : Int) + 1) = ((i + 1 : Nat) : Int) := by rw [w64 (by omega)]; omega
    simp only [e]
    rw [drop_step a i (by omega), drop_step b i (by omega)]
    refine Ev.ite (fun hc => ?_) (fun hc => Ev.val ?_)
    · have hc' : nth a i = nth b i := hc
      refine (eqIntS_l a b hn hl d (i + 1) (by omega)).to ?_
      rw [hc']
      simp
    · have hc' : ¬ nth a i = nth b i := hc
      simp [hc']
theorem eqIntS_ev (a b : List Int) (hn : a.length ≤ 17592186044416) : Ev (fun k => laws_eqIntS.f k a b) (decide (a = b)) := by
  unfold laws_eqIntS.f
  refine Ev.ite (fun hc => ?_) (fun hc => Ev.val ?_)
  · exact (eqIntS_l a b hn (by omega) a.length 0 (by omega)).to (by simp)
  · have : ¬ a = b := fun h => hc (by rw [h])
    simp [this]

theorem l1In_is (a b c : Int) : spec_l1In.f a b c = some (decide (b ≤ a ∧ a ≤ c)) := by
  unfold spec_l1In.f
  by_cases h : a ≥ b
  · rw [if_pos h]; simp [h]
  · rw [if_neg h]; simp; omega

theorem l1Has_l (l : List Int) (x : Int) (hn : l.length ≤ 17592186044416) : ∀ (d i : Nat), l.length = i + d → Ev (fun k => spec_l1Has.l0 k l x i) ((l.drop i).contains x)
  | 0, i, h => by
    refine Ev.step (fun k => by rw [spec_l1Has.l0]) ?_
    refine Ev.neg (by omega) (Ev.val ?_)
    rw [List.drop_of_length_le (by omega)]
    simp
  | d + 1, i, h => by
    refine Ev.step (fun k => by rw [spec_l1Has.l0]) ?_
    have e : wrap64 ((i : Int) + 1) = ((i + 1 : Nat) : Int) := by rw [w64 (by omega)]; omega
    simp only [e]
    rw [drop_step l i (by omega)]
    refine Ev.pos (by omega) (Ev.pos (by omega) (Ev.ite (fun hc => Ev.val ?_) (fun hc => ?_)))
    · have hc' : nth l i = x := hc
      rw [hc']; simp
    · have hc' : ¬ nth l i = x := hc
      refine (l1Has_l l x hn d (i + 1) (by omega)).to ?_
      have : ¬ x = nth l i := fun h => hc' h.symm
      rw [List.contains_cons]
      simp [this]
theorem l1Has_ev (l : List Int) (x : Int) (hn : l.length ≤ 17592186044416) : Ev (fun k => spec_l1Has.f k l x) (l.contains x) := by
  unfold spec_l1Has.f
  exact (l1Has_l l x hn l.length 0 (by omega)).to (by simp)

theorem l2Order_l (l : List Int) (hn : l.length ≤ 17592186044416) : ∀ (d i : Nat), l.length = i + d → Ev (fun k => spec_l2Order.l0 k l i) (allFrom (ordAt l) d i)
  | 0, i, h => by
    refine Ev.step (fun k => by rw [spec_l2Order.l0]) ?_
    exact Ev.neg (by omega) (Ev.val rfl)
  | d + 1, i, h => by
    refine Ev.step (fun k => by rw [spec_l2Order.l0]) ?_
    have e : wrap64 ((i : Int) + 1) = ((i + 1 : Nat) : Int) := by rw [w64 (by omega)]; omega
    simp only [e, l1In_is, Option.bind_some, rd_nat, Int.toNat_natCast, decide_eq_true_eq]
    refine Ev.pos (by omega) (Ev.pos (by omega) (Ev.ite (fun hc => Ev.pos (by omega) ?_) (fun hc => Ev.val ?_)))
    · refine Ev.bind (l1Has_ev _ _ (by simp; omega)) ?_
      refine Ev.ite (fun hb => Ev.val ?_) (fun hb => (l2Order_l l hn d (i + 1) (by omega)).to ?_)
      · rw [allFrom, ordAt, hb]; simp
      · rw [Bool.not_eq_true] at hb
        rw [allFrom, ordAt, hb]; simp [hc]
    · rw [allFrom, ordAt]
      by_cases h1 : 1 ≤ nth l i
      · have : ¬ nth l i ≤ l.length := fun h2 => hc ⟨h1, h2⟩
        simp [this]
      · simp [h1]
theorem l2Order_ev (l : List Int) (hn : l.length ≤ 17592186044416) : Ev (fun k => spec_l2Order.f k l) (isOrd l) := by
  unfold spec_l2Order.f
  simp only [l1In_is, Option.bind_some, decide_eq_true_eq]
  refine Ev.ite (fun hc => (l2Order_l l hn l.length 0 (by omega)).to ?_) (fun hc => Ev.val ?_)
  · have h1 : 1 ≤ l.length := by omega
    have h2 : l.length ≤ 7 := by omega
    simp [isOrd, h1, h2]
  · rw [isOrd]
    by_cases h1 : 1 ≤ l.length
    · have : ¬ l.length ≤ 7 := by omega
      simp [this]
    · simp [h1]

theorem Index_l (l : List Int) (x : Int) (hn : l.length ≤ 17592186044416) : ∀ (d i : Nat), l.length = i + d → (∀ j, j < i → nth l j ≠ x) → Ev (fun k => slices_Index_int_int.l0 k l x (l.length : Int) i) (idx l x)
  | 0, i, h, hq => by
    refine Ev.step (fun k => by rw [slices_Index_int_int.l0]) ?_
    refine Ev.neg (by omega) (Ev.val ?_)
    exact (idx_none l x fun j hj => hq j (by omega)).symm
  | d + 1, i, h, hq => by
    refine Ev.step (fun k => by rw [slices_Index_int_int.l0]) ?_
    have e : wrap64 ((i : Int) + 1) = ((i + 1 : Nat) : Int) := by rw [w64 (by omega)]; omega
    simp only [e]
    refine Ev.pos (by omega) (Ev.pos (by omega) (Ev.pos (by omega) (Ev.ite (fun hc => Ev.val ?_) (fun hc => ?_))))
    · exact (idx_some l x i (by omega) (by rw [hc]; rfl) hq).symm
    · refine Index_l l x hn d (i + 1) (by omega) (fun j hj => ?_)
      by_cases e : j = i
      · subst e; exact fun h => hc h.symm
      · exact hq j (by omega)
theorem Index_ev (l : List Int) (x : Int) (hn : l.length ≤ 17592186044416) : Ev (fun k => slices_Index_int_int.f k l x) (idx l x) := by
  unfold slices_Index_int_int.f
  exact Index_l l x hn l.length 0 (by omega) (fun j hj => by omega)

theorem Contains_ev (l : List Int) (x : Int) (hn : l.length ≤ 17592186044416) : Ev (fun k => slices_Contains_int_int.f k l x) (l.contains x) := by
  unfold slices_Contains_int_int.f
  exact Ev.bind (Index_ev l x hn) (Ev.val (idx_contains l x))

theorem isOrder_l (l : List Int) (hn : l.length ≤ 17592186044416) : ∀ (d i : Nat), l.length = i + d → Ev (fun k => impl_isOrder.l0 k l l (l.length : Int) i) (allFrom (ordAt l) d i)
  | 0, i, h => by
    refine Ev.step (fun k => by rw [impl_isOrder.l0]) ?_
    exact Ev.neg (by omega) (Ev.val rfl)
  | d + 1, i, h => by
    refine Ev.step (fun k => by rw [impl_isOrder.l0]) ?_
    have e : wrap64 ((i : Int) + 1) = ((i + 1 : Nat) : Int) := by rw [w64 (by omega)]; omega
    simp only [e, rd_nat, Int.toNat_natCast]
    refine Ev.pos (by omega) (Ev.pos (by omega) (Ev.pos (by omega) (Ev.ite (fun hc => Ev.val ?_) (fun hc => Ev.ite (fun hd => Ev.val ?_) (fun hd => Ev.pos (by omega) ?_)))))
    · have : ¬ 1 ≤ nth l i := by omega
      rw [allFrom, ordAt]; simp [this]
    · have : ¬ nth l i ≤ l.length := by omega
      rw [allFrom, ordAt]; simp [this]
    · refine Ev.bind (Contains_ev _ _ (by simp; omega)) ?_
      refine Ev.ite (fun hb => Ev.val ?_) (fun hb => (isOrder_l l hn d (i + 1) (by omega)).to ?_)
      · rw [allFrom, ordAt, hb]; simp
      · rw [Bool.not_eq_true] at hb
        have h1 : 1 ≤ nth l i := by omega
        have h2 : nth l i ≤ l.length := by omega
        rw [allFrom, ordAt, hb]; simp [h1, h2]
theorem isOrder_ev (l : List Int) (hn : l.length ≤ 17592186044416) : Ev (fun k => impl_isOrder.f k l) (isOrd l) := by
  unfold impl_isOrder.f
  refine Ev.ite (fun hc => ?_) (fun hc => ?_)
  · refine Ev.step (fun k => by rw [impl_isOrder.j0]) ?_
    refine Ev.pos rfl (Ev.val ?_)
    have : ¬ 1 ≤ l.length := by omega
    simp [isOrd, this]
  · refine Ev.step (fun k => by rw [impl_isOrder.j0]) ?_
    simp only [decide_eq_true_eq]
    refine Ev.ite (fun hd => Ev.val ?_) (fun hd => (isOrder_l l hn l.length 0 (by omega)).to ?_)
    · have : ¬ l.length ≤ 7 := by omega
      simp [isOrd, this]
    · have h1 : 1 ≤ l.length := by omega
      have h2 : l.length ≤ 7 := by omega
      simp [isOrd, h1, h2]

/-! how many orders; all orders -/
def facN (n : Nat) : Nat := [1, 1, 2, 6, 24, 120, 720, 5040].getD n 1
theorem facN_pos (n : Nat) : 0 < facN n := by
  rcases Nat.lt_or_ge n 8 with h | h
  · have : n = 0 ∨ n = 1 ∨ n = 2 ∨ n = 3 ∨ n = 4 ∨ n = 5 ∨ n = 6 ∨ n = 7 := by omega
    rcases this with rfl | rfl | rfl | rfl | rfl | rfl | rfl | rfl <;> decide
  · unfold facN
    rw [List.getD_eq_getElem?_getD, List.getElem?_eq_none (by simpa using h)]
    decide
theorem facN_le (n : Nat) : facN n ≤ 5040 := by
  rcases Nat.lt_or_ge n 8 with h | h
  · have : n = 0 ∨ n = 1 ∨ n = 2 ∨ n = 3 ∨ n = 4 ∨ n = 5 ∨ n = 6 ∨ n = 7 := by omega
    rcases this with rfl | rfl | rfl | rfl | rfl | rfl | rfl | rfl <;> decide
  · unfold facN
    rw [List.getD_eq_getElem?_getD, List.getElem?_eq_none (by simpa using h)]
    decide
theorem facN_succ (n : Nat) (h : n ≤ 6) : facN (n + 1) = (n + 1) * facN n := by
  have : n = 0 ∨ n = 1 ∨ n = 2 ∨ n = 3 ∨ n = 4 ∨ n = 5 ∨ n = 6 := by omega
  rcases this with rfl | rfl | rfl | rfl | rfl | rfl | rfl <;> decide
def atM : Nat → List Int → Nat → List Int
  | 0, _, _ => []
  | d + 1, left, k => nth left (k / facN d) :: atM d (left.take (k / facN d) ++ left.drop (k / facN d + 1)) (k % facN d)
theorem atM_length : ∀ (d : Nat) (left : List Int) (k : Nat), (atM d left k).length = d
  | 0, _, _ => rfl
  | d + 1, left, k => by rw [atM, List.length_cons, atM_length d]
def ordsM (n : Nat) : List (List Int) := (List.range (facN n)).map fun k => atM n (marked 1 n) k
theorem ordsM_length (n : Nat) : (ordsM n).length = facN n := by simp [ordsM]
theorem ordsM_len (n : Nat) (l : List Int) (h : l ∈ ordsM n) : l.length = n := by
  obtain ⟨k, _, rfl⟩ := List.mem_map.1 h
  exact atM_length n _ k
theorem tdiv_nat (a b : Nat) : Int.tdiv (a : Int) (b : Int) = ((a / b : Nat) : Int) := (Int.ofNat_tdiv a b).symm
theorem tmod_nat (a b : Nat) : Int.tmod (a : Int) (b : Int) = ((a % b : Nat) : Int) := (Int.ofNat_tmod a b).symm
theorem div_lt_of (d k : Nat) (hd : d ≤ 6) (h : k < facN (d + 1)) : k / facN d < d + 1 := by
  rw [Nat.div_lt_iff_lt_mul (facN_pos d), ← facN_succ d hd]
  exact h

theorem l1Own_is (l : List Int) (h : l.length < 17592186044416) : spec_l1Own.f l = some l := by
  unfold spec_l1Own.f
  simp [h]

theorem l2Sorted_l (n : Nat) (hn : n ≤ 1000) : ∀ d i : Nat, n = i + d → Ev (fun k => spec_l2Sorted.l0 k n (marked 1 i) ((i : Int) + 1)) (marked 1 n)
  | 0, i, h => by
    refine Ev.step (fun k => by rw [spec_l2Sorted.l0]) (Ev.neg (by omega) (Ev.val ?_))
    rw [h, Nat.add_zero]
  | d + 1, i, h => by
    refine Ev.step (fun k => by rw [spec_l2Sorted.l0]) ?_
    have e : wrap64 ((i : Int) + 1 + 1) = ((i + 1 : Nat) : Int) + 1 := by rw [w64 (by omega)]; omega
    have e2 : marked 1 i ++ [(i : Int) + 1] = marked 1 (i + 1) := by rw [marked_snoc]; congr 2; omega
    simp only [e, e2]
    exact Ev.pos (by omega) (Ev.pos (by rw [marked_length]; omega) (l2Sorted_l n hn d (i + 1) (by omega)))
theorem l2Sorted_ev (n : Nat) (hn : n ≤ 1000) : Ev (fun k => spec_l2Sorted.f k n) (marked 1 n) := l2Sorted_l n hn n 0 (by omega)

theorem sorted_l (n : Nat) (hn : n ≤ 1000) : ∀ d i : Nat, n = i + d → Ev (fun k => impl_sorted.l0 k (marked 1 i) n i) (marked 1 n)
  | 0, i, h => by
    refine Ev.step (fun k => by rw [impl_sorted.l0]) (Ev.neg (by omega) (Ev.val ?_))
    rw [h, Nat.add_zero]
  | d + 1, i, h => by
    refine Ev.step (fun k => by rw [impl_sorted.l0]) ?_
    have e : wrap64 ((i : Int) + 1) = ((i + 1 : Nat) : Int) := by rw [w64 (by omega)]; omega
    have e2 : marked 1 i ++ [((i + 1 : Nat) : Int)] = marked 1 (i + 1) := by rw [marked_snoc]; congr 2; omega
    simp only [e, e2]
    exact Ev.pos (by omega) (Ev.pos (by rw [marked_length]; omega) (sorted_l n hn d (i + 1) (by omega)))
theorem sorted_ev (n : Nat) (hn : n ≤ 1000) : Ev (fun k => impl_sorted.f k n) (marked 1 n) := sorted_l n hn n 0 (by omega)

theorem l2Ways_ev (n : Nat) (h : n ≤ 7) : Ev (fun k => spec_l2Ways.f k (n : Int)) (facN n : Int) := by
  have : n = 0 ∨ n = 1 ∨ n = 2 ∨ n = 3 ∨ n = 4 ∨ n = 5 ∨ n = 6 ∨ n = 7 := by omega
  rcases this with rfl | rfl | rfl | rfl | rfl | rfl | rfl | rfl <;> exact Ev.of (fun k => spec_l2Ways.mono _ k) (k := 10) (by decide +kernel)
theorem l2At_l : ∀ (d : Nat) (left acc : List Int) (k : Nat), left.length = d → d ≤ 7 → acc.length + d ≤ 100 → k < facN d → Ev (fun q => spec_l2At.l0 q (k : Int) acc left) (acc ++ atM d left k)
  | 0, left, acc, k, hl, hd, ha, hk => by
    refine Ev.step (fun q => by rw [spec_l2At.l0]) (Ev.neg (by omega) (Ev.val ?_))
    rw [atM, List.append_nil]
  | d + 1, left, acc, k, hl, hd, ha, hk => by
    refine Ev.step (fun q => by rw [spec_l2At.l0]) (Ev.pos (by omega) ?_)
    have e1 : wrap64 ((left.length : Int) - 1) = (d : Int) := by rw [w64 (by omega)]; omega
    rw [e1]
    clear e1
    refine Ev.bind (l2Ways_ev d (by omega)) (Ev.neg (by have := facN_pos d; omega) ?_)
    have hq := div_lt_of d k (by omega) hk
    have h5 := facN_le (d + 1)
    have e2 : wrap64 (Int.tdiv (k : Int) (facN d : Int)) = ((k / facN d : Nat) : Int) := by rw [tdiv_nat]; exact w64n _ (by have := Nat.div_le_self k (facN d); omega)
    have hmod := Nat.mod_lt k (facN_pos d)
    simp only [e2, tmod_nat]
    rw [atM]
    clear e2 hk
    generalize k / facN d = qq at hq ⊢
    generalize k % facN d = k2 at hmod ⊢
    have e3 : wrap64 ((qq : Int) + 1) = ((qq + 1 : Nat) : Int) := by rw [w64 (by omega)]; omega
    simp only [e3, Int.toNat_natCast, rd_nat]
    clear e3
    refine Ev.pos (by omega) (Ev.pos (by omega) (Ev.pos (by omega) (Ev.pos (by omega) ?_)))
    have h1 : (left.take qq).length < 17592186044416 := by rw [List.length_take]; omega
    simp only [l1Own_is _ h1, Option.bind_some]
    refine Ev.pos (by omega) (Ev.pos (by omega) (Ev.pos (by rw [List.length_take, List.length_drop]; omega) ?_))
    refine Ev.to (l2At_l d _ _ k2 (by rw [List.length_append, List.length_take, List.length_drop]; omega) (by omega) (by rw [List.length_append, List.length_singleton]; omega) hmod) ?_
    rw [List.append_assoc]; rfl
theorem l2At_ev (n k : Nat) (hn : n ≤ 7) (hk : k < facN n) : Ev (fun q => spec_l2At.f q (n : Int) (k : Int)) (atM n (marked 1 n) k) := by
  unfold spec_l2At.f
  exact Ev.bind (l2Sorted_ev n (by omega)) (Ev.to (l2At_l n _ [] k (marked_length n 1) hn (by simp; omega) hk) (List.nil_append _))
theorem l2Orders_l (n : Nat) (hn : n ≤ 7) : ∀ (d i : Nat), facN n = i + d → Ev (fun q => spec_l2Orders.l0 q (n : Int) ((List.range i).map fun k => atM n (marked 1 n) k) (i : Int)) (ordsM n)
  | 0, i, h => by
    refine Ev.step (fun q => by rw [spec_l2Orders.l0]) ?_
    refine Ev.bind (l2Ways_ev n hn) ?_
    refine Ev.neg (by omega) (Ev.val ?_)
    rw [ordsM, h, Nat.add_zero]
  | d + 1, i, h => by
    have h5 := facN_le n
    refine Ev.step (fun q => by rw [spec_l2Orders.l0]) ?_
    refine Ev.bind (l2Ways_ev n hn) ?_
    refine Ev.pos (by omega) ?_
    refine Ev.bind (l2At_ev n i hn (by omega)) ?_
    refine Ev.pos (by rw [List.length_map, List.length_range]; omega) ?_
    have e : wrap64 ((i : Int) + 1) = ((i + 1 : Nat) : Int) := by rw [w64 (by omega)]; omega
    have e2 : ((List.range i).map fun k => atM n (marked 1 n) k) ++ [atM n (marked 1 n) i] = (List.range (i + 1)).map fun k => atM n (marked 1 n) k := by rw [List.range_succ, List.map_append]; rfl
    simp only [e, e2]
    exact l2Orders_l n hn d (i + 1) (by omega)
theorem l2Orders_ev (n : Nat) (hn : n ≤ 7) : Ev (fun q => spec_l2Orders.f q (n : Int)) (ordsM n) := by
  unfold spec_l2Orders.f
  exact l2Orders_l n hn (facN n) 0 (by omega)

theorem factorial_ev (n : Nat) (h : n ≤ 7) : Ev (fun k => impl_factorial.f k (n : Int)) (facN n : Int) := by
  have : n = 0 ∨ n = 1 ∨ n = 2 ∨ n = 3 ∨ n = 4 ∨ n = 5 ∨ n = 6 ∨ n = 7 := by omega
  rcases this with rfl | rfl | rfl | rfl | rfl | rfl | rfl | rfl <;> exact Ev.of (fun k => impl_factorial.mono _ k) (k := 10) (by decide +kernel)
theorem orderAt_l : ∀ (d : Nat) (left acc : List Int) (k : Nat), left.length = d → d ≤ 7 → acc.length + d ≤ 100 → k < facN d → Ev (fun q => impl_orderAt.l0 q (k : Int) left acc) (acc ++ atM d left k)
  | 0, left, acc, k, hl, hd, ha, hk => by
    refine Ev.step (fun q => by rw [impl_orderAt.l0]) (Ev.neg (by omega) (Ev.val ?_))
    rw [atM, List.append_nil]
  | d + 1, left, acc, k, hl, hd, ha, hk => by
    refine Ev.step (fun q => by rw [impl_orderAt.l0]) (Ev.pos (by omega) ?_)
    have e1 : wrap64 ((left.length : Int) - 1) = (d : Int) := by rw [w64 (by omega)]; omega
    rw [e1]
    clear e1
    refine Ev.bind (factorial_ev d (by omega)) (Ev.neg (by have := facN_pos d; omega) ?_)
    have hq := div_lt_of d k (by omega) hk
    have h5 := facN_le (d + 1)
    have e2 : wrap64 (Int.tdiv (k : Int) (facN d : Int)) = ((k / facN d : Nat) : Int) := by rw [tdiv_nat]; exact w64n _ (by have := Nat.div_le_self k (facN d); omega)
    have hmod := Nat.mod_lt k (facN_pos d)
    simp only [e2, tmod_nat]
    rw [atM]
    clear e2 hk
    generalize k / facN d = qq at hq ⊢
    generalize k % facN d = k2 at hmod ⊢
    have e3 : wrap64 ((qq : Int) + 1) = ((qq + 1 : Nat) : Int) := by rw [w64 (by omega)]; omega
    simp only [e3, rd_nat]
    clear e3
    have hdel : slices_Delete_int_int.f left (qq : Int) ((qq + 1 : Nat) : Int) = some (left.take qq ++ left.drop (qq + 1)) := by
      unfold slices_Delete_int_int.f
      rw [if_pos (by omega), Int.toNat_natCast, Int.toNat_natCast]
    refine Ev.pos (by omega) (Ev.pos (by omega) (Ev.pos (by omega) ?_))
    simp only [hdel, Option.bind_some]
    refine Ev.to (orderAt_l d _ _ k2 (by rw [List.length_append, List.length_take, List.length_drop]; omega) (by omega) (by rw [List.length_append, List.length_singleton]; omega) hmod) ?_
    rw [List.append_assoc]; rfl
theorem orderAt_ev (n k : Nat) (hn : n ≤ 7) (hk : k < facN n) : Ev (fun q => impl_orderAt.f q (n : Int) (k : Int)) (atM n (marked 1 n) k) := by
  unfold impl_orderAt.f
  exact Ev.bind (sorted_ev n (by omega)) (Ev.to (orderAt_l n _ [] k (marked_length n 1) hn (by simp; omega) hk) (List.nil_append _))
theorem allOrders_l (n : Nat) (hn : n ≤ 7) : ∀ (d i : Nat), facN n = i + d → Ev (fun q => impl_allOrders.l0 q (n : Int) ((List.range i).map fun k => atM n (marked 1 n) k) (facN n : Int) (i : Int)) (ordsM n)
  | 0, i, h => by
    refine Ev.step (fun q => by rw [impl_allOrders.l0]) (Ev.neg (by omega) (Ev.val ?_))
    rw [ordsM, h, Nat.add_zero]
  | d + 1, i, h => by
    have h5 := facN_le n
    refine Ev.step (fun q => by rw [impl_allOrders.l0]) ?_
    refine Ev.pos (by omega) ?_
    refine Ev.bind (orderAt_ev n i hn (by omega)) ?_
    refine Ev.pos (by rw [List.length_map, List.length_range]; omega) ?_
    have e : wrap64 ((i : Int) + 1) = ((i + 1 : Nat) : Int) := by rw [w64 (by omega)]; omega
    have e2 : ((List.range i).map fun k => atM n (marked 1 n) k) ++ [atM n (marked 1 n) i] = (List.range (i + 1)).map fun k => atM n (marked 1 n) k := by rw [List.range_succ, List.map_append]; rfl
    simp only [e, e2]
    exact allOrders_l n hn d (i + 1) (by omega)
theorem allOrders_ev (n : Nat) (hn : n ≤ 7) : Ev (fun q => impl_allOrders.f q (n : Int)) (ordsM n) := by
  unfold impl_allOrders.f
  exact Ev.bind (factorial_ev n hn) (allOrders_l n hn (facN n) 0 (by omega))

theorem keepO_ev (of_ : Nat → List Int → Option Bool) (p : List Int → Bool) : ∀ l : List (List Int), (∀ x ∈ l, Ev (fun k => of_ k x) (p x)) → Ev (fun k => keepO (of_ k) l) (l.filter fun x => !p x)
  | [], _ => Ev.val rfl
  | x :: l, h => by
    refine Ev.congr (fun k => by rw [keepO]) ?_
    refine Ev.bind (h x (by simp)) (Ev.bind (keepO_ev of_ p l fun y hy => h y (by simp [hy])) (Ev.val ?_))
    rw [List.filter_cons]
    cases p x <;> rfl
theorem drop_stepK (l : List (List Int)) (i : Nat) (h : i < l.length) : l.drop i = l.getD i [] :: l.drop (i + 1) := by
  rw [List.getD_eq_getElem?_getD, List.getElem?_eq_getElem h]; exact List.drop_eq_getElem_cons h
theorem getD_memK {xs : List (List Int)} {i : Nat} (h : i < xs.length) : xs.getD i [] ∈ xs := by
  rw [List.getD_eq_getElem?_getD, List.getElem?_eq_getElem h]; exact List.getElem_mem h
theorem rd_L1_natK (xs : List (List Int)) (i : Nat) : rd_L1 xs (i : Int) = xs.getD i [] := rfl

/-! ends words by which an order comes out of another: both sides go side by side -/
theorem str_snoc (out : List Int) (n : Int) : strOfNums (out ++ [n]) = strOfNums out ++ (⟨#[UInt8.ofNat n.toNat]⟩ : ByteArray) := by
  apply ByteArray.ext
  apply Array.ext'
  simp [strOfNums, ByteArray.data_append]
theorem str_T (out : List Int) : strOfNums (out ++ [84]) = strOfNums out ++ (⟨#[84]⟩ : ByteArray) := str_snoc out 84
theorem str_B (out : List Int) : strOfNums (out ++ [66]) = strOfNums out ++ (⟨#[66]⟩ : ByteArray) := str_snoc out 66
theorem str_I (out : List Int) : strOfNums (out ++ [73]) = strOfNums out ++ (⟨#[73]⟩ : ByteArray) := str_snoc out 73
/-- where both are, ahead of one more look -/
structure EndsAt (l s : List Int) (m i next : Nat) (there out : List Int) : Prop where
  hi : i < s.length
  hn : next ≤ l.length
  hm : (s.length - i) + (l.length - next) ≤ m
  ht : there.length ≤ next
  ho : out.length ≤ i + next
def Both1 (l s : List Int) (i next : Nat) (there out : List Int) : Prop := ∃ r : ByteArray × Bool, r.1.size ≤ 2000 ∧ Ev (fun k => spec_l8To.l1 k l s (strOfNums out) there (next : Int) (i : Int)) r ∧ Ev (fun k => impl_endsTo.l1 k (l.drop next) there out (nth s i) s (s.length : Int) (i : Int)) r
def Both0 (l s : List Int) (i next : Nat) (there out : List Int) : Prop := ∃ r : ByteArray × Bool, r.1.size ≤ 2000 ∧ Ev (fun k => spec_l8To.l0 k l s (strOfNums out) there (next : Int) (i : Int)) r ∧ Ev (fun k => impl_endsTo.l0 k (l.drop next) there out s (s.length : Int) (i : Int)) r
theorem both0_of {l s : List Int} {i next : Nat} {there out : List Int} (h : i < s.length → Both1 l s i next there out) (hi : i ≤ s.length) (hz : out.length ≤ 2000) : Both0 l s i next there out := by
  by_cases hc : i < s.length
  · obtain ⟨r, hr, h1, h2⟩ := h hc
    refine ⟨r, hr, ?_, ?_⟩
    · refine Ev.step (fun k => by rw [spec_l8To.l0]) ?_
      exact Ev.pos (by omega) h1
    · refine Ev.step (fun k => by rw [impl_endsTo.l0]) ?_
      exact Ev.pos (by omega) (Ev.pos (by omega) (Ev.pos (by omega) h2))
  · refine ⟨(strOfNums out, true), by rw [strOfNums_size]; exact hz, ?_, ?_⟩
    · refine Ev.step (fun k => by rw [spec_l8To.l0]) ?_
      exact Ev.neg (by omega) (Ev.val rfl)
    · refine Ev.step (fun k => by rw [impl_endsTo.l0]) ?_
      exact Ev.neg (by omega) (Ev.val rfl)
/-- behind the look at the bottom -/
theorem both_j3 {l s : List Int} (hl : l.length ≤ 1000) (hs : s.length ≤ 1000) {m i next : Nat} {there out : List Int} (h : EndsAt l s m i next there out) (b : Bool) (hb : b = true → 0 < there.length)
    (h0 : 0 < there.length → Both0 l s (i + 1) next (there.drop 1) (out ++ [66])) (h1 : next < l.length → Both1 l s i (next + 1) (there ++ [nth l next]) (out ++ [73])) :
    ∃ r : ByteArray × Bool, r.1.size ≤ 2000 ∧ Ev (fun k => spec_l8To.j3 k l s (strOfNums out) there (next : Int) (i : Int) b) r ∧ Ev (fun k => impl_endsTo.j3 k (l.drop next) there out (nth s i) s (s.length : Int) (i : Int) b) r := by
  obtain ⟨hi, hn, hm, ht, ho⟩ := h
  have hsz : (strOfNums out).size = out.length := strOfNums_size out
  cases b with
  | true =>
    have hp := hb rfl
    obtain ⟨r, hr, a1, a2⟩ := h0 hp
    rw [str_B] at a1
    refine ⟨r, hr, ?_, ?_⟩
    · refine Ev.step (fun k => by rw [spec_l8To.j3]) ?_
      simp only [wup i (by omega)]
      refine Ev.pos trivial (Ev.pos (by omega) ?_)
      simp only [l1Own_is (there.drop 1) (by rw [List.length_drop]; omega), Option.bind_some]
      exact Ev.pos (by omega) a1
    · refine Ev.step (fun k => by rw [impl_endsTo.j3]) ?_
      simp only [wup i (by omega), Option.bind_some]
      exact Ev.pos trivial (Ev.pos (by simp; omega) (Ev.pos (by omega) a2))
  | false =>
    by_cases hc : next = l.length
    · refine ⟨((⟨#[]⟩ : ByteArray), false), Nat.zero_le _, ?_, ?_⟩
      · refine Ev.step (fun k => by rw [spec_l8To.j3]) ?_
        exact Ev.neg (by simp) (Ev.pos (by omega) (Ev.val rfl))
      · refine Ev.step (fun k => by rw [impl_endsTo.j3]) ?_
        refine Ev.neg (by simp) ?_
        refine Ev.pos ?_ (Ev.val rfl)
        rw [List.length_drop]; omega
    · obtain ⟨r, hr, a1, a2⟩ := h1 (by omega)
      rw [str_I] at a1
      refine ⟨r, hr, ?_, ?_⟩
      · refine Ev.step (fun k => by rw [spec_l8To.j3]) ?_
        simp only [wup next (by omega), rd_nat]
        exact Ev.neg (by simp) (Ev.neg (by omega) (Ev.pos (by omega) (Ev.pos (by omega) (Ev.pos (by omega) (Ev.pos (by omega) a1)))))
      · refine Ev.step (fun k => by rw [impl_endsTo.j3]) ?_
        have e4 : rd (l.drop next) 0 = nth l next := by
          show nth (l.drop next) 0 = _
          unfold nth
          rw [List.getD_eq_getElem?_getD, List.getD_eq_getElem?_getD, List.getElem?_drop, Nat.add_zero]
        have e5 : (l.drop next).drop 1 = l.drop (next + 1) := by rw [List.drop_drop]
        simp only [e4, e5, Option.bind_some]
        clear e4 e5
        have e6 : (l.drop next).length = l.length - next := List.length_drop
        refine Ev.neg (by simp) ?_
        refine Ev.neg (by omega) ?_
        refine Ev.pos (by simp; omega) ?_
        refine Ev.pos (by omega) ?_
        refine Ev.pos (by simp; omega) ?_
        exact Ev.pos (by omega) a2
theorem both1 {l s : List Int} (hl : l.length ≤ 1000) (hs : s.length ≤ 1000) : ∀ (m i next : Nat) (there out : List Int), EndsAt l s m i next there out → Both1 l s i next there out
  | 0, i, next, there, out, h => absurd h.hm (by have := h.hi; omega)
  | m + 1, i, next, there, out, h => by
    have hT : 0 < there.length → Both0 l s (i + 1) next (there.take (there.length - 1)) (out ++ [84]) := fun hp => both0_of (fun hc => both1 hl hs m (i + 1) next _ _ ⟨hc, h.hn, by have := h.hm; have := h.hi; omega, by rw [List.length_take]; have := h.ht; omega, by rw [List.length_append, List.length_singleton]; have := h.ho; omega⟩) (by have := h.hi; omega) (by rw [List.length_append, List.length_singleton]; have := h.ho; have := h.hi; have := h.hn; omega)
    have hB : 0 < there.length → Both0 l s (i + 1) next (there.drop 1) (out ++ [66]) := fun hp => both0_of (fun hc => both1 hl hs m (i + 1) next _ _ ⟨hc, h.hn, by have := h.hm; have := h.hi; omega, by rw [List.length_drop]; have := h.ht; omega, by rw [List.length_append, List.length_singleton]; have := h.ho; omega⟩) (by have := h.hi; omega) (by rw [List.length_append, List.length_singleton]; have := h.ho; have := h.hi; have := h.hn; omega)
    have hI : next < l.length → Both1 l s i (next + 1) (there ++ [nth l next]) (out ++ [73]) := fun hp => both1 hl hs m i (next + 1) _ _ ⟨h.hi, hp, by have := h.hm; omega, by rw [List.length_append, List.length_singleton]; have := h.ht; omega, by rw [List.length_append, List.length_singleton]; have := h.ho; omega⟩
    have hj3 := fun b hb => both_j3 hl hs h b hb hB hI
    have ht := h.ht
    have hi := h.hi
    have hn := h.hn
    have ho := h.ho
    have hsz : (strOfNums out).size = out.length := strOfNums_size out
    rcases Nat.eq_zero_or_pos there.length with h0 | hp
    · obtain ⟨r, hr, a1, a2⟩ := hj3 false (fun hb => by cases hb)
      refine ⟨r, hr, ?_, ?_⟩
      · refine Ev.step (fun k => by rw [spec_l8To.l1]) ?_
        refine Ev.neg (by omega) ?_
        refine Ev.step (fun k => by rw [spec_l8To.j2]) ?_
        exact Ev.neg (by simp) (Ev.neg (by omega) a1)
      · refine Ev.step (fun k => by rw [impl_endsTo.l1]) ?_
        simp only [show wrap64 ((there.length : Int) - 1) = -1 from by rw [h0, w64 (by omega)]; rfl]
        refine Ev.neg (by omega) ?_
        refine Ev.step (fun k => by rw [impl_endsTo.j2]) ?_
        exact Ev.neg (by simp) (Ev.neg (by omega) a2)
    · by_cases hc : nth there (there.length - 1) = nth s i
      · obtain ⟨r, hr, a1, a2⟩ := hT hp
        rw [str_T] at a1
        have hc' : (nth there (there.length - 1) == nth s i) = true := by simp [hc]
        refine ⟨r, hr, ?_, ?_⟩
        · refine Ev.step (fun k => by rw [spec_l8To.l1]) ?_
          simp only [wdn there.length hp (by omega), rd_nat, hc']
          refine Ev.pos (by omega) (Ev.pos (by omega) (Ev.pos (by omega) (Ev.pos (by omega) (Ev.pos (by omega) ?_))))
          refine Ev.step (fun k => by rw [spec_l8To.j2]) ?_
          simp only [wup i (by omega), wdn there.length hp (by omega), Int.toNat_natCast]
          exact Ev.pos trivial (Ev.pos (by omega) (Ev.pos (by omega) (Ev.pos (by omega) a1)))
        · refine Ev.step (fun k => by rw [impl_endsTo.l1]) ?_
          simp only [wdn there.length hp (by omega), rd_nat, hc']
          refine Ev.pos (by omega) (Ev.pos (by omega) (Ev.pos (by omega) ?_))
          refine Ev.step (fun k => by rw [impl_endsTo.j2]) ?_
          simp only [wup i (by omega), Option.bind_some, Int.toNat_natCast]
          exact Ev.pos trivial (Ev.pos (by simp; omega) (Ev.pos (by omega) (Ev.pos (by omega) a2)))
      · have hc' : (nth there (there.length - 1) == nth s i) = false := by simp [hc]
        obtain ⟨r, hr, a1, a2⟩ := hj3 (nth there 0 == nth s i) (fun _ => hp)
        have e3 : ∀ x : List Int, rd x 0 = nth x 0 := fun _ => rfl
        refine ⟨r, hr, ?_, ?_⟩
        · refine Ev.step (fun k => by rw [spec_l8To.l1]) ?_
          simp only [wdn there.length hp (by omega), rd_nat, hc']
          refine Ev.pos (by omega) (Ev.pos (by omega) (Ev.pos (by omega) (Ev.pos (by omega) (Ev.pos (by omega) ?_))))
          refine Ev.step (fun k => by rw [spec_l8To.j2]) ?_
          simp only [e3, rd_nat]
          exact Ev.neg (by simp) (Ev.pos (by omega) (Ev.pos (by omega) (Ev.pos (by omega) (Ev.pos (by omega) a1))))
        · refine Ev.step (fun k => by rw [impl_endsTo.l1]) ?_
          simp only [wdn there.length hp (by omega), rd_nat, hc']
          refine Ev.pos (by omega) (Ev.pos (by omega) (Ev.pos (by omega) ?_))
          refine Ev.step (fun k => by rw [impl_endsTo.j2]) ?_
          simp only [e3]
          exact Ev.neg (by simp) (Ev.pos (by omega) (Ev.pos (by omega) a2))
theorem endsTo_bothz (l s : List Int) (hl : l.length ≤ 1000) (hs : s.length ≤ 1000) : ∃ r : ByteArray × Bool, r.1.size ≤ 2000 ∧ Ev (fun k => spec_l8To.f k l s) r ∧ Ev (fun k => impl_endsTo.f k l s) r := by
  have := both0_of (l := l) (s := s) (i := 0) (next := 0) (there := []) (out := []) (fun hc => both1 hl hs (s.length + l.length) 0 0 [] [] ⟨hc, Nat.zero_le _, by omega, by simp, by simp⟩) (Nat.zero_le _) (by simp)
  obtain ⟨r, hr, h1, h2⟩ := this
  rw [List.drop_zero] at h2
  have e : strOfNums [] = (⟨#[]⟩ : ByteArray) := rfl
  rw [e] at h1
  unfold spec_l8To.f impl_endsTo.f
  exact ⟨r, hr, h1, h2⟩
theorem endsTo_both (l s : List Int) (hl : l.length ≤ 1000) (hs : s.length ≤ 1000) : ∃ r : ByteArray × Bool, Ev (fun k => spec_l8To.f k l s) r ∧ Ev (fun k => impl_endsTo.f k l s) r := by
  obtain ⟨r, _, h⟩ := endsTo_bothz l s hl hs
  exact ⟨r, h⟩

theorem ends_g (l : List Int) (hl : l.length ≤ 1000) : ∃ g : List Int → Bool, ∀ t : List Int, t.length ≤ 1000 → ∃ w : ByteArray, Ev (fun k => spec_l8To.f k l t) (w, g t) ∧ Ev (fun k => impl_endsTo.f k l t) (w, g t) := by
  have h : ∀ t : List Int, ∃ b : Bool, t.length ≤ 1000 → ∃ w : ByteArray, Ev (fun k => spec_l8To.f k l t) (w, b) ∧ Ev (fun k => impl_endsTo.f k l t) (w, b) := fun t => by
    by_cases ht : t.length ≤ 1000
    · obtain ⟨⟨w, b⟩, h1, h2⟩ := endsTo_both l t hl ht
      exact ⟨b, fun _ => ⟨w, h1, h2⟩⟩
    · exact ⟨false, fun h => absurd h ht⟩
  exact Classical.skolem.1 h
theorem endsOutputs_ev (l : List Int) (h7 : l.length ≤ 7) (g : List Int → Bool) (hg : ∀ t : List Int, t.length ≤ 1000 → ∃ w : ByteArray, Ev (fun k => spec_l8To.f k l t) (w, g t) ∧ Ev (fun k => impl_endsTo.f k l t) (w, g t)) : Ev (fun k => impl_endsOutputs.f k l) ((ordsM l.length).filter g) := by
  unfold impl_endsOutputs.f
  refine Ev.bind (allOrders_ev l.length h7) ?_
  refine Ev.to (keepO_ev (fun k x => impl_endsOutputs_1.f k x l) (fun x => !g x) _ fun x hx => ?_) (by simp)
  obtain ⟨w, _, h2⟩ := hg x (by have := ordsM_len _ x hx; omega)
  unfold impl_endsOutputs_1.f
  exact Ev.bind h2 (Ev.val rfl)

/-! words by which an order comes out of another: both sides go side by side -/
theorem strw_snoc (out : List Int) (n : Int) : strOfNums (out ++ [n]) = strOfNums out ++ (⟨#[UInt8.ofNat n.toNat]⟩ : ByteArray) := by
  apply ByteArray.ext
  apply Array.ext'
  simp [strOfNums, ByteArray.data_append]
theorem strw_O (out : List Int) : strOfNums (out ++ [79]) = strOfNums out ++ (⟨#[79]⟩ : ByteArray) := strw_snoc out 79
theorem strw_I (out : List Int) : strOfNums (out ++ [73]) = strOfNums out ++ (⟨#[73]⟩ : ByteArray) := strw_snoc out 73
structure WordAt (l s : List Int) (m i next : Nat) (st out : List Int) : Prop where
  hi : i < s.length
  hs : s.length ≤ l.length
  hn : next ≤ l.length
  hm : (s.length - i) + (l.length - next) ≤ m
  ht : st.length + i = next
  ho : out.length ≤ i + next
def Wboth1 (l s : List Int) (i next : Nat) (st out : List Int) : Prop := ∃ r : ByteArray × Bool, Ev (fun k => spec_l2To.l1 k l s (strOfNums out) st (next : Int) (i : Int)) r ∧ Ev (fun k => impl_wordTo.l1 k (l.drop next) st out (nth s i) s (s.length : Int) (i : Int)) r
def Wboth0 (l s : List Int) (i next : Nat) (st out : List Int) : Prop := ∃ r : ByteArray × Bool, Ev (fun k => spec_l2To.l0 k l s (strOfNums out) st (next : Int) (i : Int)) r ∧ Ev (fun k => impl_wordTo.l0 k (l.drop next) st out s (s.length : Int) (i : Int)) r
theorem wboth0_of {l s : List Int} {i next : Nat} {st out : List Int} (h : i < s.length → Wboth1 l s i next st out) (hi : i ≤ s.length) : Wboth0 l s i next st out := by
  by_cases hc : i < s.length
  · obtain ⟨r, h1, h2⟩ := h hc
    refine ⟨r, ?_, ?_⟩
    · refine Ev.step (fun k => by rw [spec_l2To.l0]) ?_
      exact Ev.pos (by omega) h1
    · refine Ev.step (fun k => by rw [impl_wordTo.l0]) ?_
      exact Ev.pos (by omega) (Ev.pos (by omega) (Ev.pos (by omega) h2))
  · refine ⟨(strOfNums out, true), ?_, ?_⟩
    · refine Ev.step (fun k => by rw [spec_l2To.l0]) ?_
      exact Ev.neg (by omega) (Ev.val rfl)
    · refine Ev.step (fun k => by rw [impl_wordTo.l0]) ?_
      exact Ev.neg (by omega) (Ev.val rfl)
/-- the program's side, behind its test: a number more on the stack -/
theorem wimpl_push {l s : List Int} {r : ByteArray × Bool} {i next : Nat} {st out : List Int} (hl : l.length ≤ 1000) (hn : next < l.length) (ht : st.length ≤ 1000) (ho : out.length ≤ 3000)
    (h : Ev (fun k => impl_wordTo.l1 k (l.drop (next + 1)) (st ++ [nth l next]) (out ++ [73]) (nth s i) s (s.length : Int) (i : Int)) r) : Ev (fun k => impl_wordTo.j2 k (l.drop next) st out (nth s i) s (s.length : Int) (i : Int) true) r := by
  refine Ev.step (fun k => by rw [impl_wordTo.j2]) ?_
  have e4 : rd (l.drop next) 0 = nth l next := by
    show nth (l.drop next) 0 = _
    unfold nth
    rw [List.getD_eq_getElem?_getD, List.getD_eq_getElem?_getD, List.getElem?_drop, Nat.add_zero]
  have e5 : (l.drop next).drop 1 = l.drop (next + 1) := by rw [List.drop_drop]
  have e6 : (l.drop next).length = l.length - next := List.length_drop
  simp only [e4, e5, Option.bind_some]
  clear e4 e5
  exact Ev.pos trivial (Ev.neg (by omega) (Ev.pos (by omega) (Ev.pos (by simp; omega) (Ev.pos (by omega) (Ev.pos (by simp; omega) h)))))
theorem wimpl_pop {l s : List Int} {r : ByteArray × Bool} {i next : Nat} {st out : List Int} (hp : 0 < st.length) (ht : st.length ≤ 1000) (ho : out.length ≤ 3000) (hi : i ≤ 1000)
    (h : Ev (fun k => impl_wordTo.l0 k (l.drop next) (st.take (st.length - 1)) (out ++ [79]) s (s.length : Int) ((i + 1 : Nat) : Int)) r) : Ev (fun k => impl_wordTo.j2 k (l.drop next) st out (nth s i) s (s.length : Int) (i : Int) false) r := by
  refine Ev.step (fun k => by rw [impl_wordTo.j2]) ?_
  simp only [wup i (by omega), wdn st.length hp (by omega), Int.toNat_natCast, Option.bind_some]
  exact Ev.neg (by simp) (Ev.pos (by omega) (Ev.pos (by omega) (Ev.pos (by simp; omega) h)))
theorem wboth1 {l s : List Int} (hl : l.length ≤ 1000) : ∀ (m i next : Nat) (st out : List Int), WordAt l s m i next st out → Wboth1 l s i next st out
  | 0, i, next, st, out, h => absurd h.hm (by have := h.hi; omega)
  | m + 1, i, next, st, out, h => by
    have hO : 0 < st.length → Wboth0 l s (i + 1) next (st.take (st.length - 1)) (out ++ [79]) := fun hp => wboth0_of (fun hc => wboth1 hl m (i + 1) next _ _ ⟨hc, h.hs, h.hn, by have := h.hm; have := h.hi; omega, by rw [List.length_take]; have := h.ht; omega, by rw [List.length_append, List.length_singleton]; have := h.ho; omega⟩) (by have := h.hi; omega)
    have hI : next < l.length → Wboth1 l s i (next + 1) (st ++ [nth l next]) (out ++ [73]) := fun hp => wboth1 hl m i (next + 1) _ _ ⟨h.hi, h.hs, hp, by have := h.hm; omega, by rw [List.length_append, List.length_singleton]; have := h.ht; omega, by rw [List.length_append, List.length_singleton]; have := h.ho; omega⟩
    obtain ⟨hi, hs, hn, hm, ht, ho⟩ := h
    have hsz : (strOfNums out).size = out.length := strOfNums_size out
    by_cases hnl : next < l.length
    · rcases Nat.eq_zero_or_pos st.length with h0 | hp
      · obtain ⟨r, a1, a2⟩ := hI hnl
        rw [strw_I] at a1
        refine ⟨r, ?_, ?_⟩
        · refine Ev.step (fun k => by rw [spec_l2To.l1]) ?_
          simp only [wup next (by omega), rd_nat]
          exact Ev.pos (by omega) (Ev.pos (by omega) (Ev.pos (by omega) (Ev.pos (by omega) (Ev.pos (by omega) a1))))
        · refine Ev.step (fun k => by rw [impl_wordTo.l1]) ?_
          exact Ev.pos (by omega) (wimpl_push hl hnl (by omega) (by omega) a2)
      · by_cases hc : nth st (st.length - 1) = nth s i
        · obtain ⟨r, a1, a2⟩ := hO hp
          rw [strw_O] at a1
          refine ⟨r, ?_, ?_⟩
          · refine Ev.step (fun k => by rw [spec_l2To.l1]) ?_
            simp only [wup i (by omega), wdn st.length hp (by omega), rd_nat, Int.toNat_natCast]
            exact Ev.pos (by omega) (Ev.neg (by omega) (Ev.pos (by omega) (Ev.pos (by omega) (Ev.pos (by omega) (Ev.pos (by omega) (Ev.pos hc (Ev.pos (by omega) (Ev.pos (by omega) a1))))))))
          · refine Ev.step (fun k => by rw [impl_wordTo.l1]) ?_
            simp only [wdn st.length hp (by omega), rd_nat, show (nth st (st.length - 1) != nth s i) = false from by simp [hc]]
            exact Ev.neg (by omega) (Ev.pos (by omega) (Ev.pos (by omega) (wimpl_pop hp (by omega) (by omega) (by omega) a2)))
        · obtain ⟨r, a1, a2⟩ := hI hnl
          rw [strw_I] at a1
          refine ⟨r, ?_, ?_⟩
          · refine Ev.step (fun k => by rw [spec_l2To.l1]) ?_
            simp only [wup next (by omega), wdn st.length hp (by omega), rd_nat]
            exact Ev.pos (by omega) (Ev.neg (by omega) (Ev.pos (by omega) (Ev.pos (by omega) (Ev.pos (by omega) (Ev.pos (by omega) (Ev.neg hc (Ev.pos (by omega) (Ev.pos (by omega) (Ev.pos (by omega) a1)))))))))
          · refine Ev.step (fun k => by rw [impl_wordTo.l1]) ?_
            simp only [wdn st.length hp (by omega), rd_nat, show (nth st (st.length - 1) != nth s i) = true from by simp [hc]]
            exact Ev.neg (by omega) (Ev.pos (by omega) (Ev.pos (by omega) (wimpl_push hl hnl (by omega) (by omega) a2)))
    · have hp : 0 < st.length := by omega
      by_cases hc : nth st (st.length - 1) = nth s i
      · obtain ⟨r, a1, a2⟩ := hO hp
        rw [strw_O] at a1
        refine ⟨r, ?_, ?_⟩
        · refine Ev.step (fun k => by rw [spec_l2To.l1]) ?_
          simp only [wup i (by omega), wdn st.length hp (by omega), rd_nat, Int.toNat_natCast]
          exact Ev.neg (by omega) (Ev.pos (by omega) (Ev.pos (by omega) (Ev.pos (by omega) (Ev.pos (by omega) (Ev.pos hc (Ev.pos (by omega) (Ev.pos (by omega) a1)))))))
        · refine Ev.step (fun k => by rw [impl_wordTo.l1]) ?_
          simp only [wdn st.length hp (by omega), rd_nat, show (nth st (st.length - 1) != nth s i) = false from by simp [hc]]
          exact Ev.neg (by omega) (Ev.pos (by omega) (Ev.pos (by omega) (wimpl_pop hp (by omega) (by omega) (by omega) a2)))
      · refine ⟨((⟨#[]⟩ : ByteArray), false), ?_, ?_⟩
        · refine Ev.step (fun k => by rw [spec_l2To.l1]) ?_
          simp only [wdn st.length hp (by omega), rd_nat]
          exact Ev.neg (by omega) (Ev.pos (by omega) (Ev.pos (by omega) (Ev.pos (by omega) (Ev.pos (by omega) (Ev.neg hc (Ev.val rfl))))))
        · refine Ev.step (fun k => by rw [impl_wordTo.l1]) ?_
          simp only [wdn st.length hp (by omega), rd_nat, show (nth st (st.length - 1) != nth s i) = true from by simp [hc]]
          refine Ev.neg (by omega) (Ev.pos (by omega) (Ev.pos (by omega) ?_))
          refine Ev.step (fun k => by rw [impl_wordTo.j2]) ?_
          refine Ev.pos rfl (Ev.pos ?_ (Ev.val rfl))
          rw [List.length_drop]; omega
theorem wordTo_both (l s : List Int) (hl : l.length ≤ 1000) (hs : s.length ≤ l.length) : ∃ r : ByteArray × Bool, Ev (fun k => spec_l2To.f k l s) r ∧ Ev (fun k => impl_wordTo.f k l s) r := by
  have := wboth0_of (l := l) (s := s) (i := 0) (next := 0) (st := []) (out := []) (fun hc => wboth1 hl (s.length + l.length) 0 0 [] [] ⟨hc, hs, Nat.zero_le _, by omega, by simp, by simp⟩) (Nat.zero_le _)
  obtain ⟨r, h1, h2⟩ := this
  rw [List.drop_zero] at h2
  have e : strOfNums [] = (⟨#[]⟩ : ByteArray) := rfl
  rw [e] at h1
  unfold spec_l2To.f impl_wordTo.f
  exact ⟨r, h1, h2⟩
theorem words_h (l : List Int) (hl : l.length ≤ 1000) : ∃ g : List Int → Bool, ∀ t : List Int, t.length ≤ l.length → ∃ w : ByteArray, Ev (fun k => spec_l2To.f k l t) (w, g t) ∧ Ev (fun k => impl_wordTo.f k l t) (w, g t) := by
  have h : ∀ t : List Int, ∃ b : Bool, t.length ≤ l.length → ∃ w : ByteArray, Ev (fun k => spec_l2To.f k l t) (w, b) ∧ Ev (fun k => impl_wordTo.f k l t) (w, b) := fun t => by
    by_cases ht : t.length ≤ l.length
    · obtain ⟨⟨w, b⟩, h1, h2⟩ := wordTo_both l t hl ht
      exact ⟨b, fun _ => ⟨w, h1, h2⟩⟩
    · exact ⟨false, fun h => absurd h ht⟩
  exact Classical.skolem.1 h

/-- how many of the orders from a place on are so -/
theorem l8Count_l (l : List Int) (h7 : l.length ≤ 7) (only : Bool) (g h : List Int → Bool) (hg : ∀ t : List Int, t.length ≤ 1000 → ∃ w : ByteArray, Ev (fun k => spec_l8To.f k l t) (w, g t) ∧ Ev (fun k => impl_endsTo.f k l t) (w, g t)) (hh : ∀ t : List Int, t.length ≤ l.length → ∃ w : ByteArray, Ev (fun k => spec_l2To.f k l t) (w, h t)) :
    ∀ (d i m : Nat), (ordsM l.length).length = i + d → m ≤ i → Ev (fun k => spec_l8Count.l0 k l only (m : Int) (ordsM l.length) (i : Int)) ((m + (((ordsM l.length).drop i).filter fun t => g t && !(only && h t)).length : Nat) : Int)
  | 0, i, m, hd, hm => by
    refine Ev.step (fun k => by rw [spec_l8Count.l0]) ?_
    refine Ev.neg (by omega) (Ev.val ?_)
    rw [List.drop_of_length_le (by omega)]; simp
  | d + 1, i, m, hd, hm => by
    have hlen := facN_le l.length
    have hol := ordsM_length l.length
    have hi : i < (ordsM l.length).length := by omega
    have hxl := ordsM_len _ _ (getD_memK hi)
    rw [drop_stepK _ i hi]
    refine Ev.step (fun k => by rw [spec_l8Count.l0]) ?_
    simp only [wup i (by omega), wup m (by omega), rd_L1_natK]
    generalize (ordsM l.length).getD i [] = x at hxl ⊢
    obtain ⟨w, h1, _⟩ := hg x (by omega)
    obtain ⟨w2, h2⟩ := hh x (by omega)
    have ih := fun m2 hm2 => l8Count_l l h7 only g h hg hh d (i + 1) m2 (by omega) hm2
    refine Ev.pos (by omega) (Ev.pos (by omega) (Ev.bind h1 (Ev.bind h2 ?_)))
    rw [List.filter_cons]
    generalize hZ : ((m + (if (g x && !(only && h x)) = true then x :: ((ordsM l.length).drop (i + 1)).filter (fun t => g t && !(only && h t)) else ((ordsM l.length).drop (i + 1)).filter fun t => g t && !(only && h t)).length : Nat) : Int) = Z
    have more : g x = true → (only && h x) = false → Ev (fun k => spec_l8Count.l0 k l only ((m + 1 : Nat) : Int) (ordsM l.length) ((i + 1 : Nat) : Int)) Z := fun e1 e2 => by
      rw [e1, e2, if_pos (by simp), List.length_cons] at hZ
      refine Ev.to (ih (m + 1) (by omega)) ?_
      rw [← hZ]
      omega
    have same : (g x && !(only && h x)) = false → Ev (fun k => spec_l8Count.l0 k l only (m : Int) (ordsM l.length) ((i + 1 : Nat) : Int)) Z := fun e1 => by
      rw [if_neg (by rw [e1]; simp)] at hZ
      rw [← hZ]
      exact ih m (by omega)
    clear hZ ih
    cases hgx : g x with
    | false => exact Ev.neg (by simp) (same (by rw [hgx]; rfl))
    | true =>
      refine Ev.pos rfl ?_
      cases only with
      | false => exact Ev.neg (by simp) (more hgx rfl)
      | true =>
        refine Ev.pos rfl ?_
        cases hhx : h x with
        | true => exact Ev.pos rfl (same (by rw [hgx, hhx]; rfl))
        | false => exact Ev.neg (by simp) (more hgx (by rw [hhx]; rfl))

theorem implOBE_l (l : List Int) (L : List (List Int)) (hL : L.length ≤ 100000) (hLl : ∀ t ∈ L, t.length ≤ l.length) (h : List Int → Bool) (hh : ∀ t : List Int, t.length ≤ l.length → ∃ w : ByteArray, Ev (fun k => impl_wordTo.f k l t) (w, h t)) :
    ∀ (d i m : Nat), L.length = i + d → m ≤ i → Ev (fun k => impl_OnlyByEnds.l0 k l (m : Int) L (L.length : Int) (i : Int)) (((m + ((L.drop i).filter fun t => !h t).length : Nat) : Int), true)
  | 0, i, m, hd, hm => by
    refine Ev.step (fun k => by rw [impl_OnlyByEnds.l0]) ?_
    refine Ev.neg (by omega) (Ev.val ?_)
    rw [List.drop_of_length_le (by omega)]; simp
  | d + 1, i, m, hd, hm => by
    have hi : i < L.length := by omega
    have hxl := hLl _ (getD_memK hi)
    rw [drop_stepK _ i hi]
    refine Ev.step (fun k => by rw [impl_OnlyByEnds.l0]) ?_
    simp only [wup i (by omega), wup m (by omega), rd_L1_natK]
    generalize L.getD i [] = x at hxl ⊢
    obtain ⟨w2, h2⟩ := hh x hxl
    have ih := fun m2 hm2 => implOBE_l l L hL hLl h hh d (i + 1) m2 (by omega) hm2
    refine Ev.pos (by omega) (Ev.pos (by omega) (Ev.pos (by omega) (Ev.bind h2 ?_)))
    rw [List.filter_cons]
    cases hhx : h x with
    | true => exact Ev.pos rfl (by simpa using ih m (by omega))
    | false =>
      refine Ev.neg (by simp) (Ev.to (ih (m + 1) (by omega)) ?_)
      simp only [Bool.not_false, if_true, List.length_cons, Prod.mk.injEq, and_true]
      omega
theorem bothOnlyByEnds (l : List Int) (hn : l.length ≤ 17592186044415) : ∃ r, Ev (fun k => spec_OnlyByEnds.f k l) r ∧ Ev (fun k => impl_OnlyByEnds.f k l) r := by
  unfold spec_OnlyByEnds.f impl_OnlyByEnds.f
  by_cases hc : isOrd l = true
  · have hl := isOrd_len hc
    obtain ⟨g, hg⟩ := ends_g l (by omega)
    obtain ⟨h, hh⟩ := words_h l (by omega)
    have hlen := facN_le l.length
    have hol := ordsM_length l.length
    have hfl := List.length_filter_le g (ordsM l.length)
    have hs := l8Count_l l hl.2 true g h hg (fun t ht => (hh t ht).imp fun w hw => hw.1) (ordsM l.length).length 0 0 (by omega) (by omega)
    have hi := implOBE_l l ((ordsM l.length).filter g) (by omega) (fun t ht => by have := ordsM_len _ t (List.mem_filter.1 ht).1; omega) h (fun t ht => (hh t ht).imp fun w hw => hw.2) ((ordsM l.length).filter g).length 0 0 (by omega) (by omega)
    rw [List.drop_zero, List.filter_filter] at hi
    rw [List.drop_zero] at hs
    refine ⟨(((0 + ((ordsM l.length).filter fun t => g t && !(true && h t)).length : Nat) : Int), true), ?_, ?_⟩
    · refine Ev.bind (l2Order_ev l (by omega)) (Ev.pos hc ?_)
      refine Ev.bind (a := ((0 + ((ordsM l.length).filter fun t => g t && !(true && h t)).length : Nat) : Int)) ?_ (Ev.val rfl)
      unfold spec_l8Count.f
      exact Ev.bind (l2Orders_ev l.length hl.2) hs
    · refine Ev.bind (isOrder_ev l (by omega)) (Ev.pos hc ?_)
      refine Ev.bind (endsOutputs_ev l hl.2 g hg) (Ev.to hi ?_)
      congr 3
      congr 1
      congr 1
      funext t
      simp [Bool.and_comm]
  · refine ⟨(0, false), ?_, ?_⟩
    · exact Ev.bind (l2Order_ev l (by omega)) (Ev.neg hc (Ev.val rfl))
    · exact Ev.bind (isOrder_ev l (by omega)) (Ev.neg hc (Ev.val rfl))

/-! one number or bool out of an order: both sides come to one and the same -/
theorem FnExactOnlyByEnds : laws_FnExactOnlyByEnds.Pure := by
  intro l hm hr hw
  refine Ev.rounds (?_ : Ev (fun k => laws_FnExactOnlyByEnds.f k l) true)
  unfold laws_FnExactOnlyByEnds.f
  refine Ev.ite (fun _ => Ev.val rfl) (fun hc => ?_)
  obtain ⟨r, h1, h2⟩ := bothOnlyByEnds l (by omega)
  refine Ev.bind (toIntS_ev l (by omega)) ?_
  refine Ev.bind h1 ?_
  refine Ev.bind (toIntS_ev l (by omega)) ?_
  refine Ev.bind h2 ?_
  refine Ev.pos (by simp) ?_
  refine Ev.step (fun k => by rw [laws_FnExactOnlyByEnds.j0]) ?_
  refine Ev.neg (by simp) ?_
  refine Ev.bind (toIntS_ev l (by omega)) ?_
  exact Ev.bind (eqIntS_ev l l (by omega)) (Ev.pos (by simp) (Ev.val rfl))

end Go.Proofs.Ytgdjnaojcpoigaa.Pure
