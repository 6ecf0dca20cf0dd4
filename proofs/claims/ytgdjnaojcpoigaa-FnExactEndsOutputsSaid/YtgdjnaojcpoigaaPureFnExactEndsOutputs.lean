/- The program's EndsOutputs returns what the reference's returns, for every list, in memory of its own. -/
import Derived.Test.YtgdjnaojcpoigaaPFnExactEndsOutputsx9
import Derived.Test.YtgdjnaojcpoigaaK
set_option linter.unusedVariables false
set_option linter.unusedSimpArgs false
namespace Go.Proofs.Ytgdjnaojcpoigaa.Pure
open Go.RowKit Go.Proofs.Ytgdjnaojcpoigaa.PFnExactEndsOutputs Go.Proofs.YtgdjnaojcpoigaaW.PrintWords Go.Proofs.YtgdjnaojcpoigaaW.PrintLast Go.Proofs.YtgdjnaojcpoigaaW.PrintMore

theorem toIntS_l (x0 : List Int) (hn : x0.length ≤ 17592186044416) : ∀ (d i : Nat) (x3 : List Int), x3.length = x0.length → x3.take i = x0.take i → x0.length = i + d → Ev (fun k => laws_toIntS.l0 k x0 x3 i) x0
  | 0, i, x3, h1, h2, h3 => by
    refine Ev.step (fun k => by rw [laws_toIntS.l0]) ?_
    refine Ev.neg (by omega) (Ev.val ?_)
    rw [List.take_of_length_le (by omega), List.take_of_length_le (by omega)] at h2
    exact h2
  | d + 1, i, x3, h1, h2, h3 => by
    refine Ev.step (fun k => by rw [laws_toIntS.l0]) ?_
    refine Ev.pos (by omega) (Ev.pos (by omega) (Ev.pos (by omega) ?_))
    have e : wrap64 ((i : Int) + 1) = ((i + 1 : Nat) : Int) := by rw [w64 (by omega)]; omega
    simp only [e, Int.toNat_natCast]
    exact toIntS_l x0 hn d (i + 1) _ (by simpa using h1) (by rw [take_set_succ _ _ _ (by omega), h2, take_step _ _ (by omega), rd_nat]) (by omega)
theorem toIntS_ev (l : List Int) (hn : l.length ≤ 17592186044416) : Ev (fun k => laws_toIntS.f k l) l := by
  unfold laws_toIntS.f
  refine Ev.pos (by omega) (Ev.pos (by omega) ?_)
  exact toIntS_l l hn l.length 0 _ (by simp) (by simp) (by omega)

theorem eqIntS_l (a b : List Int) (hn : a.length ≤ 17592186044416) (hl : a.length = b.length) : ∀ (d i : Nat), a.length = i + d → Ev (fun k => laws_eqIntS.l0 k a b i) (decide (a.drop i = b.drop i))
  | 0, i, h => by
    refine Ev.step (fun k => by rw [laws_eqIntS.l0]) ?_
    refine Ev.neg (by omega) (Ev.val ?_)
    rw [List.drop_of_length_le (by omega), List.drop_of_length_le (by omega)]
    simp
  | d + 1, i, h => by
    refine Ev.step (fun k => by rw [laws_eqIntS.l0]) ?_
    refine Ev.pos (by omega) (Ev.pos (by omega) (Ev.pos (by omega) ?_))
    have e : wrap64 ((i : Int) + 1) = ((i + 1 : Nat) : Int) := by rw [w64 (by omega)]; omega
    simp only [e]
    rw [drop_step a i (by omega), drop_step b i (by omega)]
    refine Ev.ite (fun hc => ?_) (fun hc => Ev.val ?_)
    · have hc' : nth a i = nth b i := hc
      refine (eqIntS_l a b hn hl d (i + 1) (by omega)).to ?_
      rw [hc']
      simp
    · have hc' : ¬ nth a i = nth b i := hc
      simp [hc']
theorem eqIntS_ev (a b : List Int) (hn : a.length ≤ 17592186044416) : Ev (fun k => laws_eqIntS.f k a b) (decide (a = b)) := by
  unfold laws_eqIntS.f
  refine Ev.ite (fun hc => ?_) (fun hc => Ev.val ?_)
  · exact (eqIntS_l a b hn (by omega) a.length 0 (by omega)).to (by simp)
  · have : ¬ a = b := fun h => hc (by rw [h])
    simp [this]

theorem markIntS_l : ∀ (d i : Nat) (x0 : List Int) (x1 : Int), x0.length = i + d → x0.length ≤ 17592186044416 → -1000000000000000000 ≤ x1 → x1 + d ≤ 1000000000000000000 → Ev (fun k => laws_markIntS.l0 k x0 x1 i) (x1 + d, x0.take i ++ marked x1 d)
  | 0, i, x0, x1, h, hn, h1, h2 => by
    refine Ev.step (fun k => by rw [laws_markIntS.l0]) ?_
    refine Ev.neg (by omega) (Ev.val ?_)
    rw [List.take_of_length_le (by omega)]
    simp [marked]
  | d + 1, i, x0, x1, h, hn, h1, h2 => by
    refine Ev.step (fun k => by rw [laws_markIntS.l0]) ?_
    refine Ev.pos (by omega) (Ev.pos (by omega) ?_)
    have e : wrap64 ((i : Int) + 1) = ((i + 1 : Nat) : Int) := by rw [w64 (by omega)]; omega
    have e1 : wrap64 (x1 + 1) = x1 + 1 := w64 (by omega)
    simp only [e, e1, Int.toNat_natCast]
    refine (markIntS_l d (i + 1) (x0.set i x1) (x1 + 1) (by simpa using (by omega)) (by simpa using hn) (by omega) (by omega)).to ?_
    rw [take_set_succ _ _ _ (by omega)]
    simp [marked]
    omega
theorem markIntS_ev (l : List Int) (a : Int) (hn : l.length ≤ 17592186044416) (h1 : -1000000000000000 ≤ a) (h2 : a ≤ 1000000000000000) : Ev (fun k => laws_markIntS.f k l a) (a + l.length, marked a l.length) := by
  unfold laws_markIntS.f
  exact (markIntS_l l.length 0 l a (by omega) hn (by omega) (by omega)).to (by simp)

theorem heldIntS_l (n : Nat) (a : Int) (hn : n ≤ 17592186044416) (h1 : -1000000000000000 ≤ a) (h2 : a ≤ 1000000000000000) : ∀ (d i : Nat), n = i + d → Ev (fun k => laws_heldIntS.l0 k (marked a n) (a + i) i) (a + n)
  | 0, i, h => by
    refine Ev.step (fun k => by rw [laws_heldIntS.l0]) ?_
    refine Ev.neg (by rw [marked_length]; omega) (Ev.val ?_)
    omega
  | d + 1, i, h => by
    refine Ev.step (fun k => by rw [laws_heldIntS.l0]) ?_
    refine Ev.pos (by rw [marked_length]; omega) (Ev.pos (by omega) (Ev.pos (by rw [rd_nat, marked_nth n a i (by omega)]) ?_))
    have e : wrap64 ((i : Int) + 1) = ((i + 1 : Nat) : Int) := by rw [w64 (by omega)]; omega
    have e1 : wrap64 (a + i + 1) = a + ((i + 1 : Nat) : Int) := by rw [w64 (by omega)]; omega
    simp only [e, e1]
    exact heldIntS_l n a hn h1 h2 d (i + 1) (by omega)
theorem heldIntS_ev (n : Nat) (a : Int) (hn : n ≤ 17592186044416) (h1 : -1000000000000000 ≤ a) (h2 : a ≤ 1000000000000000) : Ev (fun k => laws_heldIntS.f k (marked a n) a) (a + n) := by
  unfold laws_heldIntS.f
  have := heldIntS_l n a hn h1 h2 n 0 (by omega)
  rw [show a + ((0 : Nat) : Int) = a by omega] at this
  exact this

theorem l1In_is (a b c : Int) : spec_l1In.f a b c = some (decide (b ≤ a ∧ a ≤ c)) := by
  unfold spec_l1In.f
  by_cases h : a ≥ b
  · rw [if_pos h]; simp [h]
  · rw [if_neg h]; simp; omega

theorem l1Has_l (l : List Int) (x : Int) (hn : l.length ≤ 17592186044416) : ∀ (d i : Nat), l.length = i + d → Ev (fun k => spec_l1Has.l0 k l x i) ((l.drop i).contains x)
  | 0, i, h => by
    refine Ev.step (fun k => by rw [spec_l1Has.l0]) ?_
    refine Ev.neg (by omega) (Ev.val ?_)
    rw [List.drop_of_length_le (by omega)]
    simp
  | d + 1, i, h => by
    refine Ev.step (fun k => by rw [spec_l1Has.l0]) ?_
    have e : wrap64 ((i : Int) + 1) = ((i + 1 : Nat) : Int) := by rw [w64 (by omega)]; omega
    simp only [e]
    rw [drop_step l i (by omega)]
    refine Ev.pos (by omega) (Ev.pos (by omega) (Ev.ite (fun hc => Ev.val ?_) (fun hc => ?_)))
    · have hc' : nth l i = x := hc
      rw [hc']; simp
    · have hc' : ¬ nth l i = x := hc
      refine (l1Has_l l x hn d (i + 1) (by omega)).to ?_
      have : ¬ x = nth l i := fun h => hc' h.symm
      rw [List.contains_cons]
      simp [this]
theorem l1Has_ev (l : List Int) (x : Int) (hn : l.length ≤ 17592186044416) : Ev (fun k => spec_l1Has.f k l x) (l.contains x) := by
  unfold spec_l1Has.f
  exact (l1Has_l l x hn l.length 0 (by omega)).to (by simp)

theorem l2Order_l (l : List Int) (hn : l.length ≤ 17592186044416) : ∀ (d i : Nat), l.length = i + d → Ev (fun k => spec_l2Order.l0 k l i) (allFrom (ordAt l) d i)
  | 0, i, h => by
    refine Ev.step (fun k => by rw [spec_l2Order.l0]) ?_
    exact Ev.neg (by omega) (Ev.val rfl)
  | d + 1, i, h => by
    refine Ev.step (fun k => by rw [spec_l2Order.l0]) ?_
    have e : wrap64 ((i : Int) + 1) = ((i + 1 : Nat) : Int) := by rw [w64 (by omega)]; omega
    simp only [e, l1In_is, Option.bind_some, rd_nat, Int.toNat_natCast, decide_eq_true_eq]
    refine Ev.pos (by omega) (Ev.pos (by omega) (Ev.ite (fun hc => Ev.pos (by omega) ?_) (fun hc => Ev.val ?_)))
    · refine Ev.bind (l1Has_ev _ _ (by simp; omega)) ?_
      refine Ev.ite (fun hb => Ev.val ?_) (fun hb => (l2Order_l l hn d (i + 1) (by omega)).to ?_)
      · rw [allFrom, ordAt, hb]; simp
      · rw [Bool.not_eq_true] at hb
        rw [allFrom, ordAt, hb]; simp [hc]
    · rw [allFrom, ordAt]
      by_cases h1 : 1 ≤ nth l i
      · have : ¬ nth l i ≤ l.length := fun h2 => hc ⟨h1, h2⟩
        simp [this]
      · simp [h1]
theorem l2Order_ev (l : List Int) (hn : l.length ≤ 17592186044416) : Ev (fun k => spec_l2Order.f k l) (isOrd l) := by
  unfold spec_l2Order.f
  simp only [l1In_is, Option.bind_some, decide_eq_true_eq]
  refine Ev.ite (fun hc => (l2Order_l l hn l.length 0 (by omega)).to ?_) (fun hc => Ev.val ?_)
  · have h1 : 1 ≤ l.length := by omega
    have h2 : l.length ≤ 7 := by omega
    simp [isOrd, h1, h2]
  · rw [isOrd]
    by_cases h1 : 1 ≤ l.length
    · have : ¬ l.length ≤ 7 := by omega
      simp [this]
    · simp [h1]

theorem Index_l (l : List Int) (x : Int) (hn : l.length ≤ 17592186044416) : ∀ (d i : Nat), l.length = i + d → (∀ j, j < i → nth l j ≠ x) → Ev (fun k => slices_Index_int_int.l0 k l x (l.length : Int) i) (idx l x)
  | 0, i, h, hq => by
    refine Ev.step (fun k => by rw [slices_Index_int_int.l0]) ?_
    refine Ev.neg (by omega) (Ev.val ?_)
    exact (idx_none l x fun j hj => hq j (by omega)).symm
  | d + 1, i, h, hq => by
    refine Ev.step (fun k => by rw [slices_Index_int_int.l0]) ?_
    have e : wrap64 ((i : Int) + 1) = ((i + 1 : Nat) : Int) := by rw [w64 (by omega)]; omega
    simp only [e]
    refine Ev.pos (by omega) (Ev.pos (by omega) (Ev.pos (by omega) (Ev.ite (fun hc => Ev.val ?_) (fun hc => ?_))))
    · exact (idx_some l x i (by omega) (by rw [hc]; rfl) hq).symm
    · refine Index_l l x hn d (i + 1) (by omega) (fun j hj => ?_)
      by_cases e : j = i
      · subst e; exact fun h => hc h.symm
      · exact hq j (by omega)
theorem Index_ev (l : List Int) (x : Int) (hn : l.length ≤ 17592186044416) : Ev (fun k => slices_Index_int_int.f k l x) (idx l x) := by
  unfold slices_Index_int_int.f
  exact Index_l l x hn l.length 0 (by omega) (fun j hj => by omega)

theorem Contains_ev (l : List Int) (x : Int) (hn : l.length ≤ 17592186044416) : Ev (fun k => slices_Contains_int_int.f k l x) (l.contains x) := by
  unfold slices_Contains_int_int.f
  exact Ev.bind (Index_ev l x hn) (Ev.val (idx_contains l x))

theorem isOrder_l (l : List Int) (hn : l.length ≤ 17592186044416) : ∀ (d i : Nat), l.length = i + d → Ev (fun k => impl_isOrder.l0 k l l (l.length : Int) i) (allFrom (ordAt l) d i)
  | 0, i, h => by
    refine Ev.step (fun k => by rw [impl_isOrder.l0]) ?_
    exact Ev.neg (by omega) (Ev.val rfl)
  | d + 1, i, h => by
    refine Ev.step (fun k => by rw [impl_isOrder.l0]) ?_
    have e : wrap64 ((i : Int) + 1) = ((i + 1 : Nat) : Int) := by rw [w64 (by omega)]; omega
    simp only [e, rd_nat, Int.toNat_natCast]
    refine Ev.pos (by omega) (Ev.pos (by omega) (Ev.pos (by omega) (Ev.ite (fun hc => Ev.val ?_) (fun hc => Ev.ite (fun hd => Ev.val ?_) (fun hd => Ev.pos (by omega) ?_)))))
    · have : ¬ 1 ≤ nth l i := by omega
      rw [allFrom, ordAt]; simp [this]
    · have : ¬ nth l i ≤ l.length := by omega
      rw [allFrom, ordAt]; simp [this]
    · refine Ev.bind (Contains_ev _ _ (by simp; omega)) ?_
      refine Ev.ite (fun hb => Ev.val ?_) (fun hb => (isOrder_l l hn d (i + 1) (by omega)).to ?_)
      · rw [allFrom, ordAt, hb]; simp
      · rw [Bool.not_eq_true] at hb
        have h1 : 1 ≤ nth l i := by omega
        have h2 : nth l i ≤ l.length := by omega
        rw [allFrom, ordAt, hb]; simp [h1, h2]
theorem isOrder_ev (l : List Int) (hn : l.length ≤ 17592186044416) : Ev (fun k => impl_isOrder.f k l) (isOrd l) := by
  unfold impl_isOrder.f
  refine Ev.ite (fun hc => ?_) (fun hc => ?_)
  · refine Ev.step (fun k => by rw [impl_isOrder.j0]) ?_
    refine Ev.pos rfl (Ev.val ?_)
    have : ¬ 1 ≤ l.length := by omega
    simp [isOrd, this]
  · refine Ev.step (fun k => by rw [impl_isOrder.j0]) ?_
    simp only [decide_eq_true_eq]
    refine Ev.ite (fun hd => Ev.val ?_) (fun hd => (isOrder_l l hn l.length 0 (by omega)).to ?_)
    · have : ¬ l.length ≤ 7 := by omega
      simp [isOrd, this]
    · have h1 : 1 ≤ l.length := by omega
      have h2 : l.length ≤ 7 := by omega
      simp [isOrd, h1, h2]

/-! how many orders; all orders -/
def facN (n : Nat) : Nat := [1, 1, 2, 6, 24, 120, 720, 5040].getD n 1
theorem facN_pos (n : Nat) : 0 < facN n := by
  rcases Nat.lt_or_ge n 8 with h | h
  · have : n = 0 ∨ n = 1 ∨ n = 2 ∨ n = 3 ∨ n = 4 ∨ n = 5 ∨ n = 6 ∨ n = 7 := by omega
    rcases this with rfl | rfl | rfl | rfl | rfl | rfl | rfl | rfl <;> decide
  · unfold facN
    rw [List.getD_eq_getElem?_getD, List.getElem?_eq_none (by simpa using h)]
    decide
theorem facN_le (n : Nat) : facN n ≤ 5040 := by
  rcases Nat.lt_or_ge n 8 with h | h
  · have : n = 0 ∨ n = 1 ∨ n = 2 ∨ n = 3 ∨ n = 4 ∨ n = 5 ∨ n = 6 ∨ n = 7 := by omega
    rcases this with rfl | rfl | rfl | rfl | rfl | rfl | rfl | rfl <;> decide
  · unfold facN
    rw [List.getD_eq_getElem?_getD, List.getElem?_eq_none (by simpa using h)]
    decide
theorem facN_succ (n : Nat) (h : n ≤ 6) : facN (n + 1) = (n + 1) * facN n := by
  have : n = 0 ∨ n = 1 ∨ n = 2 ∨ n = 3 ∨ n = 4 ∨ n = 5 ∨ n = 6 := by omega
  rcases this with rfl | rfl | rfl | rfl | rfl | rfl | rfl <;> decide
def atM : Nat → List Int → Nat → List Int
  | 0, _, _ => []
  | d + 1, left, k => nth left (k / facN d) :: atM d (left.take (k / facN d) ++ left.drop (k / facN d + 1)) (k % facN d)
theorem atM_length : ∀ (d : Nat) (left : List Int) (k : Nat), (atM d left k).length = d
  | 0, _, _ => rfl
  | d + 1, left, k => by rw [atM, List.length_cons, atM_length d]
def ordsM (n : Nat) : List (List Int) := (List.range (facN n)).map fun k => atM n (marked 1 n) k
theorem ordsM_length (n : Nat) : (ordsM n).length = facN n := by simp [ordsM]
theorem ordsM_len (n : Nat) (l : List Int) (h : l ∈ ordsM n) : l.length = n := by
  obtain ⟨k, _, rfl⟩ := List.mem_map.1 h
  exact atM_length n _ k
theorem tdiv_nat (a b : Nat) : Int.tdiv (a : Int) (b : Int) = ((a / b : Nat) : Int) := (Int.ofNat_tdiv a b).symm
theorem tmod_nat (a b : Nat) : Int.tmod (a : Int) (b : Int) = ((a % b : Nat) : Int) := (Int.ofNat_tmod a b).symm
theorem div_lt_of (d k : Nat) (hd : d ≤ 6) (h : k < facN (d + 1)) : k / facN d < d + 1 := by
  rw [Nat.div_lt_iff_lt_mul (facN_pos d), ← facN_succ d hd]
  exact h

theorem l1Own_is (l : List Int) (h : l.length < 17592186044416) : spec_l1Own.f l = some l := by
  unfold spec_l1Own.f
  simp [h]

theorem l2Sorted_l (n : Nat) (hn : n ≤ 1000) : ∀ d i : Nat, n = i + d → Ev (fun k => spec_l2Sorted.l0 k n (marked 1 i) ((i : Int) + 1)) (marked 1 n)
  | 0, i, h => by
    refine Ev.step (fun k => by rw [spec_l2Sorted.l0]) (Ev.neg (by omega) (Ev.val ?_))
    rw [h, Nat.add_zero]
  | d + 1, i, h => by
    refine Ev.step (fun k => by rw [spec_l2Sorted.l0]) ?_
    have e : wrap64 ((i : Int) + 1 + 1) = ((i + 1 : Nat) : Int) + 1 := by rw [w64 (by omega)]; omega
    have e2 : marked 1 i ++ [(i : Int) + 1] = marked 1 (i + 1) := by rw [marked_snoc]; congr 2; omega
    simp only [e, e2]
    exact Ev.pos (by omega) (Ev.pos (by rw [marked_length]; omega) (l2Sorted_l n hn d (i + 1) (by omega)))
theorem l2Sorted_ev (n : Nat) (hn : n ≤ 1000) : Ev (fun k => spec_l2Sorted.f k n) (marked 1 n) := l2Sorted_l n hn n 0 (by omega)

theorem sorted_l (n : Nat) (hn : n ≤ 1000) : ∀ d i : Nat, n = i + d → Ev (fun k => impl_sorted.l0 k (marked 1 i) n i) (marked 1 n)
  | 0, i, h => by
    refine Ev.step (fun k => by rw [impl_sorted.l0]) (Ev.neg (by omega) (Ev.val ?_))
    rw [h, Nat.add_zero]
  | d + 1, i, h => by
    refine Ev.step (fun k => by rw [impl_sorted.l0]) ?_
    have e : wrap64 ((i : Int) + 1) = ((i + 1 : Nat) : Int) := by rw [w64 (by omega)]; omega
    have e2 : marked 1 i ++ [((i + 1 : Nat) : Int)] = marked 1 (i + 1) := by rw [marked_snoc]; congr 2; omega
    simp only [e, e2]
    exact Ev.pos (by omega) (Ev.pos (by rw [marked_length]; omega) (sorted_l n hn d (i + 1) (by omega)))
theorem sorted_ev (n : Nat) (hn : n ≤ 1000) : Ev (fun k => impl_sorted.f k n) (marked 1 n) := sorted_l n hn n 0 (by omega)

theorem l2Ways_ev (n : Nat) (h : n ≤ 7) : Ev (fun k => spec_l2Ways.f k (n : Int)) (facN n : Int) := by
  have : n = 0 ∨ n = 1 ∨ n = 2 ∨ n = 3 ∨ n = 4 ∨ n = 5 ∨ n = 6 ∨ n = 7 := by omega
  rcases this with rfl | rfl | rfl | rfl | rfl | rfl | rfl | rfl <;> exact Ev.of (fun k => spec_l2Ways.mono _ k) (k := 10) (by decide +kernel)
theorem l2At_l : ∀ (d : Nat) (left acc : List Int) (k : Nat), left.length = d → d ≤ 7 → acc.length + d ≤ 100 → k < facN d → Ev (fun q => spec_l2At.l0 q (k : Int) acc left) (acc ++ atM d left k)
  | 0, left, acc, k, hl, hd, ha, hk => by
    refine Ev.step (fun q => by rw [spec_l2At.l0]) (Ev.neg (by omega) (Ev.val ?_))
    rw [atM, List.append_nil]
  | d + 1, left, acc, k, hl, hd, ha, hk => by
    refine Ev.step (fun q => by rw [spec_l2At.l0]) (Ev.pos (by omega) ?_)
    have e1 : wrap64 ((left.length : Int) - 1) = (d : Int) := by rw [w64 (by omega)]; omega
    rw [e1]
    clear e1
    refine Ev.bind (l2Ways_ev d (by omega)) (Ev.neg (by have := facN_pos d; omega) ?_)
    have hq := div_lt_of d k (by omega) hk
    have h5 := facN_le (d + 1)
    have e2 : wrap64 (Int.tdiv (k : Int) (facN d : Int)) = ((k / facN d : Nat) : Int) := by rw [tdiv_nat]; exact w64n _ (by have := Nat.div_le_self k (facN d); omega)
    have hmod := Nat.mod_lt k (facN_pos d)
    simp only [e2, tmod_nat]
    rw [atM]
    clear e2 hk
    generalize k / facN d = qq at hq ⊢
    generalize k % facN d = k2 at hmod ⊢
    have e3 : wrap64 ((qq : Int) + 1) = ((qq + 1 : Nat) : Int) := by rw [w64 (by omega)]; omega
    simp only [e3, Int.toNat_natCast, rd_nat]
    clear e3
    refine Ev.pos (by omega) (Ev.pos (by omega) (Ev.pos (by omega) (Ev.pos (by omega) ?_)))
    have h1 : (left.take qq).length < 17592186044416 := by rw [List.length_take]; omega
    simp only [l1Own_is _ h1, Option.bind_some]
    refine Ev.pos (by omega) (Ev.pos (by omega) (Ev.pos (by rw [List.length_take, List.length_drop]; omega) ?_))
    refine Ev.to (l2At_l d _ _ k2 (by rw [List.length_append, List.length_take, List.length_drop]; omega) (by omega) (by rw [List.length_append, List.length_singleton]; omega) hmod) ?_
    rw [List.append_assoc]; rfl
theorem l2At_ev (n k : Nat) (hn : n ≤ 7) (hk : k < facN n) : Ev (fun q => spec_l2At.f q (n : Int) (k : Int)) (atM n (marked 1 n) k) := by
  unfold spec_l2At.f
  exact Ev.bind (l2Sorted_ev n (by omega)) (Ev.to (l2At_l n _ [] k (marked_length n 1) hn (by simp; omega) hk) (List.nil_append _))
theorem l2Orders_l (n : Nat) (hn : n ≤ 7) : ∀ (d i : Nat), facN n = i + d → Ev (fun q => spec_l2Orders.l0 q (n : Int) ((List.range i).map fun k => atM n (marked 1 n) k) (i : Int)) (ordsM n)
  | 0, i, h => by
    refine Ev.step (fun q => by rw [spec_l2Orders.l0]) ?_
    refine Ev.bind (l2Ways_ev n hn) ?_
    refine Ev.neg (by omega) (Ev.val ?_)
    rw [ordsM, h, Nat.add_zero]
  | d + 1, i, h => by
    have h5 := facN_le n
    refine Ev.step (fun q => by rw [spec_l2Orders.l0]) ?_
    refine Ev.bind (l2Ways_ev n hn) ?_
    refine Ev.pos (by omega) ?_
    refine Ev.bind (l2At_ev n i hn (by omega)) ?_
    refine Ev.pos (by rw [List.length_map, List.length_range]; omega) ?_
    have e : wrap64 ((i : Int) + 1) = ((i + 1 : Nat) : Int) := by rw [w64 (by omega)]; omega
    have e2 : ((List.range i).map fun k => atM n (marked 1 n) k) ++ [atM n (marked 1 n) i] = (List.range (i + 1)).map fun k => atM n (marked 1 n) k := by rw [List.range_succ, List.map_append]; rfl
    simp only [e, e2]
    exact l2Orders_l n hn d (i + 1) (by omega)
theorem l2Orders_ev (n : Nat) (hn : n ≤ 7) : Ev (fun q => spec_l2Orders.f q (n : Int)) (ordsM n) := by
  unfold spec_l2Orders.f
  exact l2Orders_l n hn (facN n) 0 (by omega)

theorem factorial_ev (n : Nat) (h : n ≤ 7) : Ev (fun k => impl_factorial.f k (n : Int)) (facN n : Int) := by
  have : n = 0 ∨ n = 1 ∨ n = 2 ∨ n = 3 ∨ n = 4 ∨ n = 5 ∨ n = 6 ∨ n = 7 := by omega
  rcases this with rfl | rfl | rfl | rfl | rfl | rfl | rfl | rfl <;> exact Ev.of (fun k => impl_factorial.mono _ k) (k := 10) (by decide +kernel)
theorem orderAt_l : ∀ (d : Nat) (left acc : List Int) (k : Nat), left.length = d → d ≤ 7 → acc.length + d ≤ 100 → k < facN d → Ev (fun q => impl_orderAt.l0 q (k : Int) left acc) (acc ++ atM d left k)
  | 0, left, acc, k, hl, hd, ha, hk => by
    refine Ev.step (fun q => by rw [impl_orderAt.l0]) (Ev.neg (by omega) (Ev.val ?_))
    rw [atM, List.append_nil]
  | d + 1, left, acc, k, hl, hd, ha, hk => by
    refine Ev.step (fun q => by rw [impl_orderAt.l0]) (Ev.pos (by omega) ?_)
    have e1 : wrap64 ((left.length : Int) - 1) = (d : Int) := by rw [w64 (by omega)]; omega
    rw [e1]
    clear e1
    refine Ev.bind (factorial_ev d (by omega)) (Ev.neg (by have := facN_pos d; omega) ?_)
    have hq := div_lt_of d k (by omega) hk
    have h5 := facN_le (d + 1)
    have e2 : wrap64 (Int.tdiv (k : Int) (facN d : Int)) = ((k / facN d : Nat) : Int) := by rw [tdiv_nat]; exact w64n _ (by have := Nat.div_le_self k (facN d); omega)
    have hmod := Nat.mod_lt k (facN_pos d)
    simp only [e2, tmod_nat]
    rw [atM]
    clear e2 hk
    generalize k / facN d = qq at hq ⊢
    generalize k % facN d = k2 at hmod ⊢
    have e3 : wrap64 ((qq : Int) + 1) = ((qq + 1 : Nat) : Int) := by rw [w64 (by omega)]; omega
    simp only [e3, rd_nat]
    clear e3
    have hdel : slices_Delete_int_int.f left (qq : Int) ((qq + 1 : Nat) : Int) = some (left.take qq ++ left.drop (qq + 1)) := by
      unfold slices_Delete_int_int.f
      rw [if_pos (by omega), Int.toNat_natCast, Int.toNat_natCast]
    refine Ev.pos (by omega) (Ev.pos (by omega) (Ev.pos (by omega) ?_))
    simp only [hdel, Option.bind_some]
    refine Ev.to (orderAt_l d _ _ k2 (by rw [List.length_append, List.length_take, List.length_drop]; omega) (by omega) (by rw [List.length_append, List.length_singleton]; omega) hmod) ?_
    rw [List.append_assoc]; rfl
theorem orderAt_ev (n k : Nat) (hn : n ≤ 7) (hk : k < facN n) : Ev (fun q => impl_orderAt.f q (n : Int) (k : Int)) (atM n (marked 1 n) k) := by
  unfold impl_orderAt.f
  exact Ev.bind (sorted_ev n (by omega)) (Ev.to (orderAt_l n _ [] k (marked_length n 1) hn (by simp; omega) hk) (List.nil_append _))
theorem allOrders_l (n : Nat) (hn : n ≤ 7) : ∀ (d i : Nat), facN n = i + d → Ev (fun q => impl_allOrders.l0 q (n : Int) ((List.range i).map fun k => atM n (marked 1 n) k) (facN n : Int) (i : Int)) (ordsM n)
  | 0, i, h => by
    refine Ev.step (fun q => by rw [impl_allOrders.l0]) (Ev.neg (by omega) (Ev.val ?_))
    rw [ordsM, h, Nat.add_zero]
  | d + 1, i, h => by
    have h5 := facN_le n
    refine Ev.step (fun q => by rw [impl_allOrders.l0]) ?_
    refine Ev.pos (by omega) ?_
    refine Ev.bind (orderAt_ev n i hn (by omega)) ?_
    refine Ev.pos (by rw [List.length_map, List.length_range]; omega) ?_
    have e : wrap64 ((i : Int) + 1) = ((i + 1 : Nat) : Int) := by rw [w64 (by omega)]; omega
    have e2 : ((List.range i).map fun k => atM n (marked 1 n) k) ++ [atM n (marked 1 n) i] = (List.range (i + 1)).map fun k => atM n (marked 1 n) k := by rw [List.range_succ, List.map_append]; rfl
    simp only [e, e2]
    exact allOrders_l n hn d (i + 1) (by omega)
theorem allOrders_ev (n : Nat) (hn : n ≤ 7) : Ev (fun q => impl_allOrders.f q (n : Int)) (ordsM n) := by
  unfold impl_allOrders.f
  exact Ev.bind (factorial_ev n hn) (allOrders_l n hn (facN n) 0 (by omega))

/-! what the laws' own loops make of rows -/
theorem rd_L1_natS (xs : List (List Int)) (i : Nat) : rd_L1 xs (i : Int) = xs.getD i [] := rfl
theorem getD_memS {xs : List (List Int)} {i : Nat} (h : i < xs.length) : xs.getD i [] ∈ xs := by
  rw [List.getD_eq_getElem?_getD, List.getElem?_eq_getElem h]; exact List.getElem_mem h
theorem eqIntSS_l (A : List (List Int)) (hn : A.length ≤ 100000) (hr : ∀ r ∈ A, r.length ≤ 1000) : ∀ d i : Nat, A.length = i + d → Ev (fun k => laws_eqIntSS.l0 k A A (i : Int)) true
  | 0, i, h => by
    refine Ev.step (fun k => by rw [laws_eqIntSS.l0]) ?_
    exact Ev.neg (by omega) (Ev.val rfl)
  | d + 1, i, h => by
    have hm := hr _ (getD_memS (xs := A) (i := i) (by omega))
    refine Ev.step (fun k => by rw [laws_eqIntSS.l0]) ?_
    simp only [wup i (by omega), rd_L1_natS]
    refine Ev.pos (by omega) ?_
    refine Ev.pos (by omega) ?_
    refine Ev.pos (by omega) ?_
    refine Ev.bind (eqIntS_ev _ _ (by omega)) ?_
    exact Ev.pos (by simp) (eqIntSS_l A hn hr d (i + 1) (by omega))
theorem eqIntSS_ev (A : List (List Int)) (hn : A.length ≤ 100000) (hr : ∀ r ∈ A, r.length ≤ 1000) : Ev (fun k => laws_eqIntSS.f k A A) true := by
  unfold laws_eqIntSS.f
  exact Ev.pos rfl (eqIntSS_l A hn hr A.length 0 (by omega))
def marksM : List (List Int) → Int → List (List Int)
  | [], _ => []
  | r :: rs, a => marked a r.length :: marksM rs (a + r.length)
def tot : List (List Int) → Nat
  | [] => 0
  | r :: rs => r.length + tot rs
theorem tot_le : ∀ rs : List (List Int), (∀ r ∈ rs, r.length ≤ 1000) → tot rs ≤ 1000 * rs.length
  | [], _ => by simp [tot]
  | r :: rs, h => by
    have h1 := h r (by simp)
    have h2 := tot_le rs fun x hx => h x (by simp [hx])
    simp only [tot, List.length_cons]
    omega
theorem marksM_length : ∀ (rs : List (List Int)) (a : Int), (marksM rs a).length = rs.length
  | [], _ => rfl
  | r :: rs, a => by simp [marksM, marksM_length rs]
theorem at_front (P rs : List (List Int)) (r : List Int) : (P ++ r :: rs).getD P.length [] = r := by simp
theorem set_front (P rs : List (List Int)) (r y : List Int) : (P ++ r :: rs).set P.length y = (P ++ [y]) ++ rs := by
  rw [List.set_append_right _ _ (Nat.le_refl _)]; simp
theorem markSS_l : ∀ (rs P : List (List Int)) (a : Int), P.length + rs.length ≤ 100000 → (∀ r ∈ rs, r.length ≤ 1000) → 1 ≤ a → a + 1000 * rs.length ≤ 1000000000 → Ev (fun k => laws_markIntSS.l0 k (P ++ rs) a (P.length : Int)) (a + tot rs, P ++ marksM rs a)
  | [], P, a, hn, hr, h1, h2 => by
    refine Ev.step (fun k => by rw [laws_markIntSS.l0]) ?_
    refine Ev.neg (by simp) (Ev.val ?_)
    simp [tot, marksM]
  | r :: rs, P, a, hn, hr, h1, h2 => by
    simp only [List.length_cons] at hn h2
    have hm := hr r (by simp)
    refine Ev.step (fun k => by rw [laws_markIntSS.l0]) ?_
    simp only [wup P.length (by omega), Int.toNat_natCast, at_front]
    refine Ev.pos (by simp; omega) ?_
    refine Ev.pos (by omega) ?_
    refine Ev.bind (markIntS_ev r a (by omega) (by omega) (by omega)) ?_
    simp only [set_front]
    have ih := markSS_l rs (P ++ [marked a r.length]) (a + r.length) (by rw [List.length_append, List.length_singleton]; omega) (fun x hx => hr x (by simp [hx])) (by omega) (by omega)
    rw [List.length_append, List.length_singleton] at ih
    refine Ev.to ih ?_
    simp only [tot, marksM, List.append_assoc, List.singleton_append]
    congr 1
    omega
theorem markSS_ev (R : List (List Int)) (hn : R.length ≤ 100000) (hr : ∀ r ∈ R, r.length ≤ 1000) : Ev (fun k => laws_markIntSS.f k R 1) (1 + (tot R : Int), marksM R 1) := by
  unfold laws_markIntSS.f
  have := markSS_l R [] 1 (by simpa using hn) hr (by omega) (by omega)
  rw [List.nil_append, List.nil_append] at this
  exact this
theorem heldSS_l : ∀ (rs P : List (List Int)) (a : Int), P.length + rs.length ≤ 100000 → (∀ r ∈ rs, r.length ≤ 1000) → 1 ≤ a → a + 1000 * rs.length ≤ 1000000000 → Ev (fun k => laws_heldIntSS.l0 k (P ++ marksM rs a) a (P.length : Int)) (a + tot rs)
  | [], P, a, hn, hr, h1, h2 => by
    refine Ev.step (fun k => by rw [laws_heldIntSS.l0]) ?_
    refine Ev.neg (by simp [marksM]) (Ev.val ?_)
    simp [tot]
  | r :: rs, P, a, hn, hr, h1, h2 => by
    simp only [List.length_cons] at hn h2
    have hm := hr r (by simp)
    refine Ev.step (fun k => by rw [laws_heldIntSS.l0]) ?_
    simp only [wup P.length (by omega), rd_L1_natS, marksM, at_front]
    refine Ev.pos (by simp; omega) ?_
    refine Ev.pos (by omega) ?_
    refine Ev.bind (heldIntS_ev r.length a (by omega) (by omega) (by omega)) ?_
    refine Ev.neg (by omega) ?_
    have ih := heldSS_l rs (P ++ [marked a r.length]) (a + r.length) (by rw [List.length_append, List.length_singleton]; omega) (fun x hx => hr x (by simp [hx])) (by omega) (by omega)
    rw [List.length_append, List.length_singleton, List.append_assoc, List.singleton_append] at ih
    refine Ev.to ih ?_
    simp only [tot]
    omega
theorem heldSS_ev (R : List (List Int)) (hn : R.length ≤ 100000) (hr : ∀ r ∈ R, r.length ≤ 1000) : Ev (fun k => laws_heldIntSS.f k (marksM R 1) 1) (1 + (tot R : Int)) := by
  unfold laws_heldIntSS.f
  have := heldSS_l R [] 1 (by simpa using hn) hr (by omega) (by omega)
  rw [List.nil_append] at this
  exact this
theorem Ev.both {α β : Type} {g : Nat → Option α} {h : Nat → Option β} {a : α} {b : β} (h1 : Ev g a) (h2 : Ev h b) : ∃ K, ∀ k, K ≤ k → g k = some a ∧ h k = some b := by
  obtain ⟨K, h1⟩ := h1
  obtain ⟨L, h2⟩ := h2
  exact ⟨max K L, fun k hk => ⟨h1 k (by omega), h2 k (by omega)⟩⟩

theorem keepO_ev (of_ : Nat → List Int → Option Bool) (p : List Int → Bool) : ∀ l : List (List Int), (∀ x ∈ l, Ev (fun k => of_ k x) (p x)) → Ev (fun k => keepO (of_ k) l) (l.filter fun x => !p x)
  | [], _ => Ev.val rfl
  | x :: l, h => by
    refine Ev.congr (fun k => by rw [keepO]) ?_
    refine Ev.bind (h x (by simp)) (Ev.bind (keepO_ev of_ p l fun y hy => h y (by simp [hy])) (Ev.val ?_))
    rw [List.filter_cons]
    cases p x <;> rfl
theorem drop_stepK (l : List (List Int)) (i : Nat) (h : i < l.length) : l.drop i = l.getD i [] :: l.drop (i + 1) := by
  rw [List.getD_eq_getElem?_getD, List.getElem?_eq_getElem h]; exact List.drop_eq_getElem_cons h
theorem getD_memK {xs : List (List Int)} {i : Nat} (h : i < xs.length) : xs.getD i [] ∈ xs := by
  rw [List.getD_eq_getElem?_getD, List.getElem?_eq_getElem h]; exact List.getElem_mem h
theorem rd_L1_natK (xs : List (List Int)) (i : Nat) : rd_L1 xs (i : Int) = xs.getD i [] := rfl

/-! ends words by which an order comes out of another: both sides go side by side -/
theorem str_snoc (out : List Int) (n : Int) : strOfNums (out ++ [n]) = strOfNums out ++ (⟨#[UInt8.ofNat n.toNat]⟩ : ByteArray) := by
  apply ByteArray.ext
  apply Array.ext'
  simp [strOfNums, ByteArray.data_append]
theorem str_T (out : List Int) : strOfNums (out ++ [84]) = strOfNums out ++ (⟨#[84]⟩ : ByteArray) := str_snoc out 84
theorem str_B (out : List Int) : strOfNums (out ++ [66]) = strOfNums out ++ (⟨#[66]⟩ : ByteArray) := str_snoc out 66
theorem str_I (out : List Int) : strOfNums (out ++ [73]) = strOfNums out ++ (⟨#[73]⟩ : ByteArray) := str_snoc out 73
/-- where both are, ahead of one more look -/
structure EndsAt (l s : List Int) (m i next : Nat) (there out : List Int) : Prop where
  hi : i < s.length
  hn : next ≤ l.length
  hm : (s.length - i) + (l.length - next) ≤ m
  ht : there.length ≤ next
  ho : out.length ≤ i + next
def Both1 (l s : List Int) (i next : Nat) (there out : List Int) : Prop := ∃ r : ByteArray × Bool, r.1.size ≤ 2000 ∧ Ev (fun k => spec_l8To.l1 k l s (strOfNums out) there (next : Int) (i : Int)) r ∧ Ev (fun k => impl_endsTo.l1 k (l.drop next) there out (nth s i) s (s.length : Int) (i : Int)) r
def Both0 (l s : List Int) (i next : Nat) (there out : List Int) : Prop := ∃ r : ByteArray × Bool, r.1.size ≤ 2000 ∧ Ev (fun k => spec_l8To.l0 k l s (strOfNums out) there (next : Int) (i : Int)) r ∧ Ev (fun k => impl_endsTo.l0 k (l.drop next) there out s (s.length : Int) (i : Int)) r
theorem both0_of {l s : List Int} {i next : Nat} {there out : List Int} (h : i < s.length → Both1 l s i next there out) (hi : i ≤ s.length) (hz : out.length ≤ 2000) : Both0 l s i next there out := by
  by_cases hc : i < s.length
  · obtain ⟨r, hr, h1, h2⟩ := h hc
    refine ⟨r, hr, ?_, ?_⟩
    · refine Ev.step (fun k => by rw [spec_l8To.l0]) ?_
      exact Ev.pos (by omega) h1
    · refine Ev.step (fun k => by rw [impl_endsTo.l0]) ?_
      exact Ev.pos (by omega) (Ev.pos (by omega) (Ev.pos (by omega) h2))
  · refine ⟨(strOfNums out, true), by rw [strOfNums_size]; exact hz, ?_, ?_⟩
    · refine Ev.step (fun k => by rw [spec_l8To.l0]) ?_
      exact Ev.neg (by omega) (Ev.val rfl)
    · refine Ev.step (fun k => by rw [impl_endsTo.l0]) ?_
      exact Ev.neg (by omega) (Ev.val rfl)
/-- behind the look at the bottom -/
theorem both_j3 {l s : List Int} (hl : l.length ≤ 1000) (hs : s.length ≤ 1000) {m i next : Nat} {there out : List Int} (h : EndsAt l s m i next there out) (b : Bool) (hb : b = true → 0 < there.length)
    (h0 : 0 < there.length → Both0 l s (i + 1) next (there.drop 1) (out ++ [66])) (h1 : next < l.length → Both1 l s i (next + 1) (there ++ [nth l next]) (out ++ [73])) :
    ∃ r : ByteArray × Bool, r.1.size ≤ 2000 ∧ Ev (fun k => spec_l8To.j3 k l s (strOfNums out) there (next : Int) (i : Int) b) r ∧ Ev (fun k => impl_endsTo.j3 k (l.drop next) there out (nth s i) s (s.length : Int) (i : Int) b) r := by
  obtain ⟨hi, hn, hm, ht, ho⟩ := h
  have hsz : (strOfNums out).size = out.length := strOfNums_size out
  cases b with
  | true =>
    have hp := hb rfl
    obtain ⟨r, hr, a1, a2⟩ := h0 hp
    rw [str_B] at a1
    refine ⟨r, hr, ?_, ?_⟩
    · refine Ev.step (fun k => by rw [spec_l8To.j3]) ?_
      simp only [wup i (by omega)]
      refine Ev.pos trivial (Ev.pos (by omega) ?_)
      simp only [l1Own_is (there.drop 1) (by rw [List.length_drop]; omega), Option.bind_some]
      exact Ev.pos (by omega) a1
    · refine Ev.step (fun k => by rw [impl_endsTo.j3]) ?_
      simp only [wup i (by omega), Option.bind_some]
      exact Ev.pos trivial (Ev.pos (by simp; omega) (Ev.pos (by omega) a2))
  | false =>
    by_cases hc : next = l.length
    · refine ⟨((⟨#[]⟩ : ByteArray), false), Nat.zero_le _, ?_, ?_⟩
      · refine Ev.step (fun k => by rw [spec_l8To.j3]) ?_
        exact Ev.neg (by simp) (Ev.pos (by omega) (Ev.val rfl))
      · refine Ev.step (fun k => by rw [impl_endsTo.j3]) ?_
        refine Ev.neg (by simp) ?_
        refine Ev.pos ?_ (Ev.val rfl)
        rw [List.length_drop]; omega
    · obtain ⟨r, hr, a1, a2⟩ := h1 (by omega)
      rw [str_I] at a1
      refine ⟨r, hr, ?_, ?_⟩
      · refine Ev.step (fun k => by rw [spec_l8To.j3]) ?_
        simp only [wup next (by omega), rd_nat]
        exact Ev.neg (by simp) (Ev.neg (by omega) (Ev.pos (by omega) (Ev.pos (by omega) (Ev.pos (by omega) (Ev.pos (by omega) a1)))))
      · refine Ev.step (fun k => by rw [impl_endsTo.j3]) ?_
        have e4 : rd (l.drop next) 0 = nth l next := by
          show nth (l.drop next) 0 = _
          unfold nth
          rw [List.getD_eq_getElem?_getD, List.getD_eq_getElem?_getD, List.getElem?_drop, Nat.add_zero]
        have e5 : (l.drop next).drop 1 = l.drop (next + 1) := by rw [List.drop_drop]
        simp only [e4, e5, Option.bind_some]
        clear e4 e5
        have e6 : (l.drop next).length = l.length - next := List.length_drop
        refine Ev.neg (by simp) ?_
        refine Ev.neg (by omega) ?_
        refine Ev.pos (by simp; omega) ?_
        refine Ev.pos (by omega) ?_
        refine Ev.pos (by simp; omega) ?_
        exact Ev.pos (by omega) a2
theorem both1 {l s : List Int} (hl : l.length ≤ 1000) (hs : s.length ≤ 1000) : ∀ (m i next : Nat) (there out : List Int), EndsAt l s m i next there out → Both1 l s i next there out
  | 0, i, next, there, out, h => absurd h.hm (by have := h.hi; omega)
  | m + 1, i, next, there, out, h => by
    have hT : 0 < there.length → Both0 l s (i + 1) next (there.take (there.length - 1)) (out ++ [84]) := fun hp => both0_of (fun hc => both1 hl hs m (i + 1) next _ _ ⟨hc, h.hn, by have := h.hm; have := h.hi; omega, by rw [List.length_take]; have := h.ht; omega, by rw [List.length_append, List.length_singleton]; have := h.ho; omega⟩) (by have := h.hi; omega) (by rw [List.length_append, List.length_singleton]; have := h.ho; have := h.hi; have := h.hn; omega)
    have hB : 0 < there.length → Both0 l s (i + 1) next (there.drop 1) (out ++ [66]) := fun hp => both0_of (fun hc => both1 hl hs m (i + 1) next _ _ ⟨hc, h.hn, by have := h.hm; have := h.hi; omega, by rw [List.length_drop]; have := h.ht; omega, by rw [List.length_append, List.length_singleton]; have := h.ho; omega⟩) (by have := h.hi; omega) (by rw [List.length_append, List.length_singleton]; have := h.ho; have := h.hi; have := h.hn; omega)
    have hI : next < l.length → Both1 l s i (next + 1) (there ++ [nth l next]) (out ++ [73]) := fun hp => both1 hl hs m i (next + 1) _ _ ⟨h.hi, hp, by have := h.hm; omega, by rw [List.length_append, List.length_singleton]; have := h.ht; omega, by rw [List.length_append, List.length_singleton]; have := h.ho; omega⟩
    have hj3 := fun b hb => both_j3 hl hs h b hb hB hI
    have ht := h.ht
    have hi := h.hi
    have hn := h.hn
    have ho := h.ho
    have hsz : (strOfNums out).size = out.length := strOfNums_size out
    rcases Nat.eq_zero_or_pos there.length with h0 | hp
    · obtain ⟨r, hr, a1, a2⟩ := hj3 false (fun hb => by cases hb)
      refine ⟨r, hr, ?_, ?_⟩
      · refine Ev.step (fun k => by rw [spec_l8To.l1]) ?_
        refine Ev.neg (by omega) ?_
        refine Ev.step (fun k => by rw [spec_l8To.j2]) ?_
        exact Ev.neg (by simp) (Ev.neg (by omega) a1)
      · refine Ev.step (fun k => by rw [impl_endsTo.l1]) ?_
        simp only [show wrap64 ((there.length : Int) - 1) = -1 from by rw [h0, w64 (by omega)]; rfl]
        refine Ev.neg (by omega) ?_
        refine Ev.step (fun k => by rw [impl_endsTo.j2]) ?_
        exact Ev.neg (by simp) (Ev.neg (by omega) a2)
    · by_cases hc : nth there (there.length - 1) = nth s i
      · obtain ⟨r, hr, a1, a2⟩ := hT hp
        rw [str_T] at a1
        have hc' : (nth there (there.length - 1) == nth s i) = true := by simp [hc]
        refine ⟨r, hr, ?_, ?_⟩
        · refine Ev.step (fun k => by rw [spec_l8To.l1]) ?_
          simp only [wdn there.length hp (by omega), rd_nat, hc']
          refine Ev.pos (by omega) (Ev.pos (by omega) (Ev.pos (by omega) (Ev.pos (by omega) (Ev.pos (by omega) ?_))))
          refine Ev.step (fun k => by rw [spec_l8To.j2]) ?_
          simp only [wup i (by omega), wdn there.length hp (by omega), Int.toNat_natCast]
          exact Ev.pos trivial (Ev.pos (by omega) (Ev.pos (by omega) (Ev.pos (by omega) a1)))
        · refine Ev.step (fun k => by rw [impl_endsTo.l1]) ?_
          simp only [wdn there.length hp (by omega), rd_nat, hc']
          refine Ev.pos (by omega) (Ev.pos (by omega) (Ev.pos (by omega) ?_))
          refine Ev.step (fun k => by rw [impl_endsTo.j2]) ?_
          simp only [wup i (by omega), Option.bind_some, Int.toNat_natCast]
          exact Ev.pos trivial (Ev.pos (by simp; omega) (Ev.pos (by omega) (Ev.pos (by omega) a2)))
      · have hc' : (nth there (there.length - 1) == nth s i) = false := by simp [hc]
        obtain ⟨r, hr, a1, a2⟩ := hj3 (nth there 0 == nth s i) (fun _ => hp)
        have e3 : ∀ x : List Int, rd x 0 = nth x 0 := fun _ => rfl
        refine ⟨r, hr, ?_, ?_⟩
        · refine Ev.step (fun k => by rw [spec_l8To.l1]) ?_
          simp only [wdn there.length hp (by omega), rd_nat, hc']
          refine Ev.pos (by omega) (Ev.pos (by omega) (Ev.pos (by omega) (Ev.pos (by omega) (Ev.pos (by omega) ?_))))
          refine Ev.step (fun k => by rw [spec_l8To.j2]) ?_
          simp only [e3, rd_nat]
          exact Ev.neg (by simp) (Ev.pos (by omega) (Ev.pos (by omega) (Ev.pos (by omega) (Ev.pos (by omega) a1))))
        · refine Ev.step (fun k => by rw [impl_endsTo.l1]) ?_
          simp only [wdn there.length hp (by omega), rd_nat, hc']
          refine Ev.pos (by omega) (Ev.pos (by omega) (Ev.pos (by omega) ?_))
          refine Ev.step (fun k => by rw [impl_endsTo.j2]) ?_
          simp only [e3]
          exact Ev.neg (by simp) (Ev.pos (by omega) (Ev.pos (by omega) a2))
theorem endsTo_bothz (l s : List Int) (hl : l.length ≤ 1000) (hs : s.length ≤ 1000) : ∃ r : ByteArray × Bool, r.1.size ≤ 2000 ∧ Ev (fun k => spec_l8To.f k l s) r ∧ Ev (fun k => impl_endsTo.f k l s) r := by
  have := both0_of (l := l) (s := s) (i := 0) (next := 0) (there := []) (out := []) (fun hc => both1 hl hs (s.length + l.length) 0 0 [] [] ⟨hc, Nat.zero_le _, by omega, by simp, by simp⟩) (Nat.zero_le _) (by simp)
  obtain ⟨r, hr, h1, h2⟩ := this
  rw [List.drop_zero] at h2
  have e : strOfNums [] = (⟨#[]⟩ : ByteArray) := rfl
  rw [e] at h1
  unfold spec_l8To.f impl_endsTo.f
  exact ⟨r, hr, h1, h2⟩
theorem endsTo_both (l s : List Int) (hl : l.length ≤ 1000) (hs : s.length ≤ 1000) : ∃ r : ByteArray × Bool, Ev (fun k => spec_l8To.f k l s) r ∧ Ev (fun k => impl_endsTo.f k l s) r := by
  obtain ⟨r, _, h⟩ := endsTo_bothz l s hl hs
  exact ⟨r, h⟩

theorem ends_g (l : List Int) (hl : l.length ≤ 1000) : ∃ g : List Int → Bool, ∀ t : List Int, t.length ≤ 1000 → ∃ w : ByteArray, Ev (fun k => spec_l8To.f k l t) (w, g t) ∧ Ev (fun k => impl_endsTo.f k l t) (w, g t) := by
  have h : ∀ t : List Int, ∃ b : Bool, t.length ≤ 1000 → ∃ w : ByteArray, Ev (fun k => spec_l8To.f k l t) (w, b) ∧ Ev (fun k => impl_endsTo.f k l t) (w, b) := fun t => by
    by_cases ht : t.length ≤ 1000
    · obtain ⟨⟨w, b⟩, h1, h2⟩ := endsTo_both l t hl ht
      exact ⟨b, fun _ => ⟨w, h1, h2⟩⟩
    · exact ⟨false, fun h => absurd h ht⟩
  exact Classical.skolem.1 h
theorem endsOutputs_ev (l : List Int) (h7 : l.length ≤ 7) (g : List Int → Bool) (hg : ∀ t : List Int, t.length ≤ 1000 → ∃ w : ByteArray, Ev (fun k => spec_l8To.f k l t) (w, g t) ∧ Ev (fun k => impl_endsTo.f k l t) (w, g t)) : Ev (fun k => impl_endsOutputs.f k l) ((ordsM l.length).filter g) := by
  unfold impl_endsOutputs.f
  refine Ev.bind (allOrders_ev l.length h7) ?_
  refine Ev.to (keepO_ev (fun k x => impl_endsOutputs_1.f k x l) (fun x => !g x) _ fun x hx => ?_) (by simp)
  obtain ⟨w, _, h2⟩ := hg x (by have := ordsM_len _ x hx; omega)
  unfold impl_endsOutputs_1.f
  exact Ev.bind h2 (Ev.val rfl)

theorem specEO_l (l : List Int) (h7 : l.length ≤ 7) (g : List Int → Bool) (hg : ∀ t : List Int, t.length ≤ 1000 → ∃ w : ByteArray, Ev (fun k => spec_l8To.f k l t) (w, g t) ∧ Ev (fun k => impl_endsTo.f k l t) (w, g t)) :
    ∀ (d i : Nat) (acc : List (List Int)), (ordsM l.length).length = i + d → acc.length ≤ i → Ev (fun k => spec_EndsOutputs.l0 k l acc (ordsM l.length) (i : Int)) (acc ++ ((ordsM l.length).drop i).filter g, true)
  | 0, i, acc, h, ha => by
    refine Ev.step (fun k => by rw [spec_EndsOutputs.l0]) ?_
    refine Ev.neg (by omega) (Ev.val ?_)
    rw [List.drop_of_length_le (by omega)]; simp
  | d + 1, i, acc, h, ha => by
    have hlen := facN_le l.length
    have hol := ordsM_length l.length
    have hi : i < (ordsM l.length).length := by omega
    have hxl := ordsM_len _ _ (getD_memK hi)
    rw [drop_stepK _ i hi]
    refine Ev.step (fun k => by rw [spec_EndsOutputs.l0]) ?_
    simp only [wup i (by omega), rd_L1_natK]
    generalize (ordsM l.length).getD i [] = x at hxl ⊢
    obtain ⟨w, h1, _⟩ := hg x (by omega)
    refine Ev.pos (by omega) (Ev.pos (by omega) (Ev.bind h1 ?_))
    rw [List.filter_cons]
    refine Ev.ite (fun hc => ?_) (fun hc => ?_)
    · have hc' : g x = true := hc
      rw [if_pos hc']
      refine Ev.pos (by omega) (Ev.to (specEO_l l h7 g hg d (i + 1) (acc ++ [x]) (by omega) (by rw [List.length_append, List.length_singleton]; omega)) ?_)
      rw [List.append_assoc]; rfl
    · have hc' : ¬ g x = true := hc
      rw [if_neg hc']
      exact specEO_l l h7 g hg d (i + 1) acc (by omega) (by omega)
theorem bothEndsOutputs (l : List Int) (hn : l.length ≤ 17592186044415) : ∃ (R : List (List Int)) (b : Bool), R.length ≤ 100000 ∧ (∀ r ∈ R, r.length ≤ 1000) ∧ Ev (fun k => spec_EndsOutputs.f k l) (R, b) ∧ Ev (fun k => impl_EndsOutputs.f k l) (R, b) := by
  unfold spec_EndsOutputs.f impl_EndsOutputs.f
  by_cases hc : isOrd l = true
  · have hl := isOrd_len hc
    obtain ⟨g, hg⟩ := ends_g l (by omega)
    have hlen := facN_le l.length
    have hol := ordsM_length l.length
    have hfl := List.length_filter_le g (ordsM l.length)
    refine ⟨(ordsM l.length).filter g, true, by omega, fun r hr => by have := ordsM_len _ r (List.mem_filter.1 hr).1; omega, ?_, ?_⟩
    · refine Ev.bind (Ev.now _) (Ev.bind (l2Order_ev l (by omega)) (Ev.pos hc (Ev.bind (l2Orders_ev l.length hl.2) ?_)))
      exact Ev.to (specEO_l l hl.2 g hg (ordsM l.length).length 0 [] (by omega) (by simp)) (by simp)
    · refine Ev.bind (isOrder_ev l (by omega)) (Ev.pos hc ?_)
      exact Ev.bind (endsOutputs_ev l hl.2 g hg) (Ev.val rfl)
  · refine ⟨[], false, by simp, by simp, ?_, ?_⟩
    · exact Ev.bind (Ev.now _) (Ev.bind (l2Order_ev l (by omega)) (Ev.neg hc (Ev.val rfl)))
    · exact Ev.bind (isOrder_ev l (by omega)) (Ev.neg hc (Ev.val rfl))

theorem FnExactEndsOutputs : laws_FnExactEndsOutputs.Pure := by
  intro l hm hr hw hn
  obtain ⟨R, b, hR, hrow, h1, h2⟩ := bothEndsOutputs l (by omega)
  obtain ⟨K1, g1⟩ := Ev.both h1 h2
  obtain ⟨K2, g2⟩ := Ev.both (toIntS_ev l (by omega)) (eqIntS_ev l l (by omega))
  obtain ⟨K3, g3⟩ := Ev.both (eqIntSS_ev R hR hrow) (markIntS_ev l 1 (by omega) (by omega) (by omega))
  obtain ⟨K4, g4⟩ := Ev.both (markSS_ev R hR hrow) (heldSS_ev R hR hrow)
  have e1 := g1 (K1 + K2 + K3 + K4) (by omega)
  have e2 := g2 (K1 + K2 + K3 + K4) (by omega)
  have e3 := g3 (K1 + K2 + K3 + K4) (by omega)
  have e4 := g4 (K1 + K2 + K3 + K4) (by omega)
  refine ⟨K1 + K2 + K3 + K4, R, b, _, _, _, _, ⟨e2.1, e1.1, e1.2, e3.1, by have := e2.2; simpa using this, e3.2, by omega, e4.1, e4.2, by omega⟩⟩

end Go.Proofs.Ytgdjnaojcpoigaa.Pure
