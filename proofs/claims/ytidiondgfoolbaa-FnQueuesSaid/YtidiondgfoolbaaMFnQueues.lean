/- The fewest queues are the longest fall, and ways into queues are there where queues are enough. -/
import Derived.Test.YtidiondgfoolbaaPFnQueuesx0
import Derived.Test.YtidiondgfoolbaaPFnQueuesx1
import Derived.Test.YtidiondgfoolbaaPFnQueuesx2
import Derived.Test.YtidiondgfoolbaaPFnQueuesx3
import Derived.Test.YtidiondgfoolbaaPFnQueuesx4
import Derived.Test.YtidiondgfoolbaaPFnQueuesx5
import Derived.Test.YtidiondgfoolbaaPFnQueuesx6
import Derived.Test.YtidiondgfoolbaaPFnQueuesx7
import Derived.Test.YtidiondgfoolbaaPFnQueuesx8
import Derived.Test.YtidiondgfoolbaaPFnQueuesx9
import Derived.Test.YtidiondgfoolbaaPFnQueuesx10
import Derived.Test.YtidiondgfoolbaaPFnQueuesx11
import Derived.Test.YtidiondgfoolbaaPFnQueuesx12
import Derived.Test.YtidiondgfoolbaaPFnQueuesx13
import Derived.Test.YtidiondgfoolbaaPFnQueuesx14
import Derived.Test.YtidiondgfoolbaaPFnQueuesx15
import Derived.Test.YtidiondgfoolbaaPFnQueuesx16
import Derived.Test.YtidiondgfoolbaaPFnQueuesx17
import Derived.Test.YtidiondgfoolbaaPFnQueuesx18
import Derived.WalkSmall
import Derived.Test.YtidiondgfoolbaaK
set_option linter.unusedVariables false
set_option linter.unusedSimpArgs false
namespace Go.Proofs.Ytidiondgfoolbaa.Pure
open Go.RowKit Go.Proofs.Ytidiondgfoolbaa.PFnQueues Go.Proofs.YtidiondgfoolbaaW.PrintWords Go.Proofs.YtidiondgfoolbaaW.PrintLast Go.Proofs.YtidiondgfoolbaaW.PrintMore
theorem vInts_l (a b : List Int) (hn : a.length ≤ 17592186044416) (hl : a.length = b.length) : ∀ (d i : Nat), a.length = i + d → Ev (fun k => laws_vInts.l0 k a b i) (decide (a.drop i = b.drop i))
  | 0, i, h => by
    refine Ev.step (fun k => by rw [laws_vInts.l0]) ?_
    refine Ev.neg (by omega) (Ev.val ?_)
    rw [List.drop_of_length_le (by omega), List.drop_of_length_le (by omega)]
    simp
  | d + 1, i, h => by
    refine Ev.step (fun k => by rw [laws_vInts.l0]) ?_
    refine Ev.pos (by omega) (Ev.pos (by omega) (Ev.pos (by omega) ?_))
    have e : wrap64 ((i : Int) + 1) = ((i + 1 : Nat) : Int) := by rw [w64 (by omega)]; omega
    simp only [e]
    rw [drop_step a i (by omega), drop_step b i (by omega)]
    refine Ev.ite (fun hc => ?_) (fun hc => Ev.val ?_)
    · have hc' : nth a i = nth b i := hc
      refine (vInts_l a b hn hl d (i + 1) (by omega)).to ?_
      rw [hc']
      simp
    · have hc' : ¬ nth a i = nth b i := hc
      simp [hc']
theorem vInts_ev (a b : List Int) (hn : a.length ≤ 17592186044416) : Ev (fun k => laws_vInts.f k a b) (decide (a = b)) := by
  unfold laws_vInts.f
  refine Ev.ite (fun hc => ?_) (fun hc => Ev.val ?_)
  · exact (vInts_l a b hn (by omega) a.length 0 (by omega)).to (by simp)
  · have : ¬ a = b := fun h => hc (by rw [h])
    simp [this]
theorem l1In_is (a b c : Int) : spec_l1In.f a b c = some (decide (b ≤ a ∧ a ≤ c)) := by
  unfold spec_l1In.f
  by_cases h : a ≥ b
  · rw [if_pos h]; simp [h]
  · rw [if_neg h]; simp; omega
theorem l1Has_l (l : List Int) (x : Int) (hn : l.length ≤ 17592186044416) : ∀ (d i : Nat), l.length = i + d → Ev (fun k => spec_l1Has.l0 k l x i) ((l.drop i).contains x)
  | 0, i, h => by
    refine Ev.step (fun k => by rw [spec_l1Has.l0]) ?_
    refine Ev.neg (by omega) (Ev.val ?_)
    rw [List.drop_of_length_le (by omega)]
    simp
  | d + 1, i, h => by
    refine Ev.step (fun k => by rw [spec_l1Has.l0]) ?_
    have e : wrap64 ((i : Int) + 1) = ((i + 1 : Nat) : Int) := by rw [w64 (by omega)]; omega
    simp only [e]
    rw [drop_step l i (by omega)]
    refine Ev.pos (by omega) (Ev.pos (by omega) (Ev.ite (fun hc => Ev.val ?_) (fun hc => ?_)))
    · have hc' : nth l i = x := hc
      rw [hc']; simp
    · have hc' : ¬ nth l i = x := hc
      refine (l1Has_l l x hn d (i + 1) (by omega)).to ?_
      have : ¬ x = nth l i := fun h => hc' h.symm
      rw [List.contains_cons]
      simp [this]
theorem l1Has_ev (l : List Int) (x : Int) (hn : l.length ≤ 17592186044416) : Ev (fun k => spec_l1Has.f k l x) (l.contains x) := by
  unfold spec_l1Has.f
  exact (l1Has_l l x hn l.length 0 (by omega)).to (by simp)
theorem l2Order_l (l : List Int) (hn : l.length ≤ 17592186044416) : ∀ (d i : Nat), l.length = i + d → Ev (fun k => spec_l2Order.l0 k l i) (allFrom (ordAt l) d i)
  | 0, i, h => by
    refine Ev.step (fun k => by rw [spec_l2Order.l0]) ?_
    exact Ev.neg (by omega) (Ev.val rfl)
  | d + 1, i, h => by
    refine Ev.step (fun k => by rw [spec_l2Order.l0]) ?_
    have e : wrap64 ((i : Int) + 1) = ((i + 1 : Nat) : Int) := by rw [w64 (by omega)]; omega
    simp only [e, l1In_is, Option.bind_some, rd_nat, Int.toNat_natCast, decide_eq_true_eq]
    refine Ev.pos (by omega) (Ev.pos (by omega) (Ev.ite (fun hc => Ev.pos (by omega) ?_) (fun hc => Ev.val ?_)))
    · refine Ev.bind (l1Has_ev _ _ (by simp; omega)) ?_
      refine Ev.ite (fun hb => Ev.val ?_) (fun hb => (l2Order_l l hn d (i + 1) (by omega)).to ?_)
      · rw [allFrom, ordAt, hb]; simp
      · rw [Bool.not_eq_true] at hb
        rw [allFrom, ordAt, hb]; simp [hc]
    · rw [allFrom, ordAt]
      by_cases h1 : 1 ≤ nth l i
      · have : ¬ nth l i ≤ l.length := fun h2 => hc ⟨h1, h2⟩
        simp [this]
      · simp [h1]
theorem l2Order_ev (l : List Int) (hn : l.length ≤ 17592186044416) : Ev (fun k => spec_l2Order.f k l) (isOrd l) := by
  unfold spec_l2Order.f
  simp only [l1In_is, Option.bind_some, decide_eq_true_eq]
  refine Ev.ite (fun hc => (l2Order_l l hn l.length 0 (by omega)).to ?_) (fun hc => Ev.val ?_)
  · have h1 : 1 ≤ l.length := by omega
    have h2 : l.length ≤ 7 := by omega
    simp [isOrd, h1, h2]
  · rw [isOrd]
    by_cases h1 : 1 ≤ l.length
    · have : ¬ l.length ≤ 7 := by omega
      simp [this]
    · simp [h1]
theorem Index_l (l : List Int) (x : Int) (hn : l.length ≤ 17592186044416) : ∀ (d i : Nat), l.length = i + d → (∀ j, j < i → nth l j ≠ x) → Ev (fun k => slices_Index_int_int.l0 k l x (l.length : Int) i) (idx l x)
  | 0, i, h, hq => by
    refine Ev.step (fun k => by rw [slices_Index_int_int.l0]) ?_
    refine Ev.neg (by omega) (Ev.val ?_)
    exact (idx_none l x fun j hj => hq j (by omega)).symm
  | d + 1, i, h, hq => by
    refine Ev.step (fun k => by rw [slices_Index_int_int.l0]) ?_
    have e : wrap64 ((i : Int) + 1) = ((i + 1 : Nat) : Int) := by rw [w64 (by omega)]; omega
    simp only [e]
    refine Ev.pos (by omega) (Ev.pos (by omega) (Ev.pos (by omega) (Ev.ite (fun hc => Ev.val ?_) (fun hc => ?_))))
    · exact (idx_some l x i (by omega) (by rw [hc]; rfl) hq).symm
    · refine Index_l l x hn d (i + 1) (by omega) (fun j hj => ?_)
      by_cases e : j = i
      · subst e; exact fun h => hc h.symm
      · exact hq j (by omega)
theorem Index_ev (l : List Int) (x : Int) (hn : l.length ≤ 17592186044416) : Ev (fun k => slices_Index_int_int.f k l x) (idx l x) := by
  unfold slices_Index_int_int.f
  exact Index_l l x hn l.length 0 (by omega) (fun j hj => by omega)
theorem Contains_ev (l : List Int) (x : Int) (hn : l.length ≤ 17592186044416) : Ev (fun k => slices_Contains_int_int.f k l x) (l.contains x) := by
  unfold slices_Contains_int_int.f
  exact Ev.bind (Index_ev l x hn) (Ev.val (idx_contains l x))
theorem isOrder_l (l : List Int) (hn : l.length ≤ 17592186044416) : ∀ (d i : Nat), l.length = i + d → Ev (fun k => impl_isOrder.l0 k l l (l.length : Int) i) (allFrom (ordAt l) d i)
  | 0, i, h => by
    refine Ev.step (fun k => by rw [impl_isOrder.l0]) ?_
    exact Ev.neg (by omega) (Ev.val rfl)
  | d + 1, i, h => by
    refine Ev.step (fun k => by rw [impl_isOrder.l0]) ?_
    have e : wrap64 ((i : Int) + 1) = ((i + 1 : Nat) : Int) := by rw [w64 (by omega)]; omega
    simp only [e, rd_nat, Int.toNat_natCast]
    refine Ev.pos (by omega) (Ev.pos (by omega) (Ev.pos (by omega) (Ev.ite (fun hc => Ev.val ?_) (fun hc => Ev.ite (fun hd => Ev.val ?_) (fun hd => Ev.pos (by omega) ?_)))))
    · have : ¬ 1 ≤ nth l i := by omega
      rw [allFrom, ordAt]; simp [this]
    · have : ¬ nth l i ≤ l.length := by omega
      rw [allFrom, ordAt]; simp [this]
    · refine Ev.bind (Contains_ev _ _ (by simp; omega)) ?_
      refine Ev.ite (fun hb => Ev.val ?_) (fun hb => (isOrder_l l hn d (i + 1) (by omega)).to ?_)
      · rw [allFrom, ordAt, hb]; simp
      · rw [Bool.not_eq_true] at hb
        have h1 : 1 ≤ nth l i := by omega
        have h2 : nth l i ≤ l.length := by omega
        rw [allFrom, ordAt, hb]; simp [h1, h2]
theorem isOrder_ev (l : List Int) (hn : l.length ≤ 17592186044416) : Ev (fun k => impl_isOrder.f k l) (isOrd l) := by
  unfold impl_isOrder.f
  refine Ev.ite (fun hc => ?_) (fun hc => ?_)
  · refine Ev.step (fun k => by rw [impl_isOrder.j0]) ?_
    refine Ev.pos rfl (Ev.val ?_)
    have : ¬ 1 ≤ l.length := by omega
    simp [isOrd, this]
  · refine Ev.step (fun k => by rw [impl_isOrder.j0]) ?_
    simp only [decide_eq_true_eq]
    refine Ev.ite (fun hd => Ev.val ?_) (fun hd => (isOrder_l l hn l.length 0 (by omega)).to ?_)
    · have : ¬ l.length ≤ 7 := by omega
      simp [isOrd, this]
    · have h1 : 1 ≤ l.length := by omega
      have h2 : l.length ≤ 7 := by omega
      simp [isOrd, h1, h2]
theorem isSize_is (a : Int) : impl_isSize.f a = some (decide (1 ≤ a ∧ a ≤ 7)) := by
  unfold impl_isSize.f
  by_cases h : a ≥ 1
  · rw [if_pos h]; simp [h]
  · rw [if_neg h]; simp; omega
def allO (ns : List Int) (p : List Int → Bool) : Nat → List Int → Bool
  | 0, q => p q
  | d + 1, q => ns.all fun c => q.contains c || allO ns p d (c :: q)
theorem isOrd_drop {l : List Int} (h : isOrd l = true) (i : Nat) (hi : i < l.length) : nth l i ∉ l.drop (i + 1) := by
  intro hm
  obtain ⟨j, hj, e⟩ := List.mem_iff_getElem.1 hm
  rw [List.getElem_drop] at e
  simp only [List.length_drop] at hj
  refine (isOrd_at h (i + 1 + j) (by omega)).2.2 ?_
  rw [nth_lt l (i + 1 + j) (by omega), e, nth_lt l i hi, List.mem_take_iff_getElem]
  exact ⟨i, by omega, rfl⟩
theorem allO_mem {l : List Int} (h : isOrd l = true) (ns : List Int) (hns : ∀ x : Int, 1 ≤ x → x ≤ l.length → x ∈ ns) (p : List Int → Bool) : ∀ i, i ≤ l.length → allO ns p i (l.drop i) = true → p l = true
  | 0, _, hp => by simpa [allO] using hp
  | i + 1, hi, hp => by
    rw [allO, List.all_eq_true] at hp
    have ha := isOrd_at h i (by omega)
    have h1 := hp (nth l i) (hns _ ha.1 ha.2.1)
    have h2 : (l.drop (i + 1)).contains (nth l i) = false := by
      have := isOrd_drop h i (by omega)
      simpa using this
    rw [h2, Bool.false_or, ← drop_step l i (by omega)] at h1
    exact allO_mem h ns hns p i (by omega) h1
def intsTo (n : Nat) : List Int := ([1, 2, 3, 4, 5, 6, 7] : List Int).take n
theorem intsTo_mem : ∀ n : Nat, n ≤ 7 → ∀ x : Int, 1 ≤ x → x ≤ n → x ∈ intsTo n := by
  intro n hn x h1 h2
  have hx : x = 1 ∨ x = 2 ∨ x = 3 ∨ x = 4 ∨ x = 5 ∨ x = 6 ∨ x = 7 := by omega
  have hn' : n = 0 ∨ n = 1 ∨ n = 2 ∨ n = 3 ∨ n = 4 ∨ n = 5 ∨ n = 6 ∨ n = 7 := by omega
  rcases hn' with rfl | rfl | rfl | rfl | rfl | rfl | rfl | rfl <;> rcases hx with rfl | rfl | rfl | rfl | rfl | rfl | rfl <;> first | (exfalso; omega) | simp [intsTo]
theorem orders_all {l : List Int} (h : isOrd l = true) (p : List Int → Bool) (hp : ∀ n ∈ [1, 2, 3, 4, 5, 6, 7], allO (intsTo n) p n [] = true) : p l = true := by
  have hl := isOrd_len h
  have hm : l.length ∈ [1, 2, 3, 4, 5, 6, 7] := by
    have : l.length = 1 ∨ l.length = 2 ∨ l.length = 3 ∨ l.length = 4 ∨ l.length = 5 ∨ l.length = 6 ∨ l.length = 7 := by omega
    simp [this]
  refine allO_mem h (intsTo l.length) (fun x h1 h2 => intsTo_mem l.length hl.2 x h1 h2) p l.length (Nat.le_refl _) ?_
  rw [List.drop_length]
  exact hp _ hm
def facN (n : Nat) : Nat := [1, 1, 2, 6, 24, 120, 720, 5040].getD n 1
theorem facN_pos (n : Nat) : 0 < facN n := by
  rcases Nat.lt_or_ge n 8 with h | h
  · have : n = 0 ∨ n = 1 ∨ n = 2 ∨ n = 3 ∨ n = 4 ∨ n = 5 ∨ n = 6 ∨ n = 7 := by omega
    rcases this with rfl | rfl | rfl | rfl | rfl | rfl | rfl | rfl <;> decide
  · unfold facN
    rw [List.getD_eq_getElem?_getD, List.getElem?_eq_none (by simpa using h)]
    decide
theorem facN_le (n : Nat) : facN n ≤ 5040 := by
  rcases Nat.lt_or_ge n 8 with h | h
  · have : n = 0 ∨ n = 1 ∨ n = 2 ∨ n = 3 ∨ n = 4 ∨ n = 5 ∨ n = 6 ∨ n = 7 := by omega
    rcases this with rfl | rfl | rfl | rfl | rfl | rfl | rfl | rfl <;> decide
  · unfold facN
    rw [List.getD_eq_getElem?_getD, List.getElem?_eq_none (by simpa using h)]
    decide
theorem facN_succ (n : Nat) (h : n ≤ 6) : facN (n + 1) = (n + 1) * facN n := by
  have : n = 0 ∨ n = 1 ∨ n = 2 ∨ n = 3 ∨ n = 4 ∨ n = 5 ∨ n = 6 := by omega
  rcases this with rfl | rfl | rfl | rfl | rfl | rfl | rfl <;> decide
def atM : Nat → List Int → Nat → List Int
  | 0, _, _ => []
  | d + 1, left, k => nth left (k / facN d) :: atM d (left.take (k / facN d) ++ left.drop (k / facN d + 1)) (k % facN d)
theorem atM_length : ∀ (d : Nat) (left : List Int) (k : Nat), (atM d left k).length = d
  | 0, _, _ => rfl
  | d + 1, left, k => by rw [atM, List.length_cons, atM_length d]
def ordsM (n : Nat) : List (List Int) := (List.range (facN n)).map fun k => atM n (marked 1 n) k
theorem ordsM_length (n : Nat) : (ordsM n).length = facN n := by simp [ordsM]
theorem ordsM_len (n : Nat) (l : List Int) (h : l ∈ ordsM n) : l.length = n := by
  obtain ⟨k, _, rfl⟩ := List.mem_map.1 h
  exact atM_length n _ k
theorem tdiv_nat (a b : Nat) : Int.tdiv (a : Int) (b : Int) = ((a / b : Nat) : Int) := (Int.ofNat_tdiv a b).symm
theorem tmod_nat (a b : Nat) : Int.tmod (a : Int) (b : Int) = ((a % b : Nat) : Int) := (Int.ofNat_tmod a b).symm
theorem div_lt_of (d k : Nat) (hd : d ≤ 6) (h : k < facN (d + 1)) : k / facN d < d + 1 := by
  rw [Nat.div_lt_iff_lt_mul (facN_pos d), ← facN_succ d hd]
  exact h
theorem l1Own_is (l : List Int) (h : l.length < 17592186044416) : spec_l1Own.f l = some l := by
  unfold spec_l1Own.f
  simp [h]
theorem l2Sorted_l (n : Nat) (hn : n ≤ 1000) : ∀ d i : Nat, n = i + d → Ev (fun k => spec_l2Sorted.l0 k n (marked 1 i) ((i : Int) + 1)) (marked 1 n)
  | 0, i, h => by
    refine Ev.step (fun k => by rw [spec_l2Sorted.l0]) (Ev.neg (by omega) (Ev.val ?_))
    rw [h, Nat.add_zero]
  | d + 1, i, h => by
    refine Ev.step (fun k => by rw [spec_l2Sorted.l0]) ?_
    have e : wrap64 ((i : Int) + 1 + 1) = ((i + 1 : Nat) : Int) + 1 := by rw [w64 (by omega)]; omega
    have e2 : marked 1 i ++ [(i : Int) + 1] = marked 1 (i + 1) := by rw [marked_snoc]; congr 2; omega
    simp only [e, e2]
    exact Ev.pos (by omega) (Ev.pos (by rw [marked_length]; omega) (l2Sorted_l n hn d (i + 1) (by omega)))
theorem l2Sorted_ev (n : Nat) (hn : n ≤ 1000) : Ev (fun k => spec_l2Sorted.f k n) (marked 1 n) := l2Sorted_l n hn n 0 (by omega)
theorem sorted_l (n : Nat) (hn : n ≤ 1000) : ∀ d i : Nat, n = i + d → Ev (fun k => impl_sorted.l0 k (marked 1 i) n i) (marked 1 n)
  | 0, i, h => by
    refine Ev.step (fun k => by rw [impl_sorted.l0]) (Ev.neg (by omega) (Ev.val ?_))
    rw [h, Nat.add_zero]
  | d + 1, i, h => by
    refine Ev.step (fun k => by rw [impl_sorted.l0]) ?_
    have e : wrap64 ((i : Int) + 1) = ((i + 1 : Nat) : Int) := by rw [w64 (by omega)]; omega
    have e2 : marked 1 i ++ [((i + 1 : Nat) : Int)] = marked 1 (i + 1) := by rw [marked_snoc]; congr 2; omega
    simp only [e, e2]
    exact Ev.pos (by omega) (Ev.pos (by rw [marked_length]; omega) (sorted_l n hn d (i + 1) (by omega)))
theorem sorted_ev (n : Nat) (hn : n ≤ 1000) : Ev (fun k => impl_sorted.f k n) (marked 1 n) := sorted_l n hn n 0 (by omega)
theorem l2Ways_ev (n : Nat) (h : n ≤ 7) : Ev (fun k => spec_l2Ways.f k (n : Int)) (facN n : Int) := by
  have : n = 0 ∨ n = 1 ∨ n = 2 ∨ n = 3 ∨ n = 4 ∨ n = 5 ∨ n = 6 ∨ n = 7 := by omega
  rcases this with rfl | rfl | rfl | rfl | rfl | rfl | rfl | rfl <;> exact Ev.of (fun k => spec_l2Ways.mono _ k) (k := 10) (by decide +kernel)
theorem l2At_l : ∀ (d : Nat) (left acc : List Int) (k : Nat), left.length = d → d ≤ 7 → acc.length + d ≤ 100 → k < facN d → Ev (fun q => spec_l2At.l0 q (k : Int) acc left) (acc ++ atM d left k)
  | 0, left, acc, k, hl, hd, ha, hk => by
    refine Ev.step (fun q => by rw [spec_l2At.l0]) (Ev.neg (by omega) (Ev.val ?_))
    rw [atM, List.append_nil]
  | d + 1, left, acc, k, hl, hd, ha, hk => by
    refine Ev.step (fun q => by rw [spec_l2At.l0]) (Ev.pos (by omega) ?_)
    have e1 : wrap64 ((left.length : Int) - 1) = (d : Int) := by rw [w64 (by omega)]; omega
    rw [e1]
    clear e1
    refine Ev.bind (l2Ways_ev d (by omega)) (Ev.neg (by have := facN_pos d; omega) ?_)
    have hq := div_lt_of d k (by omega) hk
    have h5 := facN_le (d + 1)
    have e2 : wrap64 (Int.tdiv (k : Int) (facN d : Int)) = ((k / facN d : Nat) : Int) := by rw [tdiv_nat]; exact w64n _ (by have := Nat.div_le_self k (facN d); omega)
    have hmod := Nat.mod_lt k (facN_pos d)
    simp only [e2, tmod_nat]
    rw [atM]
    clear e2 hk
    generalize k / facN d = qq at hq ⊢
    generalize k % facN d = k2 at hmod ⊢
    have e3 : wrap64 ((qq : Int) + 1) = ((qq + 1 : Nat) : Int) := by rw [w64 (by omega)]; omega
    simp only [e3, Int.toNat_natCast, rd_nat]
    clear e3
    refine Ev.pos (by omega) (Ev.pos (by omega) (Ev.pos (by omega) (Ev.pos (by omega) ?_)))
    have h1 : (left.take qq).length < 17592186044416 := by rw [List.length_take]; omega
    simp only [l1Own_is _ h1, Option.bind_some]
    refine Ev.pos (by omega) (Ev.pos (by omega) (Ev.pos (by rw [List.length_take, List.length_drop]; omega) ?_))
    refine Ev.to (l2At_l d _ _ k2 (by rw [List.length_append, List.length_take, List.length_drop]; omega) (by omega) (by rw [List.length_append, List.length_singleton]; omega) hmod) ?_
    rw [List.append_assoc]; rfl
theorem l2At_ev (n k : Nat) (hn : n ≤ 7) (hk : k < facN n) : Ev (fun q => spec_l2At.f q (n : Int) (k : Int)) (atM n (marked 1 n) k) := by
  unfold spec_l2At.f
  exact Ev.bind (l2Sorted_ev n (by omega)) (Ev.to (l2At_l n _ [] k (marked_length n 1) hn (by simp; omega) hk) (List.nil_append _))
theorem l2Orders_l (n : Nat) (hn : n ≤ 7) : ∀ (d i : Nat), facN n = i + d → Ev (fun q => spec_l2Orders.l0 q (n : Int) ((List.range i).map fun k => atM n (marked 1 n) k) (i : Int)) (ordsM n)
  | 0, i, h => by
    refine Ev.step (fun q => by rw [spec_l2Orders.l0]) ?_
    refine Ev.bind (l2Ways_ev n hn) ?_
    refine Ev.neg (by omega) (Ev.val ?_)
    rw [ordsM, h, Nat.add_zero]
  | d + 1, i, h => by
    have h5 := facN_le n
    refine Ev.step (fun q => by rw [spec_l2Orders.l0]) ?_
    refine Ev.bind (l2Ways_ev n hn) ?_
    refine Ev.pos (by omega) ?_
    refine Ev.bind (l2At_ev n i hn (by omega)) ?_
    refine Ev.pos (by rw [List.length_map, List.length_range]; omega) ?_
    have e : wrap64 ((i : Int) + 1) = ((i + 1 : Nat) : Int) := by rw [w64 (by omega)]; omega
    have e2 : ((List.range i).map fun k => atM n (marked 1 n) k) ++ [atM n (marked 1 n) i] = (List.range (i + 1)).map fun k => atM n (marked 1 n) k := by rw [List.range_succ, List.map_append]; rfl
    simp only [e, e2]
    exact l2Orders_l n hn d (i + 1) (by omega)
theorem l2Orders_ev (n : Nat) (hn : n ≤ 7) : Ev (fun q => spec_l2Orders.f q (n : Int)) (ordsM n) := by
  unfold spec_l2Orders.f
  exact l2Orders_l n hn (facN n) 0 (by omega)
theorem factorial_ev (n : Nat) (h : n ≤ 7) : Ev (fun k => impl_factorial.f k (n : Int)) (facN n : Int) := by
  have : n = 0 ∨ n = 1 ∨ n = 2 ∨ n = 3 ∨ n = 4 ∨ n = 5 ∨ n = 6 ∨ n = 7 := by omega
  rcases this with rfl | rfl | rfl | rfl | rfl | rfl | rfl | rfl <;> exact Ev.of (fun k => impl_factorial.mono _ k) (k := 10) (by decide +kernel)
theorem orderAt_l : ∀ (d : Nat) (left acc : List Int) (k : Nat), left.length = d → d ≤ 7 → acc.length + d ≤ 100 → k < facN d → Ev (fun q => impl_orderAt.l0 q (k : Int) left acc) (acc ++ atM d left k)
  | 0, left, acc, k, hl, hd, ha, hk => by
    refine Ev.step (fun q => by rw [impl_orderAt.l0]) (Ev.neg (by omega) (Ev.val ?_))
    rw [atM, List.append_nil]
  | d + 1, left, acc, k, hl, hd, ha, hk => by
    refine Ev.step (fun q => by rw [impl_orderAt.l0]) (Ev.pos (by omega) ?_)
    have e1 : wrap64 ((left.length : Int) - 1) = (d : Int) := by rw [w64 (by omega)]; omega
    rw [e1]
    clear e1
    refine Ev.bind (factorial_ev d (by omega)) (Ev.neg (by have := facN_pos d; omega) ?_)
    have hq := div_lt_of d k (by omega) hk
    have h5 := facN_le (d + 1)
    have e2 : wrap64 (Int.tdiv (k : Int) (facN d : Int)) = ((k / facN d : Nat) : Int) := by rw [tdiv_nat]; exact w64n _ (by have := Nat.div_le_self k (facN d); omega)
    have hmod := Nat.mod_lt k (facN_pos d)
    simp only [e2, tmod_nat]
    rw [atM]
    clear e2 hk
    generalize k / facN d = qq at hq ⊢
    generalize k % facN d = k2 at hmod ⊢
    have e3 : wrap64 ((qq : Int) + 1) = ((qq + 1 : Nat) : Int) := by rw [w64 (by omega)]; omega
    simp only [e3, rd_nat]
    clear e3
    have hdel : slices_Delete_int_int.f left (qq : Int) ((qq + 1 : Nat) : Int) = some (left.take qq ++ left.drop (qq + 1)) := by
      unfold slices_Delete_int_int.f
      rw [if_pos (by omega), Int.toNat_natCast, Int.toNat_natCast]
    refine Ev.pos (by omega) (Ev.pos (by omega) (Ev.pos (by omega) ?_))
    simp only [hdel, Option.bind_some]
    refine Ev.to (orderAt_l d _ _ k2 (by rw [List.length_append, List.length_take, List.length_drop]; omega) (by omega) (by rw [List.length_append, List.length_singleton]; omega) hmod) ?_
    rw [List.append_assoc]; rfl
theorem orderAt_ev (n k : Nat) (hn : n ≤ 7) (hk : k < facN n) : Ev (fun q => impl_orderAt.f q (n : Int) (k : Int)) (atM n (marked 1 n) k) := by
  unfold impl_orderAt.f
  exact Ev.bind (sorted_ev n (by omega)) (Ev.to (orderAt_l n _ [] k (marked_length n 1) hn (by simp; omega) hk) (List.nil_append _))
theorem allOrders_l (n : Nat) (hn : n ≤ 7) : ∀ (d i : Nat), facN n = i + d → Ev (fun q => impl_allOrders.l0 q (n : Int) ((List.range i).map fun k => atM n (marked 1 n) k) (facN n : Int) (i : Int)) (ordsM n)
  | 0, i, h => by
    refine Ev.step (fun q => by rw [impl_allOrders.l0]) (Ev.neg (by omega) (Ev.val ?_))
    rw [ordsM, h, Nat.add_zero]
  | d + 1, i, h => by
    have h5 := facN_le n
    refine Ev.step (fun q => by rw [impl_allOrders.l0]) ?_
    refine Ev.pos (by omega) ?_
    refine Ev.bind (orderAt_ev n i hn (by omega)) ?_
    refine Ev.pos (by rw [List.length_map, List.length_range]; omega) ?_
    have e : wrap64 ((i : Int) + 1) = ((i + 1 : Nat) : Int) := by rw [w64 (by omega)]; omega
    have e2 : ((List.range i).map fun k => atM n (marked 1 n) k) ++ [atM n (marked 1 n) i] = (List.range (i + 1)).map fun k => atM n (marked 1 n) k := by rw [List.range_succ, List.map_append]; rfl
    simp only [e, e2]
    exact allOrders_l n hn d (i + 1) (by omega)
theorem allOrders_ev (n : Nat) (hn : n ≤ 7) : Ev (fun q => impl_allOrders.f q (n : Int)) (ordsM n) := by
  unfold impl_allOrders.f
  exact Ev.bind (factorial_ev n hn) (allOrders_l n hn (facN n) 0 (by omega))
theorem isOrd_of {l : List Int} (h1 : 1 ≤ l.length) (h2 : l.length ≤ 7) (hd : l.Nodup) (hm : ∀ x ∈ l, 1 ≤ x ∧ x ≤ l.length) : isOrd l = true := by
  simp only [isOrd, Bool.and_eq_true, decide_eq_true_eq]
  refine ⟨h1, h2, (allFrom_iff _ _ _).2 fun j _ hj => ?_⟩
  have hj' : j < l.length := by omega
  have := hm (nth l j) (by rw [nth_lt _ _ hj']; exact List.getElem_mem hj')
  have hn : nth l j ∉ l.take j := by
    intro hc
    obtain ⟨i, hi, e⟩ := List.mem_take_iff_getElem.1 hc
    rw [nth_lt _ _ hj'] at e
    have := (List.getElem_inj hd).1 e
    omega
  simp [ordAt, this.1, this.2, hn]
theorem atM_mem : ∀ (d : Nat) (left : List Int) (k : Nat), left.length = d → d ≤ 7 → k < facN d → (∀ x ∈ atM d left k, x ∈ left) ∧ (left.Nodup → (atM d left k).Nodup)
  | 0, left, k, _, _, _ => ⟨fun x hx => by simp [atM] at hx, fun _ => by simp [atM]⟩
  | d + 1, left, k, hl, hd, hk => by
    have hq := div_lt_of d k (by omega) hk
    have hmod := Nat.mod_lt k (facN_pos d)
    rw [atM]
    generalize k / facN d = q at hq ⊢
    have ih := atM_mem d (left.take q ++ left.drop (q + 1)) (k % facN d) (by rw [List.length_append, List.length_take, List.length_drop]; omega) (by omega) hmod
    have hsub : ∀ x ∈ left.take q ++ left.drop (q + 1), x ∈ left := fun x hx => by
      rcases List.mem_append.1 hx with hx | hx
      · exact List.mem_of_mem_take hx
      · exact List.mem_of_mem_drop hx
    refine ⟨fun x hx => ?_, fun hn => ?_⟩
    · rcases List.mem_cons.1 hx with rfl | hx
      · rw [nth_lt _ _ (by omega)]; exact List.getElem_mem _
      · exact hsub x (ih.1 x hx)
    · have e : left = left.take q ++ nth left q :: left.drop (q + 1) := by
        rw [← drop_step left q (by omega), List.take_append_drop]
      have hn2 := hn
      rw [e, List.nodup_append] at hn2
      obtain ⟨n1, n2, n3⟩ := hn2
      rw [List.nodup_cons] at n2 ⊢
      refine ⟨fun hc => ?_, ih.2 ?_⟩
      · rcases List.mem_append.1 (ih.1 _ hc) with hc | hc
        · exact n3 _ hc _ (by simp) rfl
        · exact n2.1 hc
      · rw [List.nodup_append]
        exact ⟨n1, n2.2, fun a ha b hb => n3 a ha b (by simp [hb])⟩
theorem marked_mem (n : Nat) : ∀ (a x : Int), x ∈ marked a n → a ≤ x ∧ x < a + n := by
  induction n with
  | zero => intro a x h; simp [marked] at h
  | succ n ih =>
    intro a x h
    rw [marked, List.mem_cons] at h
    rcases h with rfl | h
    · omega
    · have := ih (a + 1) x h; omega
theorem marked_nodup (n : Nat) : ∀ (a : Int), (marked a n).Nodup := by
  induction n with
  | zero => intro a; simp [marked]
  | succ n ih =>
    intro a
    rw [marked, List.nodup_cons]
    exact ⟨fun h => by have := marked_mem n _ _ h; omega, ih _⟩
theorem ordsM_ord (n : Nat) (h1 : 1 ≤ n) (h2 : n ≤ 7) (l : List Int) (h : l ∈ ordsM n) : isOrd l = true := by
  obtain ⟨k, hk, rfl⟩ := List.mem_map.1 h
  have hk := List.mem_range.1 hk
  have hm := atM_mem n (marked 1 n) k (marked_length n 1) h2 hk
  have hl := atM_length n (marked 1 n) k
  refine isOrd_of (by omega) (by omega) (hm.2 (marked_nodup n 1)) fun x hx => ?_
  have := marked_mem n 1 x (hm.1 x hx)
  rw [hl]
  omega
def sortedB (l : List Int) : Nat → Bool
  | 0 => true
  | i + 1 => if nth l (i + 1) < nth l i then false else sortedB l i
theorem cmpLess_is (a b : Int) : cmp_Less_int.f a b = some (decide (a < b)) := by
  unfold cmp_Less_int.f cmp_isNaN_int.f
  simp
theorem isSorted_l (l : List Int) (hn : l.length ≤ 17592186044416) : ∀ i : Nat, i < l.length → Ev (fun k => slices_IsSorted_int_int.l0 k l i) (sortedB l i)
  | 0, hi => by
    refine Ev.step (fun k => by rw [slices_IsSorted_int_int.l0]) (Ev.neg (by omega) (Ev.val ?_))
    rw [sortedB]
  | i + 1, hi => by
    refine Ev.step (fun k => by rw [slices_IsSorted_int_int.l0]) ?_
    have e : wrap64 (((i + 1 : Nat) : Int) - 1) = (i : Int) := by rw [w64 (by omega)]; omega
    simp only [e]
    clear e
    refine Ev.pos (by omega) (Ev.pos (by omega) (Ev.pos (by omega) (Ev.pos (by omega) (Ev.pos (by omega) ?_))))
    simp only [cmpLess_is, Option.bind_some, rd_nat]
    rw [sortedB]
    refine Ev.ite (fun hc => Ev.val ?_) (fun hc => ?_)
    · rw [decide_eq_true_eq] at hc; rw [if_pos hc]
    · rw [decide_eq_true_eq] at hc; rw [if_neg hc]; exact isSorted_l l hn i (by omega)
theorem isSorted_ev (l : List Int) (hn : l.length ≤ 17592186044416) (h0 : 0 < l.length) : Ev (fun k => impl_isSorted.f k l) (sortedB l (l.length - 1)) := by
  unfold impl_isSorted.f slices_IsSorted_int_int.f
  have e : wrap64 ((l.length : Int) - 1) = ((l.length - 1 : Nat) : Int) := by rw [w64 (by omega)]; omega
  simp only [e]
  exact Ev.bind (isSorted_l l hn _ (by omega)) (Ev.val rfl)
theorem nth_right (A B : List Int) (i : Nat) (h : A.length ≤ i) : nth (A ++ B) i = nth B (i - A.length) := by
  simp [nth, List.getD_eq_getElem?_getD, List.getElem?_append_right h]
theorem Reverse_l : ∀ (n : Nat) (A M B : List Int), M.length = n → (A ++ (M ++ B)).length ≤ 17592186044415 → Ev (fun k => slices_Reverse_int_int.l0 k (A ++ (M ++ B)) (A.length : Int) ((A.length : Int) + (M.length : Int) - 1)) (A ++ (M.reverse ++ B)) := by
  intro n
  induction n using Nat.strongRecOn with
  | _ n ih =>
    intro A M B hM hn
    by_cases h2 : n < 2
    · refine Ev.step (fun k => by rw [slices_Reverse_int_int.l0]) ?_
      refine Ev.neg (by omega) (Ev.val ?_)
      have : M = [] ∨ ∃ a, M = [a] := by
        rcases M with _ | ⟨a, _ | ⟨b, M⟩⟩
        · exact .inl rfl
        · exact .inr ⟨a, rfl⟩
        · simp at hM; omega
      rcases this with rfl | ⟨a, rfl⟩ <;> simp
    · obtain ⟨a, M', b, rfl⟩ : ∃ a M' b, M = a :: (M' ++ [b]) := by
        rcases M with _ | ⟨a, M⟩
        · simp at hM; omega
        · rcases List.eq_nil_or_concat M with rfl | ⟨M', b, rfl⟩
          · simp at hM; omega
          · exact ⟨a, M', b, by simp⟩
      have hl : M'.length + 2 = n := by simp at hM; omega
      have hn' : A.length + (M'.length + 2 + B.length) ≤ 17592186044415 := by simp at hn; omega
      refine Ev.step (fun k => by rw [slices_Reverse_int_int.l0]) ?_
      have e1 : (A.length : Int) + ((a :: (M' ++ [b])).length : Int) - 1 = ((A.length + 1 + M'.length : Nat) : Int) := by simp; omega
      have e2 : wrap64 ((A.length : Int) + 1) = ((A.length + 1 : Nat) : Int) := by rw [w64 (by omega)]; omega
      have e3 : wrap64 (((A.length + 1 + M'.length : Nat) : Int) - 1) = ((A.length + M'.length : Nat) : Int) := by rw [w64 (by omega)]; omega
      have g1 : nth (A ++ (a :: (M' ++ [b]) ++ B)) (A.length + 1 + M'.length) = b := by
        have : A ++ (a :: (M' ++ [b]) ++ B) = (A ++ a :: M') ++ (b :: B) := by simp
        rw [this, nth_right _ _ _ (by simp; omega)]
        have : A.length + 1 + M'.length - (A ++ a :: M').length = 0 := by simp; omega
        rw [this]; rfl
      have g2 : nth (A ++ (a :: (M' ++ [b]) ++ B)) A.length = a := by
        rw [nth_right _ _ _ (Nat.le_refl _)]
        simp [nth]
      have g3 : ((A ++ (a :: (M' ++ [b]) ++ B)).set A.length b).set (A.length + 1 + M'.length) a = (A ++ [b]) ++ (M' ++ (a :: B)) := by
        have h1 : (A ++ (a :: (M' ++ [b]) ++ B)).set A.length b = (A ++ b :: M') ++ (b :: B) := by
          rw [List.set_append_right _ _ (Nat.le_refl _)]; simp
        rw [h1, List.set_append_right _ _ (by simp; omega)]
        have : A.length + 1 + M'.length - (A ++ b :: M').length = 0 := by simp; omega
        rw [this]; simp
      simp only [e1, e2, e3, rd_nat, Int.toNat_natCast, g1, g2, g3]
      have hlen : (A ++ (a :: (M' ++ [b]) ++ B)).length = A.length + (M'.length + 2 + B.length) := by simp; omega
      refine Ev.pos (by omega) (Ev.pos (by omega) (Ev.pos (by rw [hlen]; omega) (Ev.pos (by omega) (Ev.pos (by rw [hlen]; omega) ?_))))
      have := ih M'.length (by omega) (A ++ [b]) M' (a :: B) rfl (by simp; omega)
      have e4 : ((A ++ [b]).length : Int) + (M'.length : Int) - 1 = ((A.length + M'.length : Nat) : Int) := by simp; omega
      have e5 : ((A ++ [b]).length : Int) = ((A.length + 1 : Nat) : Int) := by simp
      rw [e4, e5] at this
      refine this.to ?_
      simp
theorem Reverse_ev (l : List Int) (hn : l.length ≤ 17592186044415) : Ev (fun k => slices_Reverse_int_int.f k l) l.reverse := by
  unfold slices_Reverse_int_int.f
  have e : wrap64 ((l.length : Int) - 1) = (([] : List Int).length : Int) + (l.length : Int) - 1 := by rw [w64 (by omega)]; simp
  have := Reverse_l l.length [] l [] rfl (by simpa using hn)
  simp only [e]
  simpa using this
theorem back_ev (l : List Int) (hn : l.length ≤ 17592186044415) : Ev (fun k => impl_back.f k l) l.reverse := by
  unfold impl_back.f
  refine Ev.bind (a := l) ?_ (Ev.bind (Reverse_ev l hn) (Ev.val rfl))
  unfold slices_Clone_int_int.f
  exact Ev.pos (by omega) (Ev.val rfl)
theorem isFall_ev (l : List Int) (hn : l.length ≤ 17592186044415) (h0 : 0 < l.length) : Ev (fun k => impl_isFall.f k l) (sortedB l.reverse (l.reverse.length - 1)) := by
  unfold impl_isFall.f
  exact Ev.bind (back_ev l hn) (Ev.bind (isSorted_ev l.reverse (by rw [List.length_reverse]; omega) (by rw [List.length_reverse]; exact h0)) (Ev.val rfl))
def lastOf (q : List Int) : Int := nth q (q.length - 1)
def putBy (p : List Int → Bool) (qs : List (List Int)) (x : Int) : List (List Int) := if idxF p qs < 0 then qs ++ [[x]] else qs.set (idxF p qs).toNat (qs.getD (idxF p qs).toNat [] ++ [x])
def qS (l : List Int) : List (List Int) := l.foldl (fun qs x => putBy (fun q => decide (¬ lastOf q > x)) qs x) []
def qI (l : List Int) : List (List Int) := l.foldl (fun qs x => putBy (fun q => decide (lastOf q < x)) qs x) []
def Fit (i : Nat) (qs : List (List Int)) : Prop := qs.length ≤ i ∧ ∀ q ∈ qs, 0 < q.length ∧ q.length ≤ i
theorem idxF_lt {p : List Int → Bool} {qs : List (List Int)} (h : ¬ idxF p qs < 0) : (idxF p qs).toNat < qs.length := by
  have := idxF_ge p qs
  omega
theorem putBy_fit {p : List Int → Bool} {i : Nat} {qs : List (List Int)} (x : Int) (h : Fit i qs) : Fit (i + 1) (putBy p qs x) := by
  unfold putBy
  split
  · refine ⟨by simp; exact h.1, fun q hq => ?_⟩
    rw [List.mem_append] at hq
    rcases hq with hq | hq
    · have := h.2 q hq; omega
    · rw [List.mem_singleton] at hq; subst hq; simp
  · rename_i hn
    have hlt := idxF_lt hn
    refine ⟨by rw [List.length_set]; have := h.1; omega, fun q hq => ?_⟩
    rcases List.mem_or_eq_of_mem_set hq with hq | hq
    · have := h.2 q hq; omega
    · have := h.2 (qs.getD (idxF p qs).toNat []) (by rw [List.getD_eq_getElem?_getD, List.getElem?_eq_getElem hlt]; exact List.getElem_mem hlt)
      subst hq
      rw [List.length_append, List.length_singleton]
      omega
theorem rd_L5_nat (xs : List (List Int)) (i : Nat) : rd_L5 xs (i : Int) = xs.getD i [] := rfl
theorem getD_mem {xs : List (List Int)} {i : Nat} (h : i < xs.length) : xs.getD i [] ∈ xs := by
  rw [List.getD_eq_getElem?_getD, List.getElem?_eq_getElem h]; exact List.getElem_mem h
theorem idxF_at {p : List Int → Bool} : ∀ (qs : List (List Int)) (j : Nat), j < qs.length → p (qs.getD j []) = true → (∀ i, i < j → p (qs.getD i []) = false) → idxF p qs = j
  | [], j, h, _, _ => by simp at h
  | q :: qs, 0, h, e, _ => by
    have h0 : p q = true := by simpa using e
    simp [idxF, h0]
  | q :: qs, j + 1, h, e, hq => by
    have h0 : p q = false := by simpa using hq 0 (by omega)
    have h1 := idxF_at qs j (by simpa using h) (by simpa using e) fun i hi => by simpa using hq (i + 1) (by omega)
    simp only [idxF, h0, h1]
    rw [if_neg (by simp), if_neg (by omega)]
    omega
theorem idxF_no {p : List Int → Bool} : ∀ (qs : List (List Int)), (∀ i, i < qs.length → p (qs.getD i []) = false) → idxF p qs = -1
  | [], _ => rfl
  | q :: qs, hq => by
    have h0 : p q = false := by simpa using hq 0 (by simp)
    have h1 := idxF_no qs fun i hi => by simpa using hq (i + 1) (by simpa using hi)
    simp [idxF, h0, h1]
theorem l5Queues_l1 (l : List Int) (r : List (List Int)) (i : Nat) (hi : i < l.length) (hl : l.length ≤ 1000) (qs : List (List Int)) (hf : Fit i qs)
    (hr : Ev (fun k => spec_l5Queues.l0 k l (putBy (fun q => decide (¬ lastOf q > nth l i)) qs (nth l i)) ((i + 1 : Nat) : Int)) r) :
    ∀ (d j : Nat), qs.length = j + d → (∀ m, m < j → lastOf (qs.getD m []) > nth l i) → Ev (fun k => spec_l5Queues.l1 k l qs (i : Int) (j : Int)) r
  | 0, j, h, hj => by
    have e : wrap64 ((i : Int) + 1) = ((i + 1 : Nat) : Int) := by rw [w64 (by omega)]; omega
    refine Ev.step (fun k => by rw [spec_l5Queues.l1]) (Ev.neg (by omega) (Ev.pos (by omega) ?_))
    have hq := hf.1
    simp only [e, rd_nat, Option.bind_some, rd_L5_nat, Int.toNat_natCast]
    clear e
    have hjl : j = qs.length := by omega
    subst hjl
    have e1 : (qs ++ [([] : List Int)]).getD qs.length [] = [] := by simp
    have e2 : (qs ++ [([] : List Int)]).set qs.length ([] ++ [nth l i]) = qs ++ [[nth l i]] := by rw [List.set_append_right _ _ (Nat.le_refl _)]; simp
    rw [e1, e2]
    have e3 : putBy (fun q => decide (¬ lastOf q > nth l i)) qs (nth l i) = qs ++ [[nth l i]] := by
      rw [putBy, idxF_no qs (fun m hm => by simpa using hj m hm), if_pos (by omega)]
    rw [e3] at hr
    exact Ev.pos (by omega) (Ev.pos (by omega) (Ev.pos (by rw [List.length_append, List.length_singleton]; omega) (Ev.pos (by omega) (Ev.pos (by omega) (Ev.pos (by simp) hr)))))
  | d + 1, j, h, hj => by
    have hjl : j < qs.length := by omega
    have hq := hf.2 _ (getD_mem hjl)
    have hql := hf.1
    refine Ev.step (fun k => by rw [spec_l5Queues.l1]) (Ev.pos (by omega) (Ev.pos (by omega) ?_))
    have e : wrap64 ((i : Int) + 1) = ((i + 1 : Nat) : Int) := by rw [w64 (by omega)]; omega
    have e1 : wrap64 ((j : Int) + 1) = ((j + 1 : Nat) : Int) := by rw [w64 (by omega)]; omega
    have e2 : wrap64 (((qs.getD j []).length : Int) - 1) = (((qs.getD j []).length - 1 : Nat) : Int) := by rw [w64 (by omega)]; omega
    simp only [rd_L5_nat, e, e1, e2, rd_nat, Int.toNat_natCast]
    clear e e1 e2
    refine Ev.pos (by omega) (Ev.pos (by omega) (Ev.pos (by omega) (Ev.pos (by omega) (Ev.ite (fun hc => ?_) (fun hc => Ev.neg (by omega) (Ev.pos (by omega) ?_))))))
    · exact l5Queues_l1 l r i hi hl qs hf hr d (j + 1) (by omega) (fun m hm => by
        by_cases hmj : m = j
        · subst hmj; exact hc
        · exact hj m (by omega))
    · have e3 : idxF (fun q => decide (¬ lastOf q > nth l i)) qs = (j : Int) := idxF_at qs j hjl (by simpa [lastOf] using hc) (fun m hm => by simpa using hj m hm)
      rw [putBy, e3, if_neg (by omega), Int.toNat_natCast] at hr
      exact hr
theorem l5Queues_l (l : List Int) (hl : l.length ≤ 1000) : ∀ (d i : Nat) (qs : List (List Int)), l.length = i + d → Fit i qs → Ev (fun k => spec_l5Queues.l0 k l qs (i : Int)) ((l.drop i).foldl (fun qs x => putBy (fun q => decide (¬ lastOf q > x)) qs x) qs)
  | 0, i, qs, h, hf => by
    refine Ev.step (fun k => by rw [spec_l5Queues.l0]) (Ev.neg (by omega) (Ev.val ?_))
    rw [List.drop_of_length_le (by omega)]; rfl
  | d + 1, i, qs, h, hf => by
    refine Ev.step (fun k => by rw [spec_l5Queues.l0]) (Ev.pos (by omega) ?_)
    refine l5Queues_l1 l _ i (by omega) hl qs hf ?_ qs.length 0 (by omega) (fun m hm => absurd hm (Nat.not_lt_zero _))
    rw [drop_step l i (by omega), List.foldl_cons]
    exact l5Queues_l l hl d (i + 1) _ (by omega) (putBy_fit _ hf)
theorem l5Queues_ev (l : List Int) (hl : l.length ≤ 1000) : Ev (fun k => spec_l5Queues.f k l) (qS l) := by
  unfold spec_l5Queues.f
  have := l5Queues_l l hl l.length 0 [] (by omega) ⟨by simp, fun q hq => by cases hq⟩
  rw [List.drop_zero] at this
  exact this
theorem queues1_is (q : List Int) (x : Int) (h : 0 < q.length) (h2 : q.length ≤ 1000) : impl_queues_1.f q x = some (decide (lastOf q < x)) := by
  unfold impl_queues_1.f
  have e2 : wrap64 ((q.length : Int) - 1) = ((q.length - 1 : Nat) : Int) := by rw [w64 (by omega)]; omega
  simp only [e2, rd_nat]
  clear e2
  rw [if_pos (by omega), if_pos (by omega)]
  rfl
theorem IndexFuncQ_l (of_ : Nat → List Int → Option Bool) (p : List Int → Bool) (l : List (List Int)) (hn : l.length ≤ 1000) (hof : ∀ k x, x ∈ l → of_ k x = some (p x)) : ∀ (d i : Nat), l.length = i + d → (∀ m, m < i → p (l.getD m []) = false) → Ev (fun k => slices_IndexFunc_int_int.l0 of_ k l (l.length : Int) i) (idxF p l)
  | 0, i, h, hq => by
    refine Ev.step (fun k => by rw [slices_IndexFunc_int_int.l0]) (Ev.neg (by omega) (Ev.val ?_))
    exact (idxF_no l fun m hm => hq m (by omega)).symm
  | d + 1, i, h, hq => by
    refine Ev.step (fun k => by rw [slices_IndexFunc_int_int.l0]) (Ev.pos (by omega) (Ev.pos (by omega) (Ev.pos (by omega) ?_)))
    have e : wrap64 ((i : Int) + 1) = ((i + 1 : Nat) : Int) := by rw [w64 (by omega)]; omega
    have e2 : ∀ k, of_ k (l.getD i []) = some (p (l.getD i [])) := fun k => hof k _ (getD_mem (by omega))
    simp only [e, rd_L5_nat, e2, Option.bind_some]
    clear e
    refine Ev.ite (fun hc => Ev.val ?_) (fun hc => ?_)
    · exact (idxF_at l i (by omega) hc hq).symm
    · rw [Bool.not_eq_true] at hc
      exact IndexFuncQ_l of_ p l hn hof d (i + 1) (by omega) (fun m hm => by
        by_cases hmi : m = i
        · subst hmi; exact hc
        · exact hq m (by omega))
theorem IndexFuncQ_ev (of_ : Nat → List Int → Option Bool) (p : List Int → Bool) (l : List (List Int)) (s : ByteArray) (hn : l.length ≤ 1000) (hof : ∀ k x, x ∈ l → of_ k x = some (p x)) : Ev (fun k => slices_IndexFunc_int_int.f of_ k l s) (idxF p l) := by
  unfold slices_IndexFunc_int_int.f
  exact IndexFuncQ_l of_ p l hn hof l.length 0 (by omega) (fun m hm => absurd hm (Nat.not_lt_zero _))
theorem queues_l (l : List Int) (hl : l.length ≤ 1000) : ∀ (d i : Nat) (qs : List (List Int)), l.length = i + d → Fit i qs → Ev (fun k => impl_queues.l0 k qs l (l.length : Int) (i : Int)) ((l.drop i).foldl (fun qs x => putBy (fun q => decide (lastOf q < x)) qs x) qs)
  | 0, i, qs, h, hf => by
    refine Ev.step (fun k => by rw [impl_queues.l0]) (Ev.neg (by omega) (Ev.val ?_))
    rw [List.drop_of_length_le (by omega)]; rfl
  | d + 1, i, qs, h, hf => by
    have hql := hf.1
    refine Ev.step (fun k => by rw [impl_queues.l0]) (Ev.pos (by omega) (Ev.pos (by omega) (Ev.pos (by omega) ?_)))
    have e : wrap64 ((i : Int) + 1) = ((i + 1 : Nat) : Int) := by rw [w64 (by omega)]; omega
    simp only [e, rd_nat]
    clear e
    refine Ev.bind (IndexFuncQ_ev _ (fun q => decide (lastOf q < nth l i)) qs _ (by omega) (fun k q hq => queues1_is q _ (hf.2 q hq).1 (by have := (hf.2 q hq).2; omega))) ?_
    have ih := queues_l l hl d (i + 1) (putBy (fun q => decide (lastOf q < nth l i)) qs (nth l i)) (by omega) (putBy_fit _ hf)
    rw [drop_step l i (by omega), List.foldl_cons]
    refine Ev.ite (fun hc => Ev.pos (by omega) ?_) (fun hc => ?_)
    · refine Ev.to ?_ rfl
      have e3 : putBy (fun q => decide (lastOf q < nth l i)) qs (nth l i) = qs ++ [[nth l i]] := by rw [putBy, if_pos hc]
      rw [e3] at ih ⊢
      exact ih
    · have hlt := idxF_lt hc
      have hq := hf.2 _ (getD_mem hlt)
      have e3 : putBy (fun q => decide (lastOf q < nth l i)) qs (nth l i) = qs.set (idxF (fun q => decide (lastOf q < nth l i)) qs).toNat (qs.getD (idxF (fun q => decide (lastOf q < nth l i)) qs).toNat [] ++ [nth l i]) := by rw [putBy, if_neg hc]
      rw [e3] at ih ⊢
      have e4 : rd_L5 qs (idxF (fun q => decide (lastOf q < nth l i)) qs) = qs.getD (idxF (fun q => decide (lastOf q < nth l i)) qs).toNat [] := rfl
      rw [e4]
      exact Ev.pos (by omega) (Ev.pos (by omega) (Ev.pos (by omega) ih))
theorem queues_ev (l : List Int) (hl : l.length ≤ 1000) : Ev (fun k => impl_queues.f k l) (qI l) := by
  unfold impl_queues.f
  have := queues_l l hl l.length 0 [] (by omega) ⟨by simp, fun q hq => by cases hq⟩
  rw [List.drop_zero] at this
  exact this
theorem foldPut_fit (p : Int → List Int → Bool) : ∀ (l : List Int) (i : Nat) (qs : List (List Int)), Fit i qs → Fit (i + l.length) (l.foldl (fun qs x => putBy (p x) qs x) qs)
  | [], i, qs, h => h
  | x :: l, i, qs, h => by
    have := foldPut_fit p l (i + 1) _ (putBy_fit (p := p x) x h)
    rw [List.length_cons, show i + (l.length + 1) = i + 1 + l.length by omega]
    exact this
theorem qI_fit (l : List Int) : Fit l.length (qI l) := by
  have := foldPut_fit (fun x q => decide (lastOf q < x)) l 0 [] ⟨by simp, fun q hq => by cases hq⟩
  rw [Nat.zero_add] at this
  exact this
def qOk (l : List Int) : Bool := decide (qS l = qI l)
def lexL : List Int → List Int → Bool
  | a :: s, b :: t => if a = b then lexL s t else decide (a < b)
  | _, _ => false
def cnd (r : Bool) (so : List Int) (y : Int) : Bool := so.length == 0 || (decide (y > nth so (so.length - 1)) == r)
def riG (r : Bool) : List Int → List Int → List (List Int)
  | _, [] => []
  | so, y :: t => (if cnd r so y = true then (so ++ [y]) :: riG r (so ++ [y]) t else []) ++ riG r so t
def bst (b x : List Int) : List Int := if b.length < x.length then x else if x.length = b.length then (if lexL x b = true then x else b) else b
def chK : List Int → List Int → Nat → List (List Int)
  | own, _, 0 => [own]
  | _, [], _ + 1 => []
  | own, y :: t, j + 1 => chK (own ++ [y]) t j ++ chK own t (j + 1)
def lst (b x : List Int) : List Int := if lexL x b = true then x else b
def loM (p : List Int → Bool) (l : List Int) : Nat → List Int
  | 0 => []
  | m + 1 => match (chK [] l (m + 1)).filter p with
    | [] => loM p l m
    | x :: xs => xs.foldl lst x
theorem riG_len (r : Bool) : ∀ (t so x : List Int), x ∈ riG r so t → x.length ≤ so.length + t.length
  | [], _, _, h => by simp [riG] at h
  | y :: t, so, x, h => by
    rw [riG, List.mem_append] at h
    simp only [List.length_cons]
    rcases h with h | h
    · by_cases c : cnd r so y = true
      · rw [if_pos c, List.mem_cons] at h
        rcases h with rfl | h
        · simp
        · have := riG_len r t _ x h; simp at this; omega
      · rw [if_neg c] at h; cases h
    · have := riG_len r t so x h; omega
theorem riG_count (r : Bool) : ∀ (t so : List Int), (riG r so t).length + 1 ≤ 2 ^ t.length
  | [], _ => by simp [riG]
  | y :: t, so => by
    have h1 := riG_count r t so
    have h2 := riG_count r t (so ++ [y])
    rw [riG, List.length_append, List.length_cons, Nat.pow_succ]
    by_cases c : cnd r so y = true
    · rw [if_pos c, List.length_cons]; omega
    · rw [if_neg c, List.length_nil]; omega
theorem chK_len : ∀ (t own : List Int) (j : Nat) (x : List Int), x ∈ chK own t j → x.length = own.length + j
  | _, own, 0, x, h => by simp [chK] at h; simp [h]
  | [], own, j + 1, x, h => by simp [chK] at h
  | y :: t, own, j + 1, x, h => by
    rw [chK, List.mem_append] at h
    rcases h with h | h
    · have := chK_len t _ j x h; simp at this; omega
    · exact chK_len t own (j + 1) x h
theorem chK_count : ∀ (t own : List Int) (j : Nat), (chK own t j).length ≤ 2 ^ t.length
  | t, own, 0 => by simpa [chK] using Nat.one_le_two_pow
  | [], own, j + 1 => by simp [chK]
  | y :: t, own, j + 1 => by
    have h1 := chK_count t (own ++ [y]) j
    have h2 := chK_count t own (j + 1)
    rw [chK, List.length_append, List.length_cons, Nat.pow_succ]; omega
theorem bst_le (N : Nat) : ∀ (xs : List (List Int)) (b : List Int), b.length ≤ N → (∀ x ∈ xs, x.length ≤ N) → (xs.foldl bst b).length ≤ N
  | [], b, h, _ => h
  | x :: xs, b, h, hx => by
    rw [List.foldl_cons]
    refine bst_le N xs _ ?_ (fun z hz => hx z (List.mem_cons_of_mem _ hz))
    have := hx x List.mem_cons_self
    unfold bst
    split
    · exact this
    · split
      · split
        · exact this
        · exact h
      · exact h
theorem pow7 {n : Nat} (h : n ≤ 7) : 2 ^ n ≤ 128 := by
  have : n = 0 ∨ n = 1 ∨ n = 2 ∨ n = 3 ∨ n = 4 ∨ n = 5 ∨ n = 6 ∨ n = 7 := by omega
  rcases this with rfl | rfl | rfl | rfl | rfl | rfl | rfl | rfl <;> decide
theorem dropL (xs : List (List Int)) (i : Nat) (h : i < xs.length) : xs.drop i = xs.getD i [] :: xs.drop (i + 1) := by
  rw [List.drop_eq_getElem_cons h, List.getD_eq_getElem?_getD, List.getElem?_eq_getElem h]; rfl
theorem memL {xs : List (List Int)} {i : Nat} (h : i < xs.length) : xs.getD i [] ∈ xs := by
  rw [List.getD_eq_getElem?_getD, List.getElem?_eq_getElem h]; exact List.getElem_mem h
theorem l5Rises_l (r : Bool) (l : List Int) (hl : l.length ≤ 7) : ∀ (d i : Nat) (so : List Int) (acc : List (List Int)), l.length = i + d → so.length ≤ i → acc.length + (riG r so (l.drop i)).length ≤ 1000 → Ev (fun k => spec_l5Rises.l0 k l so r acc (i : Int)) (acc ++ riG r so (l.drop i))
  | 0, i, so, acc, h, hs, hb => by
    refine Ev.step (fun k => by rw [spec_l5Rises.l0]) (Ev.neg (by omega) (Ev.val ?_))
    rw [List.drop_eq_nil_of_le (by omega)]; simp [riG]
  | d + 1, i, so, acc, h, hs, hb => by
    have e : wrap64 ((i : Int) + 1) = ((i + 1 : Nat) : Int) := by rw [w64 (by omega)]; omega
    rw [drop_step l i (by omega)] at hb ⊢
    rw [riG, List.length_append] at hb
    have key : ∀ b : Bool, b = cnd r so (nth l i) → Ev (fun k => spec_l5Rises.j1 k l so r acc (i : Int) b) (acc ++ riG r so (nth l i :: l.drop (i + 1))) := by
      intro b hbb
      refine Ev.step (fun k => by rw [spec_l5Rises.j1]) ?_
      simp only [e, rd_nat, l1Own_is _ (show so.length < 17592186044416 by omega), Option.bind_some]
      refine Ev.ite (fun hc => ?_) (fun hc => ?_)
      · rw [hbb] at hc
        rw [if_pos hc, List.length_cons] at hb
        refine Ev.pos (by omega) (Ev.pos (by omega) (Ev.pos (by rw [List.length_singleton]; omega) ?_))
        refine Ev.bind (a := (so ++ [nth l i]) :: riG r (so ++ [nth l i]) (l.drop (i + 1))) ?_ ?_
        · refine Ev.step (fun k => by rw [spec_l5Rises.f]) ?_
          exact (l5Rises_l r l hl d (i + 1) (so ++ [nth l i]) [so ++ [nth l i]] (by omega) (by simp; omega) (by rw [List.length_singleton]; omega)).to (by simp)
        · refine Ev.pos (by rw [List.length_cons]; omega) ((l5Rises_l r l hl d (i + 1) so _ (by omega) (by omega) (by rw [List.length_append, List.length_cons]; omega)).to ?_)
          rw [riG, if_pos hc]; simp
      · rw [hbb] at hc
        rw [if_neg hc, List.length_nil] at hb
        refine (l5Rises_l r l hl d (i + 1) so acc (by omega) (by omega) (by omega)).to ?_
        rw [riG, if_neg hc]; simp
    refine Ev.step (fun k => by rw [spec_l5Rises.l0]) (Ev.pos (by omega) ?_)
    refine Ev.ite (fun hc => ?_) (fun hc => ?_)
    · exact key true (by have : so.length = 0 := by omega
                         simp [cnd, this])
    · have e2 : wrap64 ((so.length : Int) - 1) = ((so.length - 1 : Nat) : Int) := by rw [w64 (by omega)]; omega
      simp only [e2, rd_nat]
      refine Ev.pos (by omega) (Ev.pos (by omega) (Ev.pos (by omega) (key _ ?_)))
      have : (so.length == 0) = false := by rw [beq_eq_false_iff_ne]; omega
      rw [cnd, this, Bool.false_or]
theorem l2Before_l (a b : List Int) (hab : a.length = b.length) (hn : a.length ≤ 1000) : ∀ d i : Nat, a.length = i + d → Ev (fun k => spec_l2Before.l0 k a b (i : Int)) (lexL (a.drop i) (b.drop i))
  | 0, i, h => by
    refine Ev.step (fun k => by rw [spec_l2Before.l0]) (Ev.neg (by omega) (Ev.val ?_))
    rw [List.drop_eq_nil_of_le (by omega)]; simp [lexL]
  | d + 1, i, h => by
    have e : wrap64 ((i : Int) + 1) = ((i + 1 : Nat) : Int) := by rw [w64 (by omega)]; omega
    refine Ev.step (fun k => by rw [spec_l2Before.l0]) ?_
    simp only [e, rd_nat]
    rw [drop_step a i (by omega), drop_step b i (by omega), lexL]
    refine Ev.pos (by omega) (Ev.pos (by omega) (Ev.pos (by omega) (Ev.ite (fun hc => ?_) (fun hc => Ev.val ?_))))
    · rw [if_pos hc]; exact l2Before_l a b hab hn d (i + 1) (by omega)
    · rw [if_neg hc]; exact decide_eq_decide.2 Iff.rfl
theorem l5Longest_l (all : List (List Int)) (hn : all.length ≤ 1000) (hx : ∀ x ∈ all, x.length ≤ 1000) : ∀ (d i : Nat) (b : List Int), all.length = i + d → Ev (fun k => spec_l5Longest.l0 k b all (i : Int)) ((all.drop i).foldl bst b)
  | 0, i, b, h => by
    refine Ev.step (fun k => by rw [spec_l5Longest.l0]) (Ev.neg (by omega) (Ev.val ?_))
    rw [List.drop_eq_nil_of_le (by omega)]; rfl
  | d + 1, i, b, h => by
    have e : wrap64 ((i : Int) + 1) = ((i + 1 : Nat) : Int) := by rw [w64 (by omega)]; omega
    have er : rd_L5 all (i : Int) = all.getD i [] := by rw [rd_L5, Int.toNat_natCast]
    have hz := hx _ (memL (show i < all.length by omega))
    refine Ev.step (fun k => by rw [spec_l5Longest.l0]) ?_
    simp only [e, er]
    rw [dropL all i (by omega), List.foldl_cons]
    generalize all.getD i [] = x at hz ⊢
    refine Ev.pos (by omega) (Ev.pos (by omega) ?_)
    refine Ev.ite (fun hc => ?_) (fun hc => Ev.ite (fun hd => ?_) (fun hd => ?_))
    · rw [bst, if_pos (by omega)]; exact l5Longest_l all hn hx d (i + 1) x (by omega)
    · have hd' : x.length = b.length := by omega
      rw [bst, if_neg (by omega), if_pos hd']
      refine Ev.bind (a := lexL x b) (l2Before_l x b hd' hz x.length 0 (by omega)) (Ev.ite (fun hc => ?_) (fun hc => ?_))
      · rw [if_pos hc]; exact l5Longest_l all hn hx d (i + 1) x (by omega)
      · rw [if_neg hc]; exact l5Longest_l all hn hx d (i + 1) b (by omega)
    · rw [bst, if_neg (by omega), if_neg (by omega)]; exact l5Longest_l all hn hx d (i + 1) b (by omega)
theorem l5Longest_ev (r : Bool) (l : List Int) (hl : l.length ≤ 7) : Ev (fun k => spec_l5Longest.f k l r) ((riG r [] l).foldl bst []) := by
  unfold spec_l5Longest.f
  have h1 := riG_count r l []
  have h2 := pow7 hl
  have hr : Ev (fun k => spec_l5Rises.f k l [] 0 r) ([] :: riG r [] l) := by
    refine Ev.step (fun k => by rw [spec_l5Rises.f]) ?_
    exact (l5Rises_l r l hl l.length 0 [] [[]] (by omega) (by simp) (by simp; omega)).to (by simp)
  refine Ev.bind hr ((l5Longest_l _ (by rw [List.length_cons]; omega) (fun x hx => ?_) _ 0 [] (by rw [Nat.zero_add])).to ?_)
  · rcases List.mem_cons.1 hx with rfl | hx
    · simp
    · have := riG_len r l [] x hx; simp at this; omega
  · rw [List.drop_zero, List.foldl_cons]
    simp [bst, lexL]
theorem at_l (l d : List Int) (hd : ∀ x ∈ d, 0 ≤ x ∧ x < (l.length : Int)) (hn : d.length ≤ 1000) : ∀ (m i : Nat) (out : List Int), d.length = i + m → out.length ≤ i → Ev (fun k => impl_at.l0 k l out d (d.length : Int) (i : Int)) (out ++ (d.drop i).map (rd l))
  | 0, i, out, h, ho => by
    refine Ev.step (fun k => by rw [impl_at.l0]) (Ev.neg (by omega) (Ev.val ?_))
    rw [List.drop_eq_nil_of_le (by omega)]; simp
  | m + 1, i, out, h, ho => by
    have e : wrap64 ((i : Int) + 1) = ((i + 1 : Nat) : Int) := by rw [w64 (by omega)]; omega
    have hz := hd (nth d i) (by rw [nth_lt d i (by omega)]; exact List.getElem_mem _)
    refine Ev.step (fun k => by rw [impl_at.l0]) ?_
    simp only [e, rd_nat]
    refine Ev.pos (by omega) (Ev.pos (by omega) (Ev.pos (by omega) (Ev.pos hz.1 (Ev.pos hz.2 (Ev.pos (by omega) ?_)))))
    refine (at_l l d hd hn m (i + 1) _ (by omega) (by simp; omega)).to ?_
    rw [drop_step d i (by omega)]; simp
theorem at_ev (l d : List Int) (hd : ∀ x ∈ d, 0 ≤ x ∧ x < (l.length : Int)) (hn : d.length ≤ 1000) : Ev (fun k => impl_at.f k l d) (d.map (rd l)) := by
  unfold impl_at.f
  exact (at_l l d hd hn d.length 0 [] (by omega) (by simp)).to (by simp)
theorem longest_1_ev (so_ : Nat → List Int → Option Bool) (p : List Int → Bool) (l d : List Int) (s : List (List Int)) (hp : Ev (fun k => so_ k (d.map (rd l))) (p (d.map (rd l)))) (hd : ∀ x ∈ d, 0 ≤ x ∧ x < (l.length : Int)) (hn : d.length ≤ 1000) (hs : s.length < 1000000) : Ev (fun k => impl_longest_1.f so_ l k s d) (s ++ [d.map (rd l)].filter p, false) := by
  unfold impl_longest_1.f
  refine Ev.bind (at_ev l d hd hn) (Ev.bind hp (Ev.ite (fun hc => Ev.pos hs (Ev.val ?_)) (fun hc => Ev.val ?_)))
  · simp [hc]
  · simp [hc]
theorem choose_l (so_ : Nat → List Int → Option Bool) (p : List Int → Bool) (l : List Int) (m : Nat) (hl : l.length ≤ 7) (hm : 1 ≤ m ∧ m ≤ 7) (hp : ∀ x : List Int, x.length = m → Ev (fun k => so_ k x) (p x)) :
    ∀ (d i : Nat) (dn : List Int) (s : List (List Int)), l.length = i + d → dn.length < m → (∀ x ∈ dn, 0 ≤ x ∧ x < (l.length : Int)) → s.length + (chK (dn.map (rd l)) (l.drop i) (m - dn.length)).length ≤ 1000 →
      Ev (fun k => impl_choose_1.l0 (impl_longest_1.f so_ l) k (l.length : Int) (m : Int) s dn (i : Int)) (s ++ (chK (dn.map (rd l)) (l.drop i) (m - dn.length)).filter p, false)
  | 0, i, dn, s, h, hd, hv, hb => by
    refine Ev.step (fun k => by rw [impl_choose_1.l0]) (Ev.neg (by omega) (Ev.val ?_))
    obtain ⟨j, hj⟩ : ∃ j, m - dn.length = j + 1 := ⟨m - dn.length - 1, by omega⟩
    rw [List.drop_eq_nil_of_le (by omega), hj]; simp [chK]
  | d + 1, i, dn, s, h, hd, hv, hb => by
    have e : wrap64 ((i : Int) + 1) = ((i + 1 : Nat) : Int) := by rw [w64 (by omega)]; omega
    obtain ⟨j, hj⟩ : ∃ j, m - dn.length = j + 1 := ⟨m - dn.length - 1, by omega⟩
    have hmap : (dn ++ [(i : Int)]).map (rd l) = dn.map (rd l) ++ [nth l i] := by simp [rd_nat]
    have hv' : ∀ x ∈ dn ++ [(i : Int)], 0 ≤ x ∧ x < (l.length : Int) := fun x hx => by
      rcases List.mem_append.1 hx with hx | hx
      · exact hv x hx
      · rw [List.mem_singleton.1 hx]; omega
    have hfl : ∀ xs : List (List Int), (xs.filter p).length ≤ xs.length := fun xs => List.length_filter_le _ _
    rw [drop_step l i (by omega), hj, chK, List.length_append] at hb
    rw [drop_step l i (by omega), hj, chK, List.filter_append]
    refine Ev.step (fun k => by rw [impl_choose_1.l0]) (Ev.pos (by omega) (Ev.pos (by omega) ?_))
    simp only [e]
    refine Ev.bind (a := (s ++ (chK (dn.map (rd l) ++ [nth l i]) (l.drop (i + 1)) j).filter p, false)) ?_ (Ev.neg (by simp) ?_)
    · refine Ev.step (fun k => by rw [impl_choose_1.f]) (Ev.ite (fun hc => ?_) (fun hc => ?_))
      · have hlen : dn.length + 1 = m := by simp at hc; omega
        have hj0 : j = 0 := by omega
        subst hj0
        refine (longest_1_ev so_ p l _ s (hp _ (by simp; omega)) hv' (by simp; omega) (by omega)).to ?_
        rw [hmap, chK]
      · have hlen : dn.length + 1 ≠ m := fun he => hc (by simp; omega)
        have hj' : m - (dn ++ [(i : Int)]).length = j := by simp; omega
        have := choose_l so_ p l m hl hm hp d (i + 1) (dn ++ [(i : Int)]) s (by omega) (by simp; omega) hv' (by rw [hmap, hj']; omega)
        rw [hmap, hj'] at this
        exact this
    · have hq := hfl (chK (dn.map (rd l) ++ [nth l i]) (l.drop (i + 1)) j)
      refine (choose_l so_ p l m hl hm hp d (i + 1) dn _ (by omega) hd hv (by simp only [List.length_append, hj]; omega)).to ?_
      rw [hj, List.append_assoc]
theorem choose_ev (so_ : Nat → List Int → Option Bool) (p : List Int → Bool) (l : List Int) (m : Nat) (hl : l.length ≤ 7) (hm : 1 ≤ m ∧ m ≤ 7) (hp : ∀ x : List Int, x.length = m → Ev (fun k => so_ k x) (p x)) : Ev (fun k => impl_choose.f (impl_longest_1.f so_ l) k (l.length : Int) (m : Int) []) ((chK [] l m).filter p) := by
  unfold impl_choose.f
  refine Ev.bind (a := ((chK [] l m).filter p, false)) ?_ (Ev.val rfl)
  refine Ev.step (fun k => by rw [impl_choose_1.f]) (Ev.neg (by simp; omega) ?_)
  have h1 := chK_count l [] m
  have h2 := pow7 hl
  exact (choose_l so_ p l m hl hm hp l.length 0 [] [] (by omega) (by simp; omega) (by simp) (by simp; omega)).to (by simp)
def cmpM : List Int → List Int → Int
  | a :: s, b :: t => if a = b then cmpM s t else if a < b then -1 else 1
  | _, _ => 0
theorem cmpM_lex : ∀ a b : List Int, cmpM a b < 0 ↔ lexL a b = true
  | [], _ => by simp [cmpM, lexL]
  | _ :: _, [] => by simp [cmpM, lexL]
  | a :: s, b :: t => by
    rw [cmpM, lexL]
    by_cases h : a = b
    · rw [if_pos h, if_pos h]; exact cmpM_lex s t
    · rw [if_neg h, if_neg h]
      by_cases c : a < b
      · simp [c]
      · simp [c]
theorem cmpCompare_is (a b : Int) : cmp_Compare_int.f a b = some (if a < b then -1 else if a > b then 1 else 0) := by
  unfold cmp_Compare_int.f cmp_isNaN_int.f
  simp
  split
  · rfl
  · split <;> rfl
theorem Compare_l (a b : List Int) (hab : a.length = b.length) (hn : a.length ≤ 1000) : ∀ d i : Nat, a.length = i + d → Ev (fun k => slices_Compare_int_int.l0 k a b a (a.length : Int) (i : Int)) (cmpM (a.drop i) (b.drop i))
  | 0, i, h => by
    refine Ev.step (fun k => by rw [slices_Compare_int_int.l0]) (Ev.neg (by omega) (Ev.neg (by omega) (Ev.val ?_)))
    rw [List.drop_eq_nil_of_le (by omega)]; simp [cmpM]
  | d + 1, i, h => by
    have e : wrap64 ((i : Int) + 1) = ((i + 1 : Nat) : Int) := by rw [w64 (by omega)]; omega
    refine Ev.step (fun k => by rw [slices_Compare_int_int.l0]) ?_
    simp only [e, rd_nat, cmpCompare_is, Option.bind_some]
    rw [drop_step a i (by omega), drop_step b i (by omega), cmpM]
    refine Ev.pos (by omega) (Ev.pos (by omega) (Ev.pos (by omega) (Ev.neg (by omega) (Ev.pos (by omega) ?_))))
    by_cases c : nth a i = nth b i
    · rw [if_pos c]
      exact Ev.pos (by rw [if_neg (by omega), if_neg (by omega)]) (Compare_l a b hab hn d (i + 1) (by omega))
    · rw [if_neg c]
      by_cases c2 : nth a i < nth b i
      · rw [if_pos c2]; exact Ev.neg (by decide) (Ev.val (by rw [if_pos c2]))
      · rw [if_neg c2, if_pos (show nth a i > nth b i by omega)]; exact Ev.neg (by decide) (Ev.val (by rw [if_neg c2]))
theorem Compare_ev (a b : List Int) (hab : a.length = b.length) (hn : a.length ≤ 1000) : Ev (fun k => slices_Compare_int_int.f k a b) (cmpM a b) := by
  unfold slices_Compare_int_int.f
  exact Compare_l a b hab hn a.length 0 (by omega)
theorem minGo_l (all : List (List Int)) (m : Nat) (hm : m ≤ 1000) (hx : ∀ x ∈ all, x.length = m) : ∀ (d i : Nat) (b : List Int), all.length = i + d → b.length = m → Ev (fun k => minGo k all d (i : Int) b) ((all.drop i).foldl lst b)
  | 0, i, b, h, hb => by
    refine Ev.congr (fun k => by rw [minGo]) (Ev.val ?_)
    rw [List.drop_eq_nil_of_le (by omega)]; rfl
  | d + 1, i, b, h, hb => by
    have er : rowOf all (i : Int) = all.getD i [] := by rw [rowOf, Int.toNat_natCast]
    have hz := hx _ (memL (show i < all.length by omega))
    refine Ev.congr (fun k => by rw [minGo]) ?_
    simp only [er]
    rw [dropL all i (by omega), List.foldl_cons]
    generalize all.getD i [] = x at hz ⊢
    have e : ((i : Int) + 1) = ((i + 1 : Nat) : Int) := by omega
    simp only [e]
    refine Ev.bind (Compare_ev x b (by omega) (by omega)) (Ev.ite (fun hc => ?_) (fun hc => ?_))
    · rw [lst, if_pos ((cmpM_lex _ _).1 hc)]; exact minGo_l all m hm hx d (i + 1) x (by omega) hz
    · rw [lst, if_neg (fun h_ => hc ((cmpM_lex _ _).2 h_))]; exact minGo_l all m hm hx d (i + 1) b (by omega) hb
theorem lgGo_l (so_ : Nat → List Int → Option Bool) (p : List Int → Bool) (l : List Int) (hl : l.length ≤ 7) (hp : ∀ x : List Int, 1 ≤ x.length → x.length ≤ 7 → Ev (fun k => so_ k x) (p x)) : ∀ m : Nat, m ≤ l.length → Ev (fun k => lgGo so_ k l m (m : Int)) (loM p l m)
  | 0, _ => by rw [loM]; exact Ev.congr (fun k => by rw [lgGo]) (Ev.val rfl)
  | m + 1, hm => by
    refine Ev.congr (fun k => by rw [lgGo]) ?_
    refine Ev.bind (choose_ev so_ p l (m + 1) hl (by omega) (fun x hx => hp x (by omega) (by omega))) ?_
    have hc := chK_count l [] (m + 1)
    have hf : ((chK [] l (m + 1)).filter p).length ≤ (chK [] l (m + 1)).length := List.length_filter_le _ _
    have h2 := pow7 hl
    have hx : ∀ x ∈ (chK [] l (m + 1)).filter p, x.length = m + 1 := fun x hx => by
      have := chK_len l [] (m + 1) x (List.mem_filter.1 hx).1; simpa using this
    rw [loM]
    generalize (chK [] l (m + 1)).filter p = xs at hf hx ⊢
    cases xs with
    | nil =>
      refine Ev.neg (by simp) ?_
      have e : (((m + 1 : Nat) : Int) - 1) = (m : Int) := by omega
      simp only [e]
      exact lgGo_l so_ p l hl hp m (by omega)
    | cons x xs =>
      refine Ev.pos (by simp) ?_
      unfold slices_MinFunc_int_int.f
      refine Ev.pos (by simp at hf ⊢; omega) ?_
      exact (minGo_l (x :: xs) (m + 1) (by omega) hx xs.length 1 x (by simp; omega) (hx x List.mem_cons_self)).to (by simp)
theorem and_255 (E : Int) (h0 : 0 ≤ E) (h1 : E ≤ 18446744073709551615) : bits BinOp.and IntKind.u64 E 255 = E % 256 := by
  have h := bits_and_u64_nat E.toNat 255 (by omega) (by omega)
  have h3 : E.toNat &&& 255 = E.toNat % 256 := Nat.and_two_pow_sub_one_eq_mod E.toNat 8
  rw [h3, Int.toNat_of_nonneg h0] at h
  exact h.trans (by omega)
def CodeB (s : List Int) : Prop := s.length ≤ 1000000 ∧ ∀ x ∈ s, 0 ≤ x ∧ x ≤ 255
theorem u64_range (n : Int) : 0 ≤ IntKind.u64.wrap n ∧ IntKind.u64.wrap n ≤ 18446744073709551615 := by
  have h : IntKind.u64.wrap n = n % 18446744073709551616 := by simp [IntKind.wrap, IntKind.signed, IntKind.bits]
  omega
theorem next_ok {s : List Int} (hs : CodeB s) (p st : Int) (hp : 0 ≤ p ∧ p ≤ 10000000) : ∃ x st' : Int, spec_l1Cur_next.f s p st = some (x, p + 1, st') ∧ 0 ≤ x ∧ x ≤ 255 := by
  have e : wrap64 (p + 1) = p + 1 := w64 (by omega)
  have hb : ∀ n : Int, 0 ≤ wrap64 (bits .and .u64 (IntKind.u64.wrap n / 1099511627776) 255) ∧ wrap64 (bits .and .u64 (IntKind.u64.wrap n / 1099511627776) 255) ≤ 255 := fun n => by
    have h := u64_range n
    rw [and_255 _ (by omega) (by omega), w64 (by omega)]; omega
  unfold spec_l1Cur_next.f
  rw [e]
  by_cases h1 : p < (s.length : Int)
  · have hx : 0 ≤ rd s p ∧ rd s p ≤ 255 := by
      obtain ⟨i, rfl⟩ := Int.eq_ofNat_of_zero_le hp.1
      have hi : i < s.length := by omega
      rw [show rd s (i : Int) = nth s i from rfl, nth_lt s i hi]
      exact hs.2 _ (List.getElem_mem hi)
    rw [if_pos h1, if_pos hp.1, if_pos (by omega), w64 (by omega)]
    exact ⟨_, _, rfl, hx.1, hx.2⟩
  · rw [if_neg h1, if_neg (by omega)]
    exact ⟨_, _, rfl, (hb _).1, (hb _).2⟩
theorem pick_ok {s : List Int} (hs : CodeB s) (p st n : Int) (hp : 0 ≤ p ∧ p ≤ 10000000) (hn : n ≤ 200) : ∃ x p' st' : Int, spec_l1Cur_pick.f s p st n = some (x, p', st') ∧ 0 ≤ x ∧ (x < n ∨ n < 1) ∧ 0 ≤ p' ∧ p' ≤ p + 1 := by
  unfold spec_l1Cur_pick.f
  by_cases h1 : n ≤ 1
  · rw [if_pos h1]; exact ⟨0, p, st, rfl, by omega, by omega, by omega, by omega⟩
  · obtain ⟨x, st', h, hx⟩ := next_ok hs p st hp
    rw [if_neg h1, h, Option.bind_some, if_neg (by omega), if_neg (by omega)]
    refine ⟨_, _, _, rfl, Int.tmod_nonneg _ hx.1, .inl (Int.tmod_lt_of_pos _ (by omega)), by simp only []; omega, by simp only []; omega⟩
theorem among_ok {s : List Int} (hs : CodeB s) (p st : Int) (l : List Int) (hp : 0 ≤ p ∧ p ≤ 10000000) (hl : 1 ≤ l.length ∧ l.length ≤ 200) : ∃ x p' st' : Int, spec_l1Cur_among.f s p st l = some (x, p', st') ∧ x ∈ l ∧ 0 ≤ p' ∧ p' ≤ p + 1 := by
  unfold spec_l1Cur_among.f
  obtain ⟨x, p', st', h, hx, h2, h3⟩ := pick_ok hs p st (l.length : Int) hp (by omega)
  rw [h, Option.bind_some, if_pos hx, if_pos (by omega)]
  obtain ⟨i, rfl⟩ := Int.eq_ofNat_of_zero_le hx
  refine ⟨_, _, _, rfl, ?_, h3⟩
  rw [show rd l (i : Int) = nth l i from rfl, nth_lt l i (by omega)]
  exact List.getElem_mem _
theorem order_l0_ok {s : List Int} (hs : CodeB s) : ∀ (d : Nat) (o : List Int) (p st : Int), 0 ≤ p → p + d ≤ 10000000 → o.length + d ≤ 100 → ∃ (r : List Int) (p' st' : Int), spec_l1Cur_order.l0 s d o p st = some (r, p', st') ∧ r.length = o.length + d ∧ 0 ≤ p' ∧ p' ≤ p + d
  | 0, o, p, st, h0, h1, h2 => ⟨o, p, st, rfl, by simp, h0, by omega⟩
  | d + 1, o, p, st, h0, h1, h2 => by
    obtain ⟨x, p', st', h, hx, h3, h4⟩ := pick_ok hs p st ((o.length : Int) + 1) ⟨h0, by omega⟩ (by omega)
    rw [spec_l1Cur_order.l0, h, Option.bind_some, if_pos ⟨⟨hx, by simp only []; omega⟩, by omega⟩]
    have hlen : (o.take x.toNat ++ [(o.length : Int) + 1] ++ o.drop x.toNat).length = o.length + 1 := by simp; omega
    obtain ⟨r, p2, st2, g, g1, g2⟩ := order_l0_ok hs d (o.take x.toNat ++ [(o.length : Int) + 1] ++ o.drop x.toNat) p' st' h4.1 (by omega) (by omega)
    exact ⟨r, p2, st2, g, by omega, g2.1, by omega⟩
theorem order_ok {s : List Int} (hs : CodeB s) (p st : Int) (hp : 0 ≤ p ∧ p ≤ 1000) : ∃ (r : List Int) (p' st' : Int), spec_l1Cur_order.f s p st = some (r, p', st') ∧ r.length ≤ 8 ∧ 0 ≤ p' ∧ p' ≤ p + 20 := by
  unfold spec_l1Cur_order.f
  obtain ⟨n, p1, st1, h1, hn, g1⟩ := among_ok hs p st [4, 5, 3, 6, 2, 7, 1, 4] ⟨hp.1, by omega⟩ (by simp)
  have hn' : 1 ≤ n ∧ n ≤ 7 := by simp at hn; omega
  obtain ⟨o, p2, st2, h2, ho, g2⟩ := order_l0_ok hs n.toNat [] p1 st1 g1.1 (by omega) (by simp; omega)
  obtain ⟨q, p3, st3, h3, hq, g3⟩ := pick_ok hs p2 st2 40 ⟨g2.1, by omega⟩ (by omega)
  rw [h1, Option.bind_some, if_pos (by omega), h2, Option.bind_some, h3, Option.bind_some]
  simp only [List.length_nil] at ho
  by_cases q0 : q = 0
  · rw [if_pos q0]; exact ⟨_, _, _, rfl, by simp, g3.2.1, by simp only []; omega⟩
  rw [if_neg q0]
  by_cases q1 : q = 1
  · rw [if_pos q1]
    obtain ⟨k, p4, st4, h4, hk, g4⟩ := pick_ok hs p3 st3 (o.length : Int) ⟨g3.2.1, by omega⟩ (by omega)
    obtain ⟨x, p5, st5, h5, hx, g5⟩ := among_ok hs p4 st4 [0, 1, 8, -1] ⟨g4.2.1, by omega⟩ (by simp)
    rw [h4, Option.bind_some, h5, Option.bind_some, if_pos ⟨hk, by simp only []; omega⟩]
    exact ⟨_, _, _, rfl, by simp; omega, g5.1, by simp only []; omega⟩
  rw [if_neg q1]
  by_cases q2 : q = 2
  · rw [if_pos q2]; exact ⟨_, _, _, rfl, by simp, g3.2.1, by simp only []; omega⟩
  · rw [if_neg q2]; exact ⟨_, _, _, rfl, by simp only []; omega, g3.2.1, by simp only []; omega⟩
theorem fewOf_ok {s : List Int} (hs : CodeB s) (p st a b c : Int) (l : List Int) (hp : 0 ≤ p ∧ p ≤ 10000) (ha : 1 ≤ a ∧ a + 2 ≤ c ∧ c ≤ 100) (hb : 8 ≤ b) (hl : 1 ≤ l.length) :
    ∃ x p' st' : Int, ((spec_l1Cur_pick.f s p st 24).bind fun t => (let m := wrap64 (a + wrap64 (Int.tdiv t.1 b)); if 0 ≤ m ∧ m ≤ c then spec_l1Cur_among.f s t.2.1 t.2.2 (l.take m.toNat) else none)) = some (x, p', st') ∧ x ∈ l ∧ 0 ≤ p' ∧ p' ≤ p + 2 := by
  obtain ⟨t, p1, st1, h1, ht, ht2, g1⟩ := pick_ok hs p st 24 ⟨hp.1, by omega⟩ (by omega)
  have hq : 0 ≤ Int.tdiv t b ∧ Int.tdiv t b ≤ 2 := by
    rw [Int.tdiv_eq_ediv_of_nonneg ht]
    refine ⟨Int.ediv_nonneg ht (by omega), ?_⟩
    have : t / b < 3 := Int.ediv_lt_of_lt_mul (by omega) (by omega)
    omega
  rw [h1, Option.bind_some]
  simp only []
  rw [w64 (n := Int.tdiv t b) (by omega), w64 (by omega), if_pos (by omega)]
  obtain ⟨x, p2, st2, h2, hx, g2⟩ := among_ok hs p1 st1 (l.take (a + Int.tdiv t b).toNat) ⟨g1.1, by omega⟩ (by rw [List.length_take]; omega)
  exact ⟨x, p2, st2, h2, List.mem_of_mem_take hx, g2.1, by omega⟩
theorem vCut_ok {s : List Int} (hs : CodeB s) (a : Int) (ha : 0 ≤ a ∧ a ≤ 100) : ∃ c : List Int, laws_vCut.f s a = some c ∧ c.length ≤ s.length + 1 ∧ ∀ x ∈ c, 0 ≤ x ∧ x ≤ 255 := by
  obtain ⟨hl, hs⟩ := hs
  unfold laws_vCut.f
  simp only [Option.bind_some, List.nil_append, List.length_nil, Nat.zero_add, List.length_drop]
  by_cases h : a > (s.length : Int)
  · rw [if_pos h, if_pos (by omega), if_pos (by omega), if_pos (by omega), if_pos (by omega)]
    refine ⟨_, rfl, by simp, fun x hx => ?_⟩
    rcases List.mem_append.1 hx with hx | hx
    · exact hs x (List.mem_of_mem_drop hx)
    · rw [List.mem_singleton.1 hx]; omega
  · rw [if_neg h, if_pos (by omega), if_pos (by omega), if_pos (by omega), if_pos (by omega)]
    refine ⟨_, rfl, by simp, fun x hx => ?_⟩
    rcases List.mem_append.1 hx with hx | hx
    · exact hs x (List.mem_of_mem_drop hx)
    · rw [List.mem_singleton.1 hx]; omega
def qwJ (g : List Int → Nat) (x : Int) (last : List Int) : Nat → Nat → Nat
  | 0, _ => 0
  | d + 1, j => (if nth last j < x then g (last.set j x) else 0) + qwJ g x last d (j + 1)
def qwN : List Int → List Int → Nat
  | [], _ => 1
  | x :: t, last => qwJ (qwN t) x last last.length 0
def qwK (g : List Int → Bool) (x : Int) (last : List Int) : Nat → Nat → Bool
  | 0, _ => false
  | d + 1, j => (decide (nth last j < x) && g (last.set j x)) || qwK g x last d (j + 1)
def qwB : List Int → List Int → Bool
  | [], _ => true
  | x :: t, last => qwK (qwB t) x last last.length 0
theorem qwJ_le (g : List Int → Nat) (x : Int) (last : List Int) (M : Nat) (hg : ∀ q : List Int, q.length = last.length → g q ≤ M) : ∀ d j : Nat, qwJ g x last d j ≤ d * M
  | 0, _ => by simp [qwJ]
  | d + 1, j => by
    have h1 := hg (last.set j x) (by simp)
    have h2 := qwJ_le g x last M hg d (j + 1)
    rw [qwJ, Nat.succ_mul]
    split <;> omega
theorem qwN_le : ∀ (l last : List Int), last.length ≤ 4 → qwN l last ≤ 4 ^ l.length
  | [], _, _ => by simp [qwN]
  | x :: t, last, h => by
    rw [qwN, List.length_cons, Nat.pow_succ]
    have h1 := qwJ_le (qwN t) x last (4 ^ t.length) (fun q hq => qwN_le t q (by omega)) last.length 0
    have h2 : last.length * 4 ^ t.length ≤ 4 * 4 ^ t.length := Nat.mul_le_mul_right _ h
    omega
theorem qwN_small (l last : List Int) (hl : l.length ≤ 7) (h : last.length ≤ 4) : qwN l last ≤ 16384 := by
  have h1 := qwN_le l last h
  have h2 : 4 ^ l.length ≤ 4 ^ 7 := Nat.pow_le_pow_right (by omega) hl
  have h3 : 4 ^ 7 = 16384 := rfl
  omega
theorem qwJ_pos (g : List Int → Nat) (b : List Int → Bool) (x : Int) (last : List Int) (hg : ∀ q : List Int, 0 < g q ↔ b q = true) : ∀ d j : Nat, 0 < qwJ g x last d j ↔ qwK b x last d j = true
  | 0, _ => by simp [qwJ, qwK]
  | d + 1, j => by
    have h1 := hg (last.set j x)
    have h2 := qwJ_pos g b x last hg d (j + 1)
    rw [qwJ, qwK, Bool.or_eq_true, Bool.and_eq_true, decide_eq_true_eq, ← h1, ← h2]
    by_cases c : nth last j < x
    · rw [if_pos c]; simp only [c, true_and]; omega
    · rw [if_neg c]; simp only [c, false_and, false_or]; omega
theorem qwN_pos : ∀ l last : List Int, 0 < qwN l last ↔ qwB l last = true
  | [], _ => by simp [qwN, qwB]
  | x :: t, last => qwJ_pos (qwN t) (qwB t) x last (fun q => qwN_pos t q) last.length 0
theorem l5Ways_in (o last : List Int) (i : Nat) (hi : i < o.length) (hl : o.length ≤ 7) (h4 : last.length ≤ 4) (g : List Int → Nat) (hg : ∀ q : List Int, q.length = last.length → Ev (fun k => spec_l5Ways.f k o ((i + 1 : Nat) : Int) q) ((g q : Nat) : Int)) :
    ∀ (d j s : Nat), last.length = j + d → s + qwJ g (nth o i) last d j ≤ 1000000 → Ev (fun k => spec_l5Ways.l0 k o (i : Int) last (s : Int) (j : Int)) ((s + qwJ g (nth o i) last d j : Nat) : Int)
  | 0, j, s, h, hs => by
    refine Ev.step (fun k => by rw [spec_l5Ways.l0]) (Ev.neg (by omega) (Ev.val ?_))
    rw [qwJ]; rfl
  | d + 1, j, s, h, hs => by
    have e : wrap64 ((j : Int) + 1) = ((j + 1 : Nat) : Int) := wup j (by omega)
    have e2 : wrap64 ((i : Int) + 1) = ((i + 1 : Nat) : Int) := wup i (by omega)
    rw [qwJ] at hs ⊢
    refine Ev.step (fun k => by rw [spec_l5Ways.l0]) ?_
    simp only [e, e2, rd_nat, Int.toNat_natCast, l1Own_is _ (show last.length < 17592186044416 by omega), Option.bind_some]
    clear e e2
    refine Ev.pos (by omega) (Ev.pos (by omega) (Ev.pos (by omega) (Ev.pos (by omega) (Ev.ite (fun hc => ?_) (fun hc => ?_)))))
    · rw [if_pos hc] at hs ⊢
      refine Ev.pos (by omega) (Ev.bind (hg _ (by simp)) ?_)
      generalize g (last.set j (nth o i)) = y at hs ⊢
      have e3 : wrap64 ((s : Int) + (y : Int)) = ((s + y : Nat) : Int) := by rw [w64 (by omega)]; omega
      simp only [e3]
      clear e3
      exact (l5Ways_in o last i hi hl h4 g hg d (j + 1) (s + y) (by omega) (by omega)).to (by rw [Nat.add_assoc])
    · rw [if_neg hc, Nat.zero_add] at hs ⊢
      exact l5Ways_in o last i hi hl h4 g hg d (j + 1) s (by omega) hs
theorem l5Ways_ev (o : List Int) (hl : o.length ≤ 7) : ∀ (m i : Nat) (last : List Int), o.length = i + m → last.length ≤ 4 → Ev (fun k => spec_l5Ways.f k o (i : Int) last) ((qwN (o.drop i) last : Nat) : Int)
  | 0, i, last, h, h4 => by
    refine Ev.step (fun k => by rw [spec_l5Ways.f]) (Ev.pos (by omega) (Ev.val ?_))
    rw [List.drop_eq_nil_of_le (by omega), qwN]; rfl
  | m + 1, i, last, h, h4 => by
    refine Ev.step (fun k => by rw [spec_l5Ways.f]) (Ev.neg (by omega) ?_)
    have hb := qwN_small (nth o i :: o.drop (i + 1)) last (by simp; omega) h4
    rw [drop_step o i (by omega)]
    rw [qwN] at hb ⊢
    exact (l5Ways_in o last i (by omega) hl h4 (qwN (o.drop (i + 1))) (fun q hq => l5Ways_ev o hl m (i + 1) q (by omega) (by omega)) last.length 0 0 (by omega) (by omega)).to (by rw [Nat.zero_add])
theorem clone_is (l : List Int) (h : l.length ≤ 1000000) : slices_Clone_int_int.f l = some l := by
  unfold slices_Clone_int_int.f; rw [if_pos (by omega)]
theorem queueWays_in (x : Int) (t last : List Int) (hl : t.length ≤ 7) (h4 : last.length ≤ 4) (g : List Int → Nat) (hg : ∀ q : List Int, q.length = last.length → Ev (fun k => impl_queueWays.f k t q) ((g q : Nat) : Int)) :
    ∀ (d j s : Nat), last.length = j + d → s + qwJ g x last d j ≤ 1000000 → Ev (fun k => impl_queueWays.l0 k (x :: t) last (s : Int) last (last.length : Int) (j : Int)) ((s + qwJ g x last d j : Nat) : Int)
  | 0, j, s, h, hs => by
    refine Ev.step (fun k => by rw [impl_queueWays.l0]) (Ev.neg (by omega) (Ev.val ?_))
    rw [qwJ]; rfl
  | d + 1, j, s, h, hs => by
    have e : wrap64 ((j : Int) + 1) = ((j + 1 : Nat) : Int) := wup j (by omega)
    have e2 : rd (x :: t) 0 = x := rfl
    have e4 : (x :: t).drop 1 = t := rfl
    rw [qwJ] at hs ⊢
    refine Ev.step (fun k => by rw [impl_queueWays.l0]) ?_
    simp only [e, e2, e4, rd_nat, Int.toNat_natCast, clone_is _ (show last.length ≤ 1000000 by omega), Option.bind_some]
    clear e
    refine Ev.pos (by omega) (Ev.pos (by omega) (Ev.pos (by omega) (Ev.pos (by rw [List.length_cons]; omega) (Ev.ite (fun hc => ?_) (fun hc => ?_)))))
    · rw [if_pos hc] at hs ⊢
      refine Ev.pos (by omega) (Ev.pos (by rw [List.length_cons]; omega) (Ev.bind (hg _ (by simp)) ?_))
      generalize g (last.set j x) = y at hs ⊢
      have e3 : wrap64 ((s : Int) + (y : Int)) = ((s + y : Nat) : Int) := by rw [w64 (by omega)]; omega
      simp only [e3]
      clear e3
      exact (queueWays_in x t last hl h4 g hg d (j + 1) (s + y) (by omega) (by omega)).to (by rw [Nat.add_assoc])
    · rw [if_neg hc, Nat.zero_add] at hs ⊢
      exact queueWays_in x t last hl h4 g hg d (j + 1) s (by omega) hs
theorem queueWays_ev : ∀ (o : List Int), o.length ≤ 7 → ∀ last : List Int, last.length ≤ 4 → Ev (fun k => impl_queueWays.f k o last) ((qwN o last : Nat) : Int)
  | [], _, last, h4 => by
    refine Ev.step (fun k => by rw [impl_queueWays.f]) ?_
    exact Ev.pos (by simp) (Ev.val rfl)
  | x :: t, hl, last, h4 => by
    have ht : t.length ≤ 6 := by rw [List.length_cons] at hl; omega
    refine Ev.step (fun k => by rw [impl_queueWays.f]) (Ev.neg (by rw [List.length_cons]; omega) ?_)
    have hb := qwN_small (x :: t) last hl h4
    rw [qwN] at hb ⊢
    exact (queueWays_in x t last (by omega) h4 (qwN t) (fun q hq => queueWays_ev t (by omega) q (by omega)) last.length 0 0 (by omega) (by omega)).to (by rw [Nat.zero_add])
def isKk (k : Int) : Bool := decide (1 ≤ k ∧ k ≤ 4)
def resWays (o : List Int) (k : Int) : Int × Bool := if isOrd o = true then (if isKk k = true then (((qwN o (List.replicate k.toNat 0) : Nat) : Int), true) else (0, false)) else (0, false)
theorem isQueues_isQ (a : Int) : impl_isQueues.f a = some (isKk a) := by
  unfold impl_isQueues.f isKk
  by_cases h : a ≥ 1
  · rw [if_pos h]; simp [h]
  · rw [if_neg h]; simp; omega
theorem isKk_all {k : Int} (h : isKk k = true) : 1 ≤ k ∧ k ≤ 4 := by simpa [isKk] using h
theorem specWays_ev (o : List Int) (k : Int) (hn : o.length ≤ 17592186044415) : Ev (fun q => spec_CountQueueWays.f q o k) (resWays o k) := by
  unfold spec_CountQueueWays.f resWays
  refine Ev.bind (l2Order_ev o (by omega)) (Ev.ite (fun hc => ?_) (fun hc => ?_))
  · simp only [l1In_is, Option.bind_some]
    rw [if_pos hc]
    change Ev (fun q => if isKk k = true then _ else _) _
    refine Ev.ite (fun hk => ?_) (fun hk => ?_)
    · have hk' := isKk_all hk
      rw [if_pos hk]
      refine Ev.pos (by omega) (Ev.pos (by omega) ?_)
      exact Ev.bind (l5Ways_ev o (isOrd_len hc).2 o.length 0 _ (by omega) (by rw [List.length_replicate]; omega)) (Ev.val (by rw [List.drop_zero]))
    · rw [if_neg hk]; exact Ev.val rfl
  · rw [if_neg hc]; exact Ev.val rfl
theorem implWays_ev (o : List Int) (k : Int) (hn : o.length ≤ 17592186044415) : Ev (fun q => impl_CountQueueWays.f q o k) (resWays o k) := by
  unfold impl_CountQueueWays.f resWays
  refine Ev.bind (isOrder_ev o (by omega)) (Ev.ite (fun hc => ?_) (fun hc => ?_))
  · simp only [isQueues_isQ, Option.bind_some]
    rw [if_pos hc]
    refine Ev.ite (fun hk => ?_) (fun hk => ?_)
    · have hk' := isKk_all hk
      rw [if_pos hk]
      refine Ev.pos (by omega) (Ev.pos (by omega) ?_)
      exact Ev.bind (queueWays_ev o (isOrd_len hc).2 _ (by rw [List.length_replicate]; omega)) (Ev.val rfl)
    · rw [if_neg hk]; exact Ev.val rfl
  · rw [if_neg hc]; exact Ev.val rfl
def upB (r : Bool) : List Int → Bool
  | a :: b :: t => (decide (b > a) == r) && upB r (b :: t)
  | _ => true
theorem vUp_l (l : List Int) (r : Bool) (hl : l.length ≤ 1000) : ∀ d j : Nat, l.length = j + 1 + d → Ev (fun k => laws_vUp.l0 k l r ((j + 1 : Nat) : Int)) (upB r (l.drop j))
  | 0, j, h => by
    refine Ev.step (fun k => by rw [laws_vUp.l0]) (Ev.neg (by omega) (Ev.val ?_))
    rw [drop_step l j (by omega), List.drop_eq_nil_of_le (by omega)]; rfl
  | d + 1, j, h => by
    have e : wrap64 (((j + 1 : Nat) : Int) + 1) = ((j + 1 + 1 : Nat) : Int) := wup (j + 1) (by omega)
    have e2 : wrap64 (((j + 1 : Nat) : Int) - 1) = (j : Int) := by rw [w64 (by omega)]; omega
    refine Ev.step (fun k => by rw [laws_vUp.l0]) ?_
    simp only [e, e2, rd_nat]
    clear e e2
    rw [drop_step l j (by omega), drop_step l (j + 1) (by omega), upB, ← drop_step l (j + 1) (by omega)]
    refine Ev.pos (by omega) (Ev.pos (by omega) (Ev.pos (by omega) (Ev.pos (by omega) ?_)))
    have ih := vUp_l l r hl d (j + 1) (by omega)
    generalize decide (nth l (j + 1) > nth l j) = b
    cases b <;> cases r
    · exact Ev.neg (by decide) (ih.to (by simp))
    · exact Ev.pos (by decide) (Ev.val (by simp))
    · exact Ev.pos (by decide) (Ev.val (by simp))
    · exact Ev.neg (by decide) (ih.to (by simp))
theorem vUp_ev (l : List Int) (r : Bool) (hl : l.length ≤ 1000) : Ev (fun k => laws_vUp.f k l r) (upB r l) := by
  unfold laws_vUp.f
  cases l with
  | nil =>
    refine Ev.step (fun k => by rw [laws_vUp.l0]) ?_
    exact Ev.neg (by simp) (Ev.val rfl)
  | cons a t => exact vUp_l (a :: t) r hl t.length 0 (by simp; omega)
theorem rdQ_nat (xs : List (List Int)) (i : Nat) : rd_L5 xs (i : Int) = xs.getD i [] := rfl
theorem vLists_l (A : List (List Int)) (hn : A.length ≤ 100000) (hr : ∀ r ∈ A, r.length ≤ 1000) : ∀ d i : Nat, A.length = i + d → Ev (fun k => laws_vLists.l0 k A A (i : Int)) true
  | 0, i, h => by
    refine Ev.step (fun k => by rw [laws_vLists.l0]) ?_
    exact Ev.neg (by omega) (Ev.val rfl)
  | d + 1, i, h => by
    have hm := hr _ (getD_mem (xs := A) (i := i) (by omega))
    refine Ev.step (fun k => by rw [laws_vLists.l0]) ?_
    simp only [wup i (by omega), rdQ_nat]
    refine Ev.pos (by omega) (Ev.pos (by omega) (Ev.pos (by omega) ?_))
    refine Ev.bind (vInts_ev _ _ (by omega)) ?_
    exact Ev.pos (by simp) (vLists_l A hn hr d (i + 1) (by omega))
theorem vLists_ev (A : List (List Int)) (hn : A.length ≤ 100000) (hr : ∀ r ∈ A, r.length ≤ 1000) : Ev (fun k => laws_vLists.f k A A) true := by
  unfold laws_vLists.f
  exact Ev.pos rfl (vLists_l A hn hr A.length 0 (by omega))
def riM (r : Bool) (l : List Int) : List Int := (riG r [] l).foldl bst []
def loR (l : List Int) : List Int := loM (fun x => sortedB x (x.length - 1)) l l.length
def loF (l : List Int) : List Int := loM (fun x => sortedB x.reverse (x.reverse.length - 1)) l l.length
def qTot : List (List Int) → Nat
  | [] => 0
  | q :: qs => q.length + qTot qs
def qwOk (l : List Int) (n k : Nat) : Bool := !decide (n ≤ k) || qwB l (List.replicate k 0)
def fqOk (l : List Int) : Bool :=
  qOk l && (riM true l == loR l && (riM false l == loF l && (upB true (riM true l) && (upB false (riM false l) && ((riM false l).length == (qI l).length && ((qI l).all (upB true) && (qTot (qI l) == l.length
   && (isOrd l.reverse && ((riM false l.reverse).length == (riM true l).length && (decide (l.length ≤ (riM true l).length * (riM false l).length)
   && (qwOk l (qI l).length 1 && (qwOk l (qI l).length 2 && (qwOk l (qI l).length 3 && qwOk l (qI l).length 4)))))))))))))
end Go.Proofs.Ytidiondgfoolbaa.Pure
