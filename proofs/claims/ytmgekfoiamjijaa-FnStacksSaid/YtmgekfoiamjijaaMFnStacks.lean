/- The first sharing fits with the fewest stacks, greedy ones fit, and sharings are there where stacks are enough. -/
import Derived.Test.YtmgekfoiamjijaaPFnStacksx0
import Derived.Test.YtmgekfoiamjijaaPFnStacksx1
import Derived.Test.YtmgekfoiamjijaaPFnStacksx2
import Derived.Test.YtmgekfoiamjijaaPFnStacksx3
import Derived.Test.YtmgekfoiamjijaaPFnStacksx4
import Derived.Test.YtmgekfoiamjijaaPFnStacksx5
import Derived.Test.YtmgekfoiamjijaaPFnStacksx6
import Derived.Test.YtmgekfoiamjijaaPFnStacksx7
import Derived.Test.YtmgekfoiamjijaaPFnStacksx8
import Derived.Test.YtmgekfoiamjijaaPFnStacksx9
import Derived.Test.YtmgekfoiamjijaaPFnStacksx10
import Derived.Test.YtmgekfoiamjijaaPFnStacksx11
import Derived.Test.YtmgekfoiamjijaaPFnStacksx12
import Derived.Test.YtmgekfoiamjijaaPFnStacksx13
import Derived.Test.YtmgekfoiamjijaaPFnStacksx14
import Derived.Test.YtmgekfoiamjijaaPFnStacksx15
import Derived.WalkSmall
import Derived.Test.YtmgekfoiamjijaaK
set_option linter.unusedVariables false
set_option linter.unusedSimpArgs false
namespace Go.Proofs.Ytmgekfoiamjijaa.Pure
open Go.RowKit Go.Proofs.Ytmgekfoiamjijaa.PFnStacks Go.Proofs.YtmgekfoiamjijaaW.PrintWords Go.Proofs.YtmgekfoiamjijaaW.PrintLast Go.Proofs.YtmgekfoiamjijaaW.PrintMore
theorem vInts_l (a b : List Int) (hn : a.length ≤ 17592186044416) (hl : a.length = b.length) : ∀ (d i : Nat), a.length = i + d → Ev (fun k => laws_vInts.l0 k a b i) (decide (a.drop i = b.drop i))
  | 0, i, h => by
    refine Ev.step (fun k => by rw [laws_vInts.l0]) ?_
    refine Ev.neg (by omega) (Ev.val ?_)
    rw [List.drop_of_length_le (by omega), List.drop_of_length_le (by omega)]
    simp
  | d + 1, i, h => by
    refine Ev.step (fun k => by rw [laws_vInts.l0]) ?_
    refine Ev.pos (by omega) (Ev.pos (by omega) (Ev.pos (by omega) ?_))
    have e : wrap64 ((i : Int) + 1) = ((i + 1 : Nat) : Int) := by rw [w64 (by omega)]; omega
    simp only [e]
    rw [drop_step a i (by omega), drop_step b i (by omega)]
    refine Ev.ite (fun hc => ?_) (fun hc => Ev.val ?_)
    · have hc' : nth a i = nth b i := hc
      refine (vInts_l a b hn hl d (i + 1) (by omega)).to ?_
      rw [hc']
      simp
    · have hc' : ¬ nth a i = nth b i := hc
      simp [hc']
theorem vInts_ev (a b : List Int) (hn : a.length ≤ 17592186044416) : Ev (fun k => laws_vInts.f k a b) (decide (a = b)) := by
  unfold laws_vInts.f
  refine Ev.ite (fun hc => ?_) (fun hc => Ev.val ?_)
  · exact (vInts_l a b hn (by omega) a.length 0 (by omega)).to (by simp)
  · have : ¬ a = b := fun h => hc (by rw [h])
    simp [this]
theorem l1In_is (a b c : Int) : spec_l1In.f a b c = some (decide (b ≤ a ∧ a ≤ c)) := by
  unfold spec_l1In.f
  by_cases h : a ≥ b
  · rw [if_pos h]; simp [h]
  · rw [if_neg h]; simp; omega
theorem l1Has_l (l : List Int) (x : Int) (hn : l.length ≤ 17592186044416) : ∀ (d i : Nat), l.length = i + d → Ev (fun k => spec_l1Has.l0 k l x i) ((l.drop i).contains x)
  | 0, i, h => by
    refine Ev.step (fun k => by rw [spec_l1Has.l0]) ?_
    refine Ev.neg (by omega) (Ev.val ?_)
    rw [List.drop_of_length_le (by omega)]
    simp
  | d + 1, i, h => by
    refine Ev.step (fun k => by rw [spec_l1Has.l0]) ?_
    have e : wrap64 ((i : Int) + 1) = ((i + 1 : Nat) : Int) := by rw [w64 (by omega)]; omega
    simp only [e]
    rw [drop_step l i (by omega)]
    refine Ev.pos (by omega) (Ev.pos (by omega) (Ev.ite (fun hc => Ev.val ?_) (fun hc => ?_)))
    · have hc' : nth l i = x := hc
      rw [hc']; simp
    · have hc' : ¬ nth l i = x := hc
      refine (l1Has_l l x hn d (i + 1) (by omega)).to ?_
      have : ¬ x = nth l i := fun h => hc' h.symm
      rw [List.contains_cons]
      simp [this]
theorem l1Has_ev (l : List Int) (x : Int) (hn : l.length ≤ 17592186044416) : Ev (fun k => spec_l1Has.f k l x) (l.contains x) := by
  unfold spec_l1Has.f
  exact (l1Has_l l x hn l.length 0 (by omega)).to (by simp)
theorem l2Order_l (l : List Int) (hn : l.length ≤ 17592186044416) : ∀ (d i : Nat), l.length = i + d → Ev (fun k => spec_l2Order.l0 k l i) (allFrom (ordAt l) d i)
  | 0, i, h => by
    refine Ev.step (fun k => by rw [spec_l2Order.l0]) ?_
    exact Ev.neg (by omega) (Ev.val rfl)
  | d + 1, i, h => by
    refine Ev.step (fun k => by rw [spec_l2Order.l0]) ?_
    have e : wrap64 ((i : Int) + 1) = ((i + 1 : Nat) : Int) := by rw [w64 (by omega)]; omega
    simp only [e, l1In_is, Option.bind_some, rd_nat, Int.toNat_natCast, decide_eq_true_eq]
    refine Ev.pos (by omega) (Ev.pos (by omega) (Ev.ite (fun hc => Ev.pos (by omega) ?_) (fun hc => Ev.val ?_)))
    · refine Ev.bind (l1Has_ev _ _ (by simp; omega)) ?_
      refine Ev.ite (fun hb => Ev.val ?_) (fun hb => (l2Order_l l hn d (i + 1) (by omega)).to ?_)
      · rw [allFrom, ordAt, hb]; simp
      · rw [Bool.not_eq_true] at hb
        rw [allFrom, ordAt, hb]; simp [hc]
    · rw [allFrom, ordAt]
      by_cases h1 : 1 ≤ nth l i
      · have : ¬ nth l i ≤ l.length := fun h2 => hc ⟨h1, h2⟩
        simp [this]
      · simp [h1]
theorem l2Order_ev (l : List Int) (hn : l.length ≤ 17592186044416) : Ev (fun k => spec_l2Order.f k l) (isOrd l) := by
  unfold spec_l2Order.f
  simp only [l1In_is, Option.bind_some, decide_eq_true_eq]
  refine Ev.ite (fun hc => (l2Order_l l hn l.length 0 (by omega)).to ?_) (fun hc => Ev.val ?_)
  · have h1 : 1 ≤ l.length := by omega
    have h2 : l.length ≤ 7 := by omega
    simp [isOrd, h1, h2]
  · rw [isOrd]
    by_cases h1 : 1 ≤ l.length
    · have : ¬ l.length ≤ 7 := by omega
      simp [this]
    · simp [h1]
theorem Index_l (l : List Int) (x : Int) (hn : l.length ≤ 17592186044416) : ∀ (d i : Nat), l.length = i + d → (∀ j, j < i → nth l j ≠ x) → Ev (fun k => slices_Index_int_int.l0 k l x (l.length : Int) i) (idx l x)
  | 0, i, h, hq => by
    refine Ev.step (fun k => by rw [slices_Index_int_int.l0]) ?_
    refine Ev.neg (by omega) (Ev.val ?_)
    exact (idx_none l x fun j hj => hq j (by omega)).symm
  | d + 1, i, h, hq => by
    refine Ev.step (fun k => by rw [slices_Index_int_int.l0]) ?_
    have e : wrap64 ((i : Int) + 1) = ((i + 1 : Nat) : Int) := by rw [w64 (by omega)]; omega
    simp only [e]
    refine Ev.pos (by omega) (Ev.pos (by omega) (Ev.pos (by omega) (Ev.ite (fun hc => Ev.val ?_) (fun hc => ?_))))
    · exact (idx_some l x i (by omega) (by rw [hc]; rfl) hq).symm
    · refine Index_l l x hn d (i + 1) (by omega) (fun j hj => ?_)
      by_cases e : j = i
      · subst e; exact fun h => hc h.symm
      · exact hq j (by omega)
theorem Index_ev (l : List Int) (x : Int) (hn : l.length ≤ 17592186044416) : Ev (fun k => slices_Index_int_int.f k l x) (idx l x) := by
  unfold slices_Index_int_int.f
  exact Index_l l x hn l.length 0 (by omega) (fun j hj => by omega)
theorem Contains_ev (l : List Int) (x : Int) (hn : l.length ≤ 17592186044416) : Ev (fun k => slices_Contains_int_int.f k l x) (l.contains x) := by
  unfold slices_Contains_int_int.f
  exact Ev.bind (Index_ev l x hn) (Ev.val (idx_contains l x))
theorem isOrder_l (l : List Int) (hn : l.length ≤ 17592186044416) : ∀ (d i : Nat), l.length = i + d → Ev (fun k => impl_isOrder.l0 k l l (l.length : Int) i) (allFrom (ordAt l) d i)
  | 0, i, h => by
    refine Ev.step (fun k => by rw [impl_isOrder.l0]) ?_
    exact Ev.neg (by omega) (Ev.val rfl)
  | d + 1, i, h => by
    refine Ev.step (fun k => by rw [impl_isOrder.l0]) ?_
    have e : wrap64 ((i : Int) + 1) = ((i + 1 : Nat) : Int) := by rw [w64 (by omega)]; omega
    simp only [e, rd_nat, Int.toNat_natCast]
    refine Ev.pos (by omega) (Ev.pos (by omega) (Ev.pos (by omega) (Ev.ite (fun hc => Ev.val ?_) (fun hc => Ev.ite (fun hd => Ev.val ?_) (fun hd => Ev.pos (by omega) ?_)))))
    · have : ¬ 1 ≤ nth l i := by omega
      rw [allFrom, ordAt]; simp [this]
    · have : ¬ nth l i ≤ l.length := by omega
      rw [allFrom, ordAt]; simp [this]
    · refine Ev.bind (Contains_ev _ _ (by simp; omega)) ?_
      refine Ev.ite (fun hb => Ev.val ?_) (fun hb => (isOrder_l l hn d (i + 1) (by omega)).to ?_)
      · rw [allFrom, ordAt, hb]; simp
      · rw [Bool.not_eq_true] at hb
        have h1 : 1 ≤ nth l i := by omega
        have h2 : nth l i ≤ l.length := by omega
        rw [allFrom, ordAt, hb]; simp [h1, h2]
theorem isOrder_ev (l : List Int) (hn : l.length ≤ 17592186044416) : Ev (fun k => impl_isOrder.f k l) (isOrd l) := by
  unfold impl_isOrder.f
  refine Ev.ite (fun hc => ?_) (fun hc => ?_)
  · refine Ev.step (fun k => by rw [impl_isOrder.j0]) ?_
    refine Ev.pos rfl (Ev.val ?_)
    have : ¬ 1 ≤ l.length := by omega
    simp [isOrd, this]
  · refine Ev.step (fun k => by rw [impl_isOrder.j0]) ?_
    simp only [decide_eq_true_eq]
    refine Ev.ite (fun hd => Ev.val ?_) (fun hd => (isOrder_l l hn l.length 0 (by omega)).to ?_)
    · have : ¬ l.length ≤ 7 := by omega
      simp [isOrd, this]
    · have h1 : 1 ≤ l.length := by omega
      have h2 : l.length ≤ 7 := by omega
      simp [isOrd, h1, h2]
theorem isSize_is (a : Int) : impl_isSize.f a = some (decide (1 ≤ a ∧ a ≤ 7)) := by
  unfold impl_isSize.f
  by_cases h : a ≥ 1
  · rw [if_pos h]; simp [h]
  · rw [if_neg h]; simp; omega
theorem IndexFunc_l (of_ : Nat → Int → Option Bool) (p : Int → Bool) (l : List Int) (hn : l.length ≤ 17592186044416) (hof : ∀ k x, x ∈ l → of_ k x = some (p x)) : ∀ (d i : Nat), l.length = i + d → Ev (fun k => slices_IndexFunc_int_int.l0 of_ k l (l.length : Int) i) (if idxF p (l.drop i) < 0 then -1 else idxF p (l.drop i) + i)
  | 0, i, h => by
    refine Ev.step (fun k => by rw [slices_IndexFunc_int_int.l0]) ?_
    refine Ev.neg (by omega) (Ev.val ?_)
    rw [List.drop_of_length_le (by omega)]; rfl
  | d + 1, i, h => by
    refine Ev.step (fun k => by rw [slices_IndexFunc_int_int.l0]) ?_
    have e : wrap64 ((i : Int) + 1) = ((i + 1 : Nat) : Int) := by rw [w64 (by omega)]; omega
    have hm : nth l i ∈ l := by rw [nth_lt l i (by omega)]; exact List.getElem_mem _
    have hq : ∀ k, of_ k (nth l i) = some (p (nth l i)) := fun k => hof k _ hm
    simp only [e, rd_nat, hq, Option.bind_some]
    rw [drop_step l i (by omega)]
    have hg := idxF_ge p (l.drop (i + 1))
    refine Ev.pos (by omega) (Ev.pos (by omega) (Ev.pos (by omega) (Ev.ite (fun hc => Ev.val ?_) (fun hc => ?_))))
    · simp [idxF, hc]
    · refine (IndexFunc_l of_ p l hn hof d (i + 1) (by omega)).to ?_
      simp only [idxF, if_neg hc]
      split
      · simp
      · rw [if_neg (by omega)]; omega
theorem ContainsFunc_ev (of_ : Nat → Int → Option Bool) (p : Int → Bool) (l : List Int) (s : ByteArray) (hn : l.length ≤ 17592186044416) (hof : ∀ k x, x ∈ l → of_ k x = some (p x)) : Ev (fun k => slices_ContainsFunc_int_int.f of_ k l s) (l.any p) := by
  unfold slices_ContainsFunc_int_int.f slices_IndexFunc_int_int.f
  refine Ev.bind (IndexFunc_l of_ p l hn hof l.length 0 (by omega)) (Ev.val ?_)
  rw [← idxF_any p l, List.drop_zero]
  have hg := idxF_ge p l
  by_cases h : idxF p l < 0
  · have : ¬ 0 ≤ idxF p l := by omega
    simp [h, this]
  · have h1 : 0 ≤ idxF p l := by omega
    simp [h, h1]
def allO (ns : List Int) (p : List Int → Bool) : Nat → List Int → Bool
  | 0, q => p q
  | d + 1, q => ns.all fun c => q.contains c || allO ns p d (c :: q)
theorem isOrd_drop {l : List Int} (h : isOrd l = true) (i : Nat) (hi : i < l.length) : nth l i ∉ l.drop (i + 1) := by
  intro hm
  obtain ⟨j, hj, e⟩ := List.mem_iff_getElem.1 hm
  rw [List.getElem_drop] at e
  simp only [List.length_drop] at hj
  refine (isOrd_at h (i + 1 + j) (by omega)).2.2 ?_
  rw [nth_lt l (i + 1 + j) (by omega), e, nth_lt l i hi, List.mem_take_iff_getElem]
  exact ⟨i, by omega, rfl⟩
theorem allO_mem {l : List Int} (h : isOrd l = true) (ns : List Int) (hns : ∀ x : Int, 1 ≤ x → x ≤ l.length → x ∈ ns) (p : List Int → Bool) : ∀ i, i ≤ l.length → allO ns p i (l.drop i) = true → p l = true
  | 0, _, hp => by simpa [allO] using hp
  | i + 1, hi, hp => by
    rw [allO, List.all_eq_true] at hp
    have ha := isOrd_at h i (by omega)
    have h1 := hp (nth l i) (hns _ ha.1 ha.2.1)
    have h2 : (l.drop (i + 1)).contains (nth l i) = false := by
      have := isOrd_drop h i (by omega)
      simpa using this
    rw [h2, Bool.false_or, ← drop_step l i (by omega)] at h1
    exact allO_mem h ns hns p i (by omega) h1
def intsTo (n : Nat) : List Int := ([1, 2, 3, 4, 5, 6, 7] : List Int).take n
theorem intsTo_mem : ∀ n : Nat, n ≤ 7 → ∀ x : Int, 1 ≤ x → x ≤ n → x ∈ intsTo n := by
  intro n hn x h1 h2
  have hx : x = 1 ∨ x = 2 ∨ x = 3 ∨ x = 4 ∨ x = 5 ∨ x = 6 ∨ x = 7 := by omega
  have hn' : n = 0 ∨ n = 1 ∨ n = 2 ∨ n = 3 ∨ n = 4 ∨ n = 5 ∨ n = 6 ∨ n = 7 := by omega
  rcases hn' with rfl | rfl | rfl | rfl | rfl | rfl | rfl | rfl <;> rcases hx with rfl | rfl | rfl | rfl | rfl | rfl | rfl <;> first | (exfalso; omega) | simp [intsTo]
theorem orders_all {l : List Int} (h : isOrd l = true) (p : List Int → Bool) (hp : ∀ n ∈ [1, 2, 3, 4, 5, 6, 7], allO (intsTo n) p n [] = true) : p l = true := by
  have hl := isOrd_len h
  have hm : l.length ∈ [1, 2, 3, 4, 5, 6, 7] := by
    have : l.length = 1 ∨ l.length = 2 ∨ l.length = 3 ∨ l.length = 4 ∨ l.length = 5 ∨ l.length = 6 ∨ l.length = 7 := by omega
    simp [this]
  refine allO_mem h (intsTo l.length) (fun x h1 h2 => intsTo_mem l.length hl.2 x h1 h2) p l.length (Nat.le_refl _) ?_
  rw [List.drop_length]
  exact hp _ hm
def facN (n : Nat) : Nat := [1, 1, 2, 6, 24, 120, 720, 5040].getD n 1
theorem facN_pos (n : Nat) : 0 < facN n := by
  rcases Nat.lt_or_ge n 8 with h | h
  · have : n = 0 ∨ n = 1 ∨ n = 2 ∨ n = 3 ∨ n = 4 ∨ n = 5 ∨ n = 6 ∨ n = 7 := by omega
    rcases this with rfl | rfl | rfl | rfl | rfl | rfl | rfl | rfl <;> decide
  · unfold facN
    rw [List.getD_eq_getElem?_getD, List.getElem?_eq_none (by simpa using h)]
    decide
theorem facN_le (n : Nat) : facN n ≤ 5040 := by
  rcases Nat.lt_or_ge n 8 with h | h
  · have : n = 0 ∨ n = 1 ∨ n = 2 ∨ n = 3 ∨ n = 4 ∨ n = 5 ∨ n = 6 ∨ n = 7 := by omega
    rcases this with rfl | rfl | rfl | rfl | rfl | rfl | rfl | rfl <;> decide
  · unfold facN
    rw [List.getD_eq_getElem?_getD, List.getElem?_eq_none (by simpa using h)]
    decide
theorem facN_succ (n : Nat) (h : n ≤ 6) : facN (n + 1) = (n + 1) * facN n := by
  have : n = 0 ∨ n = 1 ∨ n = 2 ∨ n = 3 ∨ n = 4 ∨ n = 5 ∨ n = 6 := by omega
  rcases this with rfl | rfl | rfl | rfl | rfl | rfl | rfl <;> decide
def atM : Nat → List Int → Nat → List Int
  | 0, _, _ => []
  | d + 1, left, k => nth left (k / facN d) :: atM d (left.take (k / facN d) ++ left.drop (k / facN d + 1)) (k % facN d)
theorem atM_length : ∀ (d : Nat) (left : List Int) (k : Nat), (atM d left k).length = d
  | 0, _, _ => rfl
  | d + 1, left, k => by rw [atM, List.length_cons, atM_length d]
def ordsM (n : Nat) : List (List Int) := (List.range (facN n)).map fun k => atM n (marked 1 n) k
theorem ordsM_length (n : Nat) : (ordsM n).length = facN n := by simp [ordsM]
theorem ordsM_len (n : Nat) (l : List Int) (h : l ∈ ordsM n) : l.length = n := by
  obtain ⟨k, _, rfl⟩ := List.mem_map.1 h
  exact atM_length n _ k
theorem tdiv_nat (a b : Nat) : Int.tdiv (a : Int) (b : Int) = ((a / b : Nat) : Int) := (Int.ofNat_tdiv a b).symm
theorem tmod_nat (a b : Nat) : Int.tmod (a : Int) (b : Int) = ((a % b : Nat) : Int) := (Int.ofNat_tmod a b).symm
theorem div_lt_of (d k : Nat) (hd : d ≤ 6) (h : k < facN (d + 1)) : k / facN d < d + 1 := by
  rw [Nat.div_lt_iff_lt_mul (facN_pos d), ← facN_succ d hd]
  exact h
theorem l1Own_is (l : List Int) (h : l.length < 17592186044416) : spec_l1Own.f l = some l := by
  unfold spec_l1Own.f
  simp [h]
theorem l2Sorted_l (n : Nat) (hn : n ≤ 1000) : ∀ d i : Nat, n = i + d → Ev (fun k => spec_l2Sorted.l0 k n (marked 1 i) ((i : Int) + 1)) (marked 1 n)
  | 0, i, h => by
    refine Ev.step (fun k => by rw [spec_l2Sorted.l0]) (Ev.neg (by omega) (Ev.val ?_))
    rw [h, Nat.add_zero]
  | d + 1, i, h => by
    refine Ev.step (fun k => by rw [spec_l2Sorted.l0]) ?_
    have e : wrap64 ((i : Int) + 1 + 1) = ((i + 1 : Nat) : Int) + 1 := by rw [w64 (by omega)]; omega
    have e2 : marked 1 i ++ [(i : Int) + 1] = marked 1 (i + 1) := by rw [marked_snoc]; congr 2; omega
    simp only [e, e2]
    exact Ev.pos (by omega) (Ev.pos (by rw [marked_length]; omega) (l2Sorted_l n hn d (i + 1) (by omega)))
theorem l2Sorted_ev (n : Nat) (hn : n ≤ 1000) : Ev (fun k => spec_l2Sorted.f k n) (marked 1 n) := l2Sorted_l n hn n 0 (by omega)
theorem sorted_l (n : Nat) (hn : n ≤ 1000) : ∀ d i : Nat, n = i + d → Ev (fun k => impl_sorted.l0 k (marked 1 i) n i) (marked 1 n)
  | 0, i, h => by
    refine Ev.step (fun k => by rw [impl_sorted.l0]) (Ev.neg (by omega) (Ev.val ?_))
    rw [h, Nat.add_zero]
  | d + 1, i, h => by
    refine Ev.step (fun k => by rw [impl_sorted.l0]) ?_
    have e : wrap64 ((i : Int) + 1) = ((i + 1 : Nat) : Int) := by rw [w64 (by omega)]; omega
    have e2 : marked 1 i ++ [((i + 1 : Nat) : Int)] = marked 1 (i + 1) := by rw [marked_snoc]; congr 2; omega
    simp only [e, e2]
    exact Ev.pos (by omega) (Ev.pos (by rw [marked_length]; omega) (sorted_l n hn d (i + 1) (by omega)))
theorem sorted_ev (n : Nat) (hn : n ≤ 1000) : Ev (fun k => impl_sorted.f k n) (marked 1 n) := sorted_l n hn n 0 (by omega)
theorem l2Ways_ev (n : Nat) (h : n ≤ 7) : Ev (fun k => spec_l2Ways.f k (n : Int)) (facN n : Int) := by
  have : n = 0 ∨ n = 1 ∨ n = 2 ∨ n = 3 ∨ n = 4 ∨ n = 5 ∨ n = 6 ∨ n = 7 := by omega
  rcases this with rfl | rfl | rfl | rfl | rfl | rfl | rfl | rfl <;> exact Ev.of (fun k => spec_l2Ways.mono _ k) (k := 10) (by decide +kernel)
theorem l2At_l : ∀ (d : Nat) (left acc : List Int) (k : Nat), left.length = d → d ≤ 7 → acc.length + d ≤ 100 → k < facN d → Ev (fun q => spec_l2At.l0 q (k : Int) acc left) (acc ++ atM d left k)
  | 0, left, acc, k, hl, hd, ha, hk => by
    refine Ev.step (fun q => by rw [spec_l2At.l0]) (Ev.neg (by omega) (Ev.val ?_))
    rw [atM, List.append_nil]
  | d + 1, left, acc, k, hl, hd, ha, hk => by
    refine Ev.step (fun q => by rw [spec_l2At.l0]) (Ev.pos (by omega) ?_)
    have e1 : wrap64 ((left.length : Int) - 1) = (d : Int) := by rw [w64 (by omega)]; omega
    rw [e1]
    clear e1
    refine Ev.bind (l2Ways_ev d (by omega)) (Ev.neg (by have := facN_pos d; omega) ?_)
    have hq := div_lt_of d k (by omega) hk
    have h5 := facN_le (d + 1)
    have e2 : wrap64 (Int.tdiv (k : Int) (facN d : Int)) = ((k / facN d : Nat) : Int) := by rw [tdiv_nat]; exact w64n _ (by have := Nat.div_le_self k (facN d); omega)
    have hmod := Nat.mod_lt k (facN_pos d)
    simp only [e2, tmod_nat]
    rw [atM]
    clear e2 hk
    generalize k / facN d = qq at hq ⊢
    generalize k % facN d = k2 at hmod ⊢
    have e3 : wrap64 ((qq : Int) + 1) = ((qq + 1 : Nat) : Int) := by rw [w64 (by omega)]; omega
    simp only [e3, Int.toNat_natCast, rd_nat]
    clear e3
    refine Ev.pos (by omega) (Ev.pos (by omega) (Ev.pos (by omega) (Ev.pos (by omega) ?_)))
    have h1 : (left.take qq).length < 17592186044416 := by rw [List.length_take]; omega
    simp only [l1Own_is _ h1, Option.bind_some]
    refine Ev.pos (by omega) (Ev.pos (by omega) (Ev.pos (by rw [List.length_take, List.length_drop]; omega) ?_))
    refine Ev.to (l2At_l d _ _ k2 (by rw [List.length_append, List.length_take, List.length_drop]; omega) (by omega) (by rw [List.length_append, List.length_singleton]; omega) hmod) ?_
    rw [List.append_assoc]; rfl
theorem l2At_ev (n k : Nat) (hn : n ≤ 7) (hk : k < facN n) : Ev (fun q => spec_l2At.f q (n : Int) (k : Int)) (atM n (marked 1 n) k) := by
  unfold spec_l2At.f
  exact Ev.bind (l2Sorted_ev n (by omega)) (Ev.to (l2At_l n _ [] k (marked_length n 1) hn (by simp; omega) hk) (List.nil_append _))
theorem l2Orders_l (n : Nat) (hn : n ≤ 7) : ∀ (d i : Nat), facN n = i + d → Ev (fun q => spec_l2Orders.l0 q (n : Int) ((List.range i).map fun k => atM n (marked 1 n) k) (i : Int)) (ordsM n)
  | 0, i, h => by
    refine Ev.step (fun q => by rw [spec_l2Orders.l0]) ?_
    refine Ev.bind (l2Ways_ev n hn) ?_
    refine Ev.neg (by omega) (Ev.val ?_)
    rw [ordsM, h, Nat.add_zero]
  | d + 1, i, h => by
    have h5 := facN_le n
    refine Ev.step (fun q => by rw [spec_l2Orders.l0]) ?_
    refine Ev.bind (l2Ways_ev n hn) ?_
    refine Ev.pos (by omega) ?_
    refine Ev.bind (l2At_ev n i hn (by omega)) ?_
    refine Ev.pos (by rw [List.length_map, List.length_range]; omega) ?_
    have e : wrap64 ((i : Int) + 1) = ((i + 1 : Nat) : Int) := by rw [w64 (by omega)]; omega
    have e2 : ((List.range i).map fun k => atM n (marked 1 n) k) ++ [atM n (marked 1 n) i] = (List.range (i + 1)).map fun k => atM n (marked 1 n) k := by rw [List.range_succ, List.map_append]; rfl
    simp only [e, e2]
    exact l2Orders_l n hn d (i + 1) (by omega)
theorem l2Orders_ev (n : Nat) (hn : n ≤ 7) : Ev (fun q => spec_l2Orders.f q (n : Int)) (ordsM n) := by
  unfold spec_l2Orders.f
  exact l2Orders_l n hn (facN n) 0 (by omega)
theorem factorial_ev (n : Nat) (h : n ≤ 7) : Ev (fun k => impl_factorial.f k (n : Int)) (facN n : Int) := by
  have : n = 0 ∨ n = 1 ∨ n = 2 ∨ n = 3 ∨ n = 4 ∨ n = 5 ∨ n = 6 ∨ n = 7 := by omega
  rcases this with rfl | rfl | rfl | rfl | rfl | rfl | rfl | rfl <;> exact Ev.of (fun k => impl_factorial.mono _ k) (k := 10) (by decide +kernel)
theorem orderAt_l : ∀ (d : Nat) (left acc : List Int) (k : Nat), left.length = d → d ≤ 7 → acc.length + d ≤ 100 → k < facN d → Ev (fun q => impl_orderAt.l0 q (k : Int) left acc) (acc ++ atM d left k)
  | 0, left, acc, k, hl, hd, ha, hk => by
    refine Ev.step (fun q => by rw [impl_orderAt.l0]) (Ev.neg (by omega) (Ev.val ?_))
    rw [atM, List.append_nil]
  | d + 1, left, acc, k, hl, hd, ha, hk => by
    refine Ev.step (fun q => by rw [impl_orderAt.l0]) (Ev.pos (by omega) ?_)
    have e1 : wrap64 ((left.length : Int) - 1) = (d : Int) := by rw [w64 (by omega)]; omega
    rw [e1]
    clear e1
    refine Ev.bind (factorial_ev d (by omega)) (Ev.neg (by have := facN_pos d; omega) ?_)
    have hq := div_lt_of d k (by omega) hk
    have h5 := facN_le (d + 1)
    have e2 : wrap64 (Int.tdiv (k : Int) (facN d : Int)) = ((k / facN d : Nat) : Int) := by rw [tdiv_nat]; exact w64n _ (by have := Nat.div_le_self k (facN d); omega)
    have hmod := Nat.mod_lt k (facN_pos d)
    simp only [e2, tmod_nat]
    rw [atM]
    clear e2 hk
    generalize k / facN d = qq at hq ⊢
    generalize k % facN d = k2 at hmod ⊢
    have e3 : wrap64 ((qq : Int) + 1) = ((qq + 1 : Nat) : Int) := by rw [w64 (by omega)]; omega
    simp only [e3, rd_nat]
    clear e3
    have hdel : slices_Delete_int_int.f left (qq : Int) ((qq + 1 : Nat) : Int) = some (left.take qq ++ left.drop (qq + 1)) := by
      unfold slices_Delete_int_int.f
      rw [if_pos (by omega), Int.toNat_natCast, Int.toNat_natCast]
    refine Ev.pos (by omega) (Ev.pos (by omega) (Ev.pos (by omega) ?_))
    simp only [hdel, Option.bind_some]
    refine Ev.to (orderAt_l d _ _ k2 (by rw [List.length_append, List.length_take, List.length_drop]; omega) (by omega) (by rw [List.length_append, List.length_singleton]; omega) hmod) ?_
    rw [List.append_assoc]; rfl
theorem orderAt_ev (n k : Nat) (hn : n ≤ 7) (hk : k < facN n) : Ev (fun q => impl_orderAt.f q (n : Int) (k : Int)) (atM n (marked 1 n) k) := by
  unfold impl_orderAt.f
  exact Ev.bind (sorted_ev n (by omega)) (Ev.to (orderAt_l n _ [] k (marked_length n 1) hn (by simp; omega) hk) (List.nil_append _))
theorem allOrders_l (n : Nat) (hn : n ≤ 7) : ∀ (d i : Nat), facN n = i + d → Ev (fun q => impl_allOrders.l0 q (n : Int) ((List.range i).map fun k => atM n (marked 1 n) k) (facN n : Int) (i : Int)) (ordsM n)
  | 0, i, h => by
    refine Ev.step (fun q => by rw [impl_allOrders.l0]) (Ev.neg (by omega) (Ev.val ?_))
    rw [ordsM, h, Nat.add_zero]
  | d + 1, i, h => by
    have h5 := facN_le n
    refine Ev.step (fun q => by rw [impl_allOrders.l0]) ?_
    refine Ev.pos (by omega) ?_
    refine Ev.bind (orderAt_ev n i hn (by omega)) ?_
    refine Ev.pos (by rw [List.length_map, List.length_range]; omega) ?_
    have e : wrap64 ((i : Int) + 1) = ((i + 1 : Nat) : Int) := by rw [w64 (by omega)]; omega
    have e2 : ((List.range i).map fun k => atM n (marked 1 n) k) ++ [atM n (marked 1 n) i] = (List.range (i + 1)).map fun k => atM n (marked 1 n) k := by rw [List.range_succ, List.map_append]; rfl
    simp only [e, e2]
    exact allOrders_l n hn d (i + 1) (by omega)
theorem allOrders_ev (n : Nat) (hn : n ≤ 7) : Ev (fun q => impl_allOrders.f q (n : Int)) (ordsM n) := by
  unfold impl_allOrders.f
  exact Ev.bind (factorial_ev n hn) (allOrders_l n hn (facN n) 0 (by omega))
theorem isOrd_of {l : List Int} (h1 : 1 ≤ l.length) (h2 : l.length ≤ 7) (hd : l.Nodup) (hm : ∀ x ∈ l, 1 ≤ x ∧ x ≤ l.length) : isOrd l = true := by
  simp only [isOrd, Bool.and_eq_true, decide_eq_true_eq]
  refine ⟨h1, h2, (allFrom_iff _ _ _).2 fun j _ hj => ?_⟩
  have hj' : j < l.length := by omega
  have := hm (nth l j) (by rw [nth_lt _ _ hj']; exact List.getElem_mem hj')
  have hn : nth l j ∉ l.take j := by
    intro hc
    obtain ⟨i, hi, e⟩ := List.mem_take_iff_getElem.1 hc
    rw [nth_lt _ _ hj'] at e
    have := (List.getElem_inj hd).1 e
    omega
  simp [ordAt, this.1, this.2, hn]
theorem atM_mem : ∀ (d : Nat) (left : List Int) (k : Nat), left.length = d → d ≤ 7 → k < facN d → (∀ x ∈ atM d left k, x ∈ left) ∧ (left.Nodup → (atM d left k).Nodup)
  | 0, left, k, _, _, _ => ⟨fun x hx => by simp [atM] at hx, fun _ => by simp [atM]⟩
  | d + 1, left, k, hl, hd, hk => by
    have hq := div_lt_of d k (by omega) hk
    have hmod := Nat.mod_lt k (facN_pos d)
    rw [atM]
    generalize k / facN d = q at hq ⊢
    have ih := atM_mem d (left.take q ++ left.drop (q + 1)) (k % facN d) (by rw [List.length_append, List.length_take, List.length_drop]; omega) (by omega) hmod
    have hsub : ∀ x ∈ left.take q ++ left.drop (q + 1), x ∈ left := fun x hx => by
      rcases List.mem_append.1 hx with hx | hx
      · exact List.mem_of_mem_take hx
      · exact List.mem_of_mem_drop hx
    refine ⟨fun x hx => ?_, fun hn => ?_⟩
    · rcases List.mem_cons.1 hx with rfl | hx
      · rw [nth_lt _ _ (by omega)]; exact List.getElem_mem _
      · exact hsub x (ih.1 x hx)
    · have e : left = left.take q ++ nth left q :: left.drop (q + 1) := by
        rw [← drop_step left q (by omega), List.take_append_drop]
      have hn2 := hn
      rw [e, List.nodup_append] at hn2
      obtain ⟨n1, n2, n3⟩ := hn2
      rw [List.nodup_cons] at n2 ⊢
      refine ⟨fun hc => ?_, ih.2 ?_⟩
      · rcases List.mem_append.1 (ih.1 _ hc) with hc | hc
        · exact n3 _ hc _ (by simp) rfl
        · exact n2.1 hc
      · rw [List.nodup_append]
        exact ⟨n1, n2.2, fun a ha b hb => n3 a ha b (by simp [hb])⟩
theorem marked_mem (n : Nat) : ∀ (a x : Int), x ∈ marked a n → a ≤ x ∧ x < a + n := by
  induction n with
  | zero => intro a x h; simp [marked] at h
  | succ n ih =>
    intro a x h
    rw [marked, List.mem_cons] at h
    rcases h with rfl | h
    · omega
    · have := ih (a + 1) x h; omega
theorem marked_nodup (n : Nat) : ∀ (a : Int), (marked a n).Nodup := by
  induction n with
  | zero => intro a; simp [marked]
  | succ n ih =>
    intro a
    rw [marked, List.nodup_cons]
    exact ⟨fun h => by have := marked_mem n _ _ h; omega, ih _⟩
theorem ordsM_ord (n : Nat) (h1 : 1 ≤ n) (h2 : n ≤ 7) (l : List Int) (h : l ∈ ordsM n) : isOrd l = true := by
  obtain ⟨k, hk, rfl⟩ := List.mem_map.1 h
  have hk := List.mem_range.1 hk
  have hm := atM_mem n (marked 1 n) k (marked_length n 1) h2 hk
  have hl := atM_length n (marked 1 n) k
  refine isOrd_of (by omega) (by omega) (hm.2 (marked_nodup n 1)) fun x hx => ?_
  have := marked_mem n 1 x (hm.1 x hx)
  rw [hl]
  omega
def badStack (x : Int) : Bool := decide (x < 0) || decide (4 ≤ x)
def isShar (l0 l1 : List Int) : Bool := isOrd l0 && (decide (l1.length = l0.length) && !l1.any badStack)
theorem isSharing_1_is (x : Int) : impl_isSharing_1.f x = some (badStack x) := by
  unfold impl_isSharing_1.f badStack
  by_cases h : x < 0
  · rw [if_pos h]; simp [h]
  · rw [if_neg h]; simp [h]
theorem implIsSharing_ev (l0 l1 : List Int) (hn0 : l0.length ≤ 17592186044415) (hn1 : l1.length ≤ 17592186044415) : Ev (fun k => impl_isSharing.f k l0 l1) (isShar l0 l1) := by
  unfold impl_isSharing.f
  refine Ev.bind (isOrder_ev l0 (by omega)) (Ev.ite (fun hc => Ev.ite (fun hd => ?_) (fun hd => Ev.val ?_)) (fun hc => Ev.val ?_))
  · refine Ev.bind (ContainsFunc_ev _ badStack l1 _ (by omega) (fun k x _ => isSharing_1_is x)) (Ev.val ?_)
    have : l1.length = l0.length := by omega
    simp [isShar, hc, this]
  · have : ¬ l1.length = l0.length := by omega
    simp [isShar, this]
  · rw [Bool.not_eq_true] at hc
    simp [isShar, hc]
theorem isOrd_ne2 {l : List Int} (h : isOrd l = true) (i j : Nat) (h0 : i < j) (hi : j < l.length) : nth l i ≠ nth l j := by
  intro e
  refine (isOrd_at h j hi).2.2 ?_
  rw [← e, nth_lt l i (by omega), List.mem_take_iff_getElem]
  exact ⟨i, by omega, rfl⟩
def lessThan (n x : Int) : Bool := decide (x < n)
def conf (l : List Int) (i j : Nat) : Bool := decide (nth l i < nth l j) && (l.drop (j + 1)).any (lessThan (nth l i))
theorem l7Conflict_l (l : List Int) (hn : l.length ≤ 1000) (i : Nat) (hi : i < l.length) : ∀ (d j : Nat), l.length = j + d → Ev (fun k => spec_l7Conflict.l0 k l i j) ((l.drop j).any (lessThan (nth l i)))
  | 0, j, h => by
    refine Ev.step (fun k => by rw [spec_l7Conflict.l0]) ?_
    refine Ev.neg (by omega) (Ev.val ?_)
    rw [List.drop_of_length_le (by omega)]; rfl
  | d + 1, j, h => by
    refine Ev.step (fun k => by rw [spec_l7Conflict.l0]) ?_
    have e : wrap64 ((j : Int) + 1) = ((j + 1 : Nat) : Int) := by rw [w64 (by omega)]; omega
    simp only [e, rd_nat]
    rw [drop_step l j (by omega), List.any_cons]
    refine Ev.pos (by omega) (Ev.pos (by omega) (Ev.pos (by omega) (Ev.pos (by omega) (Ev.ite (fun hc => Ev.val ?_) (fun hc => ?_)))))
    · simp [lessThan, hc]
    · have hb : lessThan (nth l i) (nth l j) = false := by simp [lessThan]; omega
      rw [hb, Bool.false_or]
      exact l7Conflict_l l hn i hi d (j + 1) (by omega)
theorem specConflict_ev (l : List Int) (ho : isOrd l = true) (i j : Nat) (hij : i < j) (hj : j < l.length) : Ev (fun k => spec_l7Conflict.f k l i j) (conf l i j) := by
  have hl := isOrd_len ho
  have hne := isOrd_ne2 ho i j hij hj
  unfold spec_l7Conflict.f
  have e : wrap64 ((j : Int) + 1) = ((j + 1 : Nat) : Int) := by rw [w64 (by omega)]; omega
  simp only [e, rd_nat]
  refine Ev.pos (by omega) (Ev.pos (by omega) (Ev.pos (by omega) (Ev.pos (by omega) (Ev.ite (fun hc => Ev.val ?_) (fun hc => ?_)))))
  · have : ¬ nth l i < nth l j := by omega
    simp [conf, this]
  · have h1 : nth l i < nth l j := by omega
    refine (l7Conflict_l l (by omega) i (by omega) (l.length - (j + 1)) (j + 1) (by omega)).to ?_
    simp [conf, h1]
theorem implConflict_ev (l : List Int) (ho : isOrd l = true) (i j : Nat) (hij : i < j) (hj : j < l.length) : Ev (fun k => impl_isConflict.f k l i j) (conf l i j) := by
  have hl := isOrd_len ho
  unfold impl_isConflict.f
  have e : wrap64 ((j : Int) + 1) = ((j + 1 : Nat) : Int) := by rw [w64 (by omega)]; omega
  simp only [e, rd_nat, Int.toNat_natCast]
  refine Ev.pos (by omega) (Ev.pos (by omega) (Ev.pos (by omega) (Ev.pos (by omega) (Ev.ite (fun hc => Ev.pos (by omega) (Ev.pos (by omega) ?_)) (fun hc => Ev.val ?_)))))
  · refine Ev.bind (ContainsFunc_ev _ (lessThan (nth l i)) _ _ (by simp; omega) (fun k x _ => ?_)) (Ev.val ?_)
    · unfold impl_isConflict_1.f
      rw [if_pos (by omega), if_pos (by omega)]
      rfl
    · have h1 : nth l i < nth l j := by omega
      simp [conf, h1]
  · have : ¬ nth l i < nth l j := by omega
    simp [conf, this]
def mayB (l s : List Int) (j : Nat) (x : Int) : Bool := allFrom (fun i => !(decide (nth s i = x) && conf l i j)) j 0
theorem mayBe_l (l s : List Int) (ho : isOrd l = true) (j : Nat) (hj : j < l.length) (hs : j ≤ s.length) (x : Int) : ∀ (d i : Nat), j = i + d → Ev (fun k => impl_mayBe.l0 k l s j x j i) (allFrom (fun i => !(decide (nth s i = x) && conf l i j)) d i)
  | 0, i, h => by
    refine Ev.step (fun k => by rw [impl_mayBe.l0]) ?_
    exact Ev.neg (by omega) (Ev.val rfl)
  | d + 1, i, h => by
    have hl := isOrd_len ho
    refine Ev.step (fun k => by rw [impl_mayBe.l0]) ?_
    have e : wrap64 ((i : Int) + 1) = ((i + 1 : Nat) : Int) := by rw [w64 (by omega)]; omega
    simp only [e, rd_nat, allFrom]
    refine Ev.pos (by omega) (Ev.pos (by omega) (Ev.pos (by omega) (Ev.ite (fun hc => ?_) (fun hc => ?_))))
    · refine Ev.bind (implConflict_ev l ho i j (by omega) hj) (Ev.ite (fun hd => Ev.val ?_) (fun hd => (mayBe_l l s ho j hj hs x d (i + 1) (by omega)).to ?_))
      · simp [hc, hd]
      · rw [Bool.not_eq_true] at hd; simp [hd]
    · refine (mayBe_l l s ho j hj hs x d (i + 1) (by omega)).to ?_
      simp [hc]
theorem mayBe_ev (l s : List Int) (ho : isOrd l = true) (j : Nat) (hj : j < l.length) (hs : j ≤ s.length) (x : Int) : Ev (fun k => impl_mayBe.f k l s j x) (mayB l s j x) := by
  unfold impl_mayBe.f
  exact mayBe_l l s ho j hj hs x j 0 (by omega)
def fits (l s : List Int) : Bool := allFrom (fun j => mayB l s j (nth s j)) s.length 0
theorem l7Fits_l1 (l s : List Int) (ho : isOrd l = true) (j : Nat) (hj : j < s.length) (hs : s.length ≤ l.length) (r : Bool) (hr : Ev (fun k => spec_l7Fits.l0 k l s ((j + 1 : Nat) : Int)) r) : ∀ (d i : Nat), j = i + d → Ev (fun k => spec_l7Fits.l1 k l s j i) (allFrom (fun i => !(decide (nth s i = nth s j) && conf l i j)) d i && r)
  | 0, i, h => by
    have hl := isOrd_len ho
    refine Ev.step (fun k => by rw [spec_l7Fits.l1]) ?_
    have e : wrap64 ((j : Int) + 1) = ((j + 1 : Nat) : Int) := by rw [w64 (by omega)]; omega
    simp only [e]
    exact Ev.neg (by omega) (hr.to (by simp [allFrom]))
  | d + 1, i, h => by
    have hl := isOrd_len ho
    refine Ev.step (fun k => by rw [spec_l7Fits.l1]) ?_
    have e : wrap64 ((i : Int) + 1) = ((i + 1 : Nat) : Int) := by rw [w64 (by omega)]; omega
    simp only [e, rd_nat, allFrom]
    refine Ev.pos (by omega) (Ev.pos (by omega) (Ev.pos (by omega) (Ev.pos (by omega) (Ev.pos (by omega) (Ev.ite (fun hc => ?_) (fun hc => ?_))))))
    · refine Ev.bind (specConflict_ev l ho i j (by omega) (by omega)) (Ev.ite (fun hd => Ev.val ?_) (fun hd => (l7Fits_l1 l s ho j hj hs r hr d (i + 1) (by omega)).to ?_))
      · simp [hc, hd]
      · rw [Bool.not_eq_true] at hd; simp [hd]
    · refine (l7Fits_l1 l s ho j hj hs r hr d (i + 1) (by omega)).to ?_
      simp [hc]
theorem l7Fits_l (l s : List Int) (ho : isOrd l = true) (hs : s.length ≤ l.length) : ∀ (d j : Nat), s.length = j + d → Ev (fun k => spec_l7Fits.l0 k l s j) (allFrom (fun j => mayB l s j (nth s j)) d j)
  | 0, j, h => by
    refine Ev.step (fun k => by rw [spec_l7Fits.l0]) ?_
    exact Ev.neg (by omega) (Ev.val rfl)
  | d + 1, j, h => by
    refine Ev.step (fun k => by rw [spec_l7Fits.l0]) ?_
    refine Ev.pos (by omega) ?_
    exact l7Fits_l1 l s ho j (by omega) hs _ (l7Fits_l l s ho hs d (j + 1) (by omega)) j 0 (by omega)
theorem l7Fits_ev (l s : List Int) (ho : isOrd l = true) (hs : s.length ≤ l.length) : Ev (fun k => spec_l7Fits.f k l s) (fits l s) := by
  unfold spec_l7Fits.f
  exact l7Fits_l l s ho hs s.length 0 (by omega)
theorem isShar_of {l0 l1 : List Int} (h : isShar l0 l1 = true) : isOrd l0 = true ∧ l1.length = l0.length := by
  simp only [isShar, Bool.and_eq_true, decide_eq_true_eq] at h
  exact ⟨h.1, h.2.1⟩
def resFits (l0 l1 : List Int) : Bool × Bool := if isShar l0 l1 then (fits l0 l1, true) else (false, false)
theorem implFits_l (l s : List Int) (ho : isOrd l = true) (hs : s.length = l.length) : ∀ (d j : Nat), s.length = j + d → Ev (fun k => impl_FitsSharing.l0 k l s s (s.length : Int) j) (allFrom (fun j => mayB l s j (nth s j)) d j, true)
  | 0, j, h => by
    refine Ev.step (fun k => by rw [impl_FitsSharing.l0]) ?_
    exact Ev.neg (by omega) (Ev.val rfl)
  | d + 1, j, h => by
    have hl := isOrd_len ho
    refine Ev.step (fun k => by rw [impl_FitsSharing.l0]) ?_
    have e : wrap64 ((j : Int) + 1) = ((j + 1 : Nat) : Int) := by rw [w64 (by omega)]; omega
    simp only [e, rd_nat, allFrom]
    refine Ev.pos (by omega) (Ev.pos (by omega) (Ev.pos (by omega) (Ev.bind (mayBe_ev l s ho j (by omega) (by omega) _) (Ev.ite (fun hd => ?_) (fun hd => Ev.val ?_)))))
    · exact (implFits_l l s ho hs d (j + 1) (by omega)).to (by simp [hd])
    · simp [hd]
theorem implFits_ev (l0 l1 : List Int) (hn0 : l0.length ≤ 17592186044415) (hn1 : l1.length ≤ 17592186044415) : Ev (fun k => impl_FitsSharing.f k l0 l1) (resFits l0 l1) := by
  unfold impl_FitsSharing.f
  refine Ev.bind (implIsSharing_ev l0 l1 hn0 hn1) (Ev.ite (fun hc => ?_) (fun hc => Ev.val ?_))
  · obtain ⟨ho, hl⟩ := isShar_of hc
    exact (implFits_l l0 l1 ho hl l1.length 0 (by omega)).to (by simp [resFits, hc, fits])
  · simp [resFits, hc]
theorem nth_append_lt (s : List Int) (x : Int) (i : Nat) (h : i < s.length) : nth (s ++ [x]) i = nth s i := by
  rw [nth_lt _ _ (by simp; omega), nth_lt _ _ h, List.getElem_append_left h]
theorem allFrom_congr (p q : Nat → Bool) : ∀ d i, (∀ j, i ≤ j → j < i + d → p j = q j) → allFrom p d i = allFrom q d i
  | 0, i, _ => rfl
  | d + 1, i, h => by
    rw [allFrom, allFrom, h i (by omega) (by omega), allFrom_congr p q d (i + 1) fun j h1 h2 => h j (by omega) (by omega)]
theorem allFrom_snoc (p : Nat → Bool) : ∀ d i, allFrom p (d + 1) i = (allFrom p d i && p (i + d))
  | 0, i => by simp [allFrom]
  | d + 1, i => by
    rw [allFrom, allFrom_snoc p d (i + 1), allFrom, Bool.and_assoc]
    congr 3
    omega
theorem mayB_append (l s : List Int) (x : Int) (j : Nat) (hj : j ≤ s.length) (y : Int) : mayB l (s ++ [x]) j y = mayB l s j y := by
  unfold mayB
  refine allFrom_congr _ _ j 0 fun i _ h => ?_
  rw [nth_append_lt s x i (by omega)]
theorem fits_snoc (l s : List Int) (x : Int) : fits l (s ++ [x]) = (fits l s && mayB l s s.length x) := by
  unfold fits
  rw [List.length_append, List.length_singleton, allFrom_snoc, Nat.zero_add, nth_snoc, mayB_append l s x s.length (Nat.le_refl _)]
  congr 1
  refine allFrom_congr _ _ _ _ fun j _ h => ?_
  rw [nth_append_lt s x j (by omega), mayB_append l s x j (by omega)]
def gfind (l s : List Int) : Nat → Int → Int
  | 0, x => x
  | d + 1, x => if mayB l s s.length x then x else gfind l s d (x + 1)
def greedy (l : List Int) : Nat → List Int → List Int × Bool
  | 0, s => (s, true)
  | d + 1, s => if gfind l s 4 0 = 4 then ([], false) else greedy l d (s ++ [gfind l s 4 0])
theorem greedy_length (l : List Int) : ∀ d s, (greedy l d s).1.length ≤ s.length + d
  | 0, s => by simp [greedy]
  | d + 1, s => by
    rw [greedy]
    split
    · simp
    · have := greedy_length l d (s ++ [gfind l s 4 0])
      simp at this
      omega
theorem implGreedy_l1 (l s : List Int) (ho : isOrd l = true) (hs : s.length < l.length) (R : Int → List Int × Bool) (hR : ∀ x, 0 ≤ x → x < 4 → Ev (fun k => impl_GreedySharing.l0 k l (s ++ [x]) (l.length : Int) ((s.length + 1 : Nat) : Int)) (R x)) : ∀ (d : Nat) (x : Int), x + d = 4 → 0 ≤ x → Ev (fun k => impl_GreedySharing.l1 k l s s.length x (l.length : Int) s.length) (if gfind l s d x = 4 then ([], false) else R (gfind l s d x))
  | 0, x, h, h0 => by
    refine Ev.step (fun k => by rw [impl_GreedySharing.l1]) ?_
    refine Ev.neg (by omega) (Ev.pos (by omega) (Ev.val ?_))
    have : x = 4 := by omega
    simp [gfind, this]
  | d + 1, x, h, h0 => by
    have hl := isOrd_len ho
    refine Ev.step (fun k => by rw [impl_GreedySharing.l1]) ?_
    have e : wrap64 ((s.length : Int) + 1) = ((s.length + 1 : Nat) : Int) := by rw [w64 (by omega)]; omega
    have e1 : wrap64 (x + 1) = x + 1 := w64 (by omega)
    simp only [e, e1]
    rw [gfind]
    refine Ev.pos (by omega) (Ev.bind (mayBe_ev l s ho s.length hs (Nat.le_refl _) x) (Ev.ite (fun hc => Ev.neg (by omega) (Ev.pos (by omega) ?_)) (fun hc => ?_)))
    · rw [if_pos hc, if_neg (by omega)]
      exact hR x h0 (by omega)
    · rw [if_neg hc]
      exact implGreedy_l1 l s ho hs R hR d (x + 1) (by omega) (by omega)
theorem implGreedy_l (l : List Int) (ho : isOrd l = true) : ∀ (d : Nat) (s : List Int), l.length = s.length + d → Ev (fun k => impl_GreedySharing.l0 k l s (l.length : Int) s.length) (greedy l d s)
  | 0, s, h => by
    refine Ev.step (fun k => by rw [impl_GreedySharing.l0]) ?_
    exact Ev.neg (by omega) (Ev.val rfl)
  | d + 1, s, h => by
    refine Ev.step (fun k => by rw [impl_GreedySharing.l0]) ?_
    refine Ev.pos (by omega) ?_
    rw [greedy]
    refine implGreedy_l1 l s ho (by omega) (fun x => greedy l d (s ++ [x])) (fun x h0 h1 => ?_) 4 0 (by omega) (by omega)
    have := implGreedy_l l ho d (s ++ [x]) (by simp; omega)
    rw [List.length_append, List.length_singleton] at this
    exact this
theorem specGreedy_l1 (l s : List Int) (ho : isOrd l = true) (hs : s.length < l.length) (hf : fits l s = true) (R : Int → List Int × Bool) (hR : ∀ x, 0 ≤ x → x < 4 → mayB l s s.length x = true → Ev (fun k => spec_GreedySharing.l0 k l (s ++ [x])) (R x)) : ∀ (d : Nat) (x : Int), x + d = 4 → 0 ≤ x → Ev (fun k => spec_GreedySharing.l1 k l s x) (if gfind l s d x = 4 then ([], false) else R (gfind l s d x))
  | 0, x, h, h0 => by
    refine Ev.step (fun k => by rw [spec_GreedySharing.l1]) ?_
    refine Ev.neg (by omega) (Ev.pos (by omega) (Ev.val ?_))
    have : x = 4 := by omega
    simp [gfind, this]
  | d + 1, x, h, h0 => by
    have hl := isOrd_len ho
    refine Ev.step (fun k => by rw [spec_GreedySharing.l1]) ?_
    have e1 : wrap64 (x + 1) = x + 1 := w64 (by omega)
    simp only [e1, l1Own_is s (by omega), Option.bind_some]
    rw [gfind]
    refine Ev.pos (by omega) (Ev.pos (by omega) (Ev.bind (l7Fits_ev l (s ++ [x]) ho (by simp; omega)) ?_))
    rw [fits_snoc, hf, Bool.true_and]
    refine Ev.ite (fun hc => Ev.neg (by omega) (Ev.pos (by omega) ?_)) (fun hc => ?_)
    · rw [if_pos hc, if_neg (by omega)]
      exact hR x h0 (by omega) hc
    · rw [if_neg hc]
      exact specGreedy_l1 l s ho hs hf R hR d (x + 1) (by omega) (by omega)
theorem specGreedy_l (l : List Int) (ho : isOrd l = true) : ∀ (d : Nat) (s : List Int), l.length = s.length + d → fits l s = true → Ev (fun k => spec_GreedySharing.l0 k l s) (greedy l d s)
  | 0, s, h, hf => by
    refine Ev.step (fun k => by rw [spec_GreedySharing.l0]) ?_
    exact Ev.neg (by omega) (Ev.val rfl)
  | d + 1, s, h, hf => by
    refine Ev.step (fun k => by rw [spec_GreedySharing.l0]) ?_
    refine Ev.pos (by omega) ?_
    rw [greedy]
    refine specGreedy_l1 l s ho (by omega) hf (fun x => greedy l d (s ++ [x])) (fun x h0 h1 hm => ?_) 4 0 (by omega) (by omega)
    exact specGreedy_l l ho d (s ++ [x]) (by simp; omega) (by rw [fits_snoc, hf, hm]; rfl)
def resGreedySharing (l : List Int) : List Int := if isOrd l then (greedy l l.length []).1 else []
def okGreedySharing (l : List Int) : Bool := if isOrd l then (greedy l l.length []).2 else false
theorem resGreedySharing_length (l : List Int) : (resGreedySharing l).length ≤ 1000 := by
  unfold resGreedySharing
  split
  · rename_i h
    have := isOrd_len h
    have := greedy_length l l.length []
    simp at this
    omega
  · simp
theorem specGreedySharing_ev (l : List Int) (hn : l.length ≤ 17592186044415) : Ev (fun k => spec_GreedySharing.f k l) (resGreedySharing l, okGreedySharing l) := by
  unfold spec_GreedySharing.f
  refine Ev.bind (l2Order_ev l (by omega)) (Ev.ite (fun hc => ?_) (fun hc => Ev.val ?_))
  · exact (specGreedy_l l hc l.length [] (by simp) rfl).to (by simp [resGreedySharing, okGreedySharing, hc])
  · simp [resGreedySharing, okGreedySharing, hc]
theorem implGreedySharing_ev (l : List Int) (hn : l.length ≤ 17592186044415) : Ev (fun k => impl_GreedySharing.f k l) (resGreedySharing l, okGreedySharing l) := by
  unfold impl_GreedySharing.f
  refine Ev.bind (isOrder_ev l (by omega)) (Ev.ite (fun hc => ?_) (fun hc => Ev.val ?_))
  · exact (implGreedy_l l hc l.length [] (by simp)).to (by simp [resGreedySharing, okGreedySharing, hc])
  · simp [resGreedySharing, okGreedySharing, hc]
def leaves (l : List Int) (n : Nat) : Nat → List Int → List (List Int)
  | 0, s => [s]
  | r + 1, s => (List.range' 0 n).flatMap fun (x : Nat) => if mayB l s s.length (x : Int) = true then leaves l n r (s ++ [(x : Int)]) else []
def stepL (l : List Int) (n r : Nat) (s : List Int) (x : Nat) : List (List Int) := if mayB l s s.length (x : Int) = true then leaves l n r (s ++ [(x : Int)]) else []
theorem leaves_succ (l : List Int) (n r : Nat) (s : List Int) : leaves l n (r + 1) s = (List.range' 0 n).flatMap (stepL l n r s) := rfl
theorem flatMap_bound {f : Nat → List (List Int)} {M : Nat} (h : ∀ x, (f x).length ≤ M) : ∀ xs : List Nat, (xs.flatMap f).length ≤ xs.length * M
  | [] => by simp
  | x :: xs => by
    have h1 := h x
    have h2 := flatMap_bound h xs
    rw [List.flatMap_cons, List.length_append, List.length_cons, Nat.succ_mul]
    omega
theorem leaves_bound (l : List Int) (n : Nat) : ∀ r s, (leaves l n r s).length ≤ n ^ r
  | 0, s => by simp [leaves]
  | r + 1, s => by
    have h := flatMap_bound (f := stepL l n r s) (M := n ^ r) (fun x => by
      unfold stepL
      split
      · exact leaves_bound l n r _
      · simp) (List.range' 0 n)
    rw [leaves_succ, Nat.pow_succ, Nat.mul_comm]
    simpa using h
theorem pow_small {n r : Nat} (hn : n ≤ 7) (hr : r ≤ 7) : n ^ r ≤ 823543 := by
  calc n ^ r ≤ 7 ^ r := Nat.pow_le_pow_left hn r
    _ ≤ 7 ^ 7 := Nat.pow_le_pow_right (by omega) hr
    _ = 823543 := by rfl
theorem head_append (A B : List (List Int)) : (A ++ B).headD [] = if A.length = 0 then B.headD [] else A.headD [] := by
  cases A <;> simp
theorem l7Go_l (l : List Int) (ho : isOrd l = true) (n : Nat) (hn : n ≤ 7) (r : Nat) (s : List Int) (hs : l.length = s.length + (r + 1)) (hf : fits l s = true)
    (ih : ∀ s, l.length = s.length + r → fits l s = true → Ev (fun k => spec_l7Go.f k l s n) ((leaves l n r s).headD [], ((leaves l n r s).length : Int))) :
    ∀ (d x : Nat) (A : List (List Int)), n = x + d → (A ++ (List.range' x d).flatMap (stepL l n r s)).length ≤ 1000000 → Ev (fun k => spec_l7Go.l0 k l s n (A.headD []) (A.length : Int) x) ((A ++ (List.range' x d).flatMap (stepL l n r s)).headD [], ((A ++ (List.range' x d).flatMap (stepL l n r s)).length : Int))
  | 0, x, A, h, hb => by
    refine Ev.step (fun k => by rw [spec_l7Go.l0]) ?_
    refine Ev.neg (by omega) (Ev.val ?_)
    simp
  | d + 1, x, A, h, hb => by
    have hl := isOrd_len ho
    have e1 : wrap64 ((x : Int) + 1) = ((x + 1 : Nat) : Int) := wup x (by omega)
    have hB : Ev (fun k => spec_l7Go.f k l (s ++ [(x : Int)]) n) ((stepL l n r s x).headD [], ((stepL l n r s x).length : Int)) := by
      unfold stepL
      by_cases hm : mayB l s s.length (x : Int) = true
      · rw [if_pos hm]
        exact ih (s ++ [(x : Int)]) (by simp; omega) (by rw [fits_snoc, hf, hm]; rfl)
      · rw [if_neg hm]
        refine Ev.step (fun k => by rw [spec_l7Go.f]) ?_
        refine Ev.bind (l7Fits_ev l (s ++ [(x : Int)]) ho (by simp; omega)) (Ev.neg ?_ (Ev.val rfl))
        rw [fits_snoc, hf]
        simp [hm]
    have hA := l7Go_l l ho n hn r s hs hf ih d (x + 1) (A ++ stepL l n r s x) (by omega)
    rw [List.range'_succ, List.flatMap_cons, ← List.append_assoc] at hb ⊢
    have hA := hA hb
    generalize stepL l n r s x = B at hB hA hb ⊢
    have hlen : A.length + B.length ≤ 1000000 := by
      rw [List.length_append, List.length_append] at hb
      omega
    have e2 : wrap64 ((A.length : Int) + (B.length : Int)) = ((A ++ B).length : Int) := by rw [w64 (by omega), List.length_append]; omega
    refine Ev.step (fun k => by rw [spec_l7Go.l0]) ?_
    simp only [l1Own_is s (by omega), Option.bind_some, e1]
    refine Ev.pos (by omega) (Ev.pos (by omega) (Ev.bind hB ?_))
    simp only [e2]
    rw [head_append] at hA
    refine Ev.ite (fun h0 => Ev.ite (fun h1 => ?_) (fun h1 => ?_)) (fun h0 => ?_)
    · rw [if_pos (by omega)] at hA; exact hA
    · have hb0 : B = [] := List.eq_nil_of_length_eq_zero (by omega)
      have ha0 : A = [] := List.eq_nil_of_length_eq_zero (by omega)
      subst hb0 ha0
      exact hA
    · rw [if_neg (by omega)] at hA; exact hA
theorem l7Go_ev (l : List Int) (ho : isOrd l = true) (n : Nat) (hn : n ≤ 7) : ∀ (r : Nat) (s : List Int), l.length = s.length + r → fits l s = true → Ev (fun k => spec_l7Go.f k l s n) ((leaves l n r s).headD [], ((leaves l n r s).length : Int))
  | 0, s, hs, hf => by
    refine Ev.step (fun k => by rw [spec_l7Go.f]) ?_
    exact Ev.bind (l7Fits_ev l s ho (by omega)) (Ev.pos hf (Ev.pos (by omega) (Ev.val rfl)))
  | r + 1, s, hs, hf => by
    have hl := isOrd_len ho
    refine Ev.step (fun k => by rw [spec_l7Go.f]) ?_
    refine Ev.bind (l7Fits_ev l s ho (by omega)) (Ev.pos hf (Ev.neg (by omega) ?_))
    have hb := leaves_bound l n (r + 1) s
    have hp := pow_small hn (show r + 1 ≤ 7 by omega)
    rw [leaves_succ] at hb
    exact l7Go_l l ho n hn r s hs hf (l7Go_ev l ho n hn r) n 0 [] (by omega) (by rw [List.nil_append]; omega)
def runL {σ : Type} (st : σ → List Int → σ × Bool) : List (List Int) → σ → σ × Bool
  | [], s => (s, false)
  | d :: ds, s => if (st s d).2 = true then ((st s d).1, true) else runL st ds (st s d).1
theorem runL_append {σ : Type} (st : σ → List Int → σ × Bool) : ∀ (A B : List (List Int)) (s : σ), runL st (A ++ B) s = if (runL st A s).2 = true then ((runL st A s).1, true) else runL st B (runL st A s).1
  | [], B, s => by simp [runL]
  | a :: A, B, s => by
    rw [List.cons_append, runL, runL, runL_append st A B]
    by_cases h : (st s a).2 = true
    · simp [h]
    · simp [h]
theorem sh_l {σ : Type} (of_ : Nat → σ → List Int → Option (σ × Bool)) (st : σ → List Int → σ × Bool) (l : List Int) (ho : isOrd l = true) (n : Nat) (hn : n ≤ 7) (r : Nat) (d : List Int) (hd : l.length = d.length + (r + 1))
    (ih : ∀ d s, l.length = d.length + r → Ev (fun k => impl_sharings_1.f of_ k l n s d) (runL st (leaves l n r d) s)) :
    ∀ (e x : Nat) (s : σ), n = x + e → Ev (fun k => impl_sharings_1.l0 of_ k l n s d x) (runL st ((List.range' x e).flatMap (stepL l n r d)) s)
  | 0, x, s, h => by
    refine Ev.step (fun k => by rw [impl_sharings_1.l0]) ?_
    exact Ev.neg (by omega) (Ev.val rfl)
  | e + 1, x, s, h => by
    have hl := isOrd_len ho
    rw [List.range'_succ, List.flatMap_cons, runL_append]
    refine Ev.step (fun k => by rw [impl_sharings_1.l0]) ?_
    refine Ev.pos (by omega) (Ev.pos (by omega) (Ev.bind (mayBe_ev l d ho d.length (by omega) (Nat.le_refl _) x) ?_))
    have hn1 : ((x : Int) + 1) = ((x + 1 : Nat) : Int) := by omega
    simp only [hn1]
    have hnext := fun s => sh_l of_ st l ho n hn r d hd ih e (x + 1) s (by omega)
    refine Ev.ite (fun hm => Ev.pos (by omega) ?_) (fun hm => ?_)
    · have e1 : stepL l n r d x = leaves l n r (d ++ [(x : Int)]) := by rw [stepL, if_pos hm]
      rw [e1]
      refine Ev.bind (ih (d ++ [(x : Int)]) s (by simp; omega)) (Ev.ite (fun h1 => ?_) (fun h1 => ?_))
      · rw [if_pos h1]; exact Ev.val rfl
      · rw [if_neg h1]; exact hnext _
    · have e1 : stepL l n r d x = [] := by rw [stepL, if_neg hm]
      rw [e1]
      exact hnext s
theorem sh_ev {σ : Type} (of_ : Nat → σ → List Int → Option (σ × Bool)) (st : σ → List Int → σ × Bool) (hof : ∀ s d, Ev (fun k => of_ k s d) (st s d)) (l : List Int) (ho : isOrd l = true) (n : Nat) (hn : n ≤ 7) : ∀ (r : Nat) (d : List Int) (s : σ), l.length = d.length + r → Ev (fun k => impl_sharings_1.f of_ k l n s d) (runL st (leaves l n r d) s)
  | 0, d, s, hd => by
    refine Ev.step (fun k => by rw [impl_sharings_1.f]) ?_
    refine Ev.pos (by omega) ((hof s d).to ?_)
    rw [leaves, runL, runL]
    by_cases h : (st s d).2 = true
    · rw [if_pos h, ← h]
    · rw [if_neg h, ← Bool.eq_false_iff.mpr h]
  | r + 1, d, s, hd => by
    refine Ev.step (fun k => by rw [impl_sharings_1.f]) ?_
    refine Ev.neg (by omega) ?_
    exact sh_l of_ st l ho n hn r d hd (fun d s h => sh_ev of_ st hof l ho n hn r d s h) n 0 s (by omega)
theorem sharings_ev {σ : Type} (of_ : Nat → σ → List Int → Option (σ × Bool)) (st : σ → List Int → σ × Bool) (hof : ∀ s d, Ev (fun k => of_ k s d) (st s d)) (l : List Int) (ho : isOrd l = true) (n : Nat) (hn : n ≤ 7) (s : σ) : Ev (fun k => impl_sharings.f of_ k l n s) (runL st (leaves l n l.length []) s).1 := by
  unfold impl_sharings.f
  exact Ev.bind (sh_ev of_ st hof l ho n hn l.length [] s (by simp)) (Ev.val rfl)
theorem flatMap_ne {α β : Type} {f : α → List β} {xs : List α} : xs.flatMap f ≠ [] ↔ ∃ x ∈ xs, f x ≠ [] := by
  rw [ne_eq, List.flatMap_eq_nil_iff]
  constructor
  · intro h
    exact Classical.byContradiction fun h2 => h fun x hx => Classical.byContradiction fun h3 => h2 ⟨x, hx, h3⟩
  · rintro ⟨x, hx, h⟩ h2
    exact h (h2 x hx)
theorem leaves_ne {l : List Int} {n r : Nat} {s : List Int} : leaves l n (r + 1) s ≠ [] ↔ ∃ x : Nat, x < n ∧ mayB l s s.length (x : Int) = true ∧ leaves l n r (s ++ [(x : Int)]) ≠ [] := by
  rw [leaves_succ, flatMap_ne]
  constructor
  · rintro ⟨x, hx, h⟩
    rw [List.mem_range'_1] at hx
    unfold stepL at h
    split at h
    · rename_i hm
      exact ⟨x, by omega, hm, h⟩
    · exact absurd rfl h
  · rintro ⟨x, hx, hm, h⟩
    refine ⟨x, by rw [List.mem_range'_1]; omega, ?_⟩
    rw [stepL, if_pos hm]
    exact h
theorem mayB_map {l s : List Int} {σ : Int → Int} (hi : ∀ x y, σ x = σ y → x = y) (x : Int) : mayB l (s.map σ) s.length (σ x) = mayB l s s.length x := by
  unfold mayB
  refine allFrom_congr _ _ _ _ fun i _ h => ?_
  have h1 : nth (s.map σ) i = σ (nth s i) := by rw [nth_lt _ _ (by simp; omega), nth_lt _ _ (by omega), List.getElem_map]
  rw [h1]
  have h2 : (σ (nth s i) = σ x) = (nth s i = x) := by
    apply propext
    exact ⟨hi _ _, fun h => by rw [h]⟩
  simp only [h2]
theorem leaves_map {l : List Int} {n : Nat} {σ : Int → Int} (hi : ∀ x y, σ x = σ y → x = y) (hr : ∀ x : Nat, x < n → ∃ y : Nat, y < n ∧ σ x = y) : ∀ (r : Nat) (s : List Int), leaves l n r s ≠ [] → leaves l n r (s.map σ) ≠ []
  | 0, s, h => by simp [leaves]
  | r + 1, s, h => by
    obtain ⟨x, hx, hm, h2⟩ := leaves_ne.1 h
    obtain ⟨y, hy, e⟩ := hr x hx
    refine leaves_ne.2 ⟨y, hy, ?_, ?_⟩
    · rw [← e, List.length_map, mayB_map hi]; exact hm
    · have := leaves_map hi hr r _ h2
      rw [List.map_append, List.map_cons, List.map_nil, e] at this
      exact this
def swapI (a b x : Int) : Int := if x = a then b else if x = b then a else x
theorem swapI_inj (a b x y : Int) (h : swapI a b x = swapI a b y) : x = y := by
  unfold swapI at h
  split at h <;> split at h <;> (try split at h) <;> (try split at h) <;> omega
def canM (l : List Int) (n : Nat) : Nat → List Int → Nat → Bool
  | 0, _, _ => true
  | r + 1, s, u => (List.range' 0 n).any fun (x : Nat) => decide (x ≤ u) && (mayB l s s.length (x : Int) && canM l n r (s ++ [(x : Int)]) (max u (x + 1)))
theorem canM_iff (l : List Int) (n : Nat) : ∀ (r : Nat) (s : List Int) (u : Nat), (∀ y ∈ s, y < u) → (canM l n r s u = true ↔ leaves l n r s ≠ [])
  | 0, s, u, h => by simp [canM, leaves]
  | r + 1, s, u, h => by
    have hnext : ∀ x : Nat, (canM l n r (s ++ [(x : Int)]) (max u (x + 1)) = true ↔ leaves l n r (s ++ [(x : Int)]) ≠ []) := fun x => canM_iff l n r _ _ (fun y hy => by
      rcases List.mem_append.1 hy with hy | hy
      · have := h y hy; omega
      · rw [List.mem_singleton] at hy; omega)
    rw [canM, List.any_eq_true]
    simp only [Bool.and_eq_true, decide_eq_true_eq, hnext, List.mem_range'_1]
    constructor
    · rintro ⟨x, hx, _, hm, h2⟩
      exact leaves_ne.2 ⟨x, by omega, hm, h2⟩
    · intro hL
      obtain ⟨x, hx, hm, h2⟩ := leaves_ne.1 hL
      by_cases hu : x ≤ u
      · exact ⟨x, by omega, hu, hm, h2⟩
      · have hs : s.map (swapI x u) = s := by
          conv => rhs; rw [← List.map_id s]
          apply List.map_congr_left
          intro y hy
          have := h y hy
          unfold swapI
          rw [if_neg (by omega), if_neg (by omega)]
          rfl
        have e : swapI x u x = u := by simp [swapI]
        refine ⟨u, by omega, Nat.le_refl _, ?_, ?_⟩
        · have := mayB_map (l := l) (s := s) (swapI_inj x u) x
          rw [hs, e] at this
          rw [this]; exact hm
        · have := leaves_map (l := l) (n := n) (swapI_inj x u) (fun z hz => by
            by_cases h1 : z = x
            · exact ⟨u, by omega, by subst h1; exact e⟩
            · by_cases h2 : z = u
              · exact ⟨x, hx, by subst h2; unfold swapI; rw [if_neg (by omega), if_pos rfl]⟩
              · exact ⟨z, hz, by unfold swapI; rw [if_neg (by omega), if_neg (by omega)]⟩) r _ h2
          rw [List.map_append, hs, List.map_cons, List.map_nil, e] at this
          exact this
theorem leaves_more {l : List Int} {n : Nat} : ∀ (r : Nat) (s : List Int), leaves l n r s ≠ [] → leaves l (n + 1) r s ≠ []
  | 0, s, _ => by simp [leaves]
  | r + 1, s, h => by
    obtain ⟨x, hx, hm, h2⟩ := leaves_ne.1 h
    exact leaves_ne.2 ⟨x, by omega, hm, leaves_more r _ h2⟩
theorem leaves_own {l : List Int} {n : Nat} : ∀ (r : Nat) (s : List Int), s.length + r ≤ n → (∀ y ∈ s, y < s.length) → leaves l n r s ≠ []
  | 0, s, _, _ => by simp [leaves]
  | r + 1, s, h, hs => by
    refine leaves_ne.2 ⟨s.length, by omega, ?_, leaves_own r _ (by simp; omega) (fun y hy => ?_)⟩
    · unfold mayB
      refine (allFrom_iff _ _ _).2 fun i _ hi => ?_
      have h1 := hs (nth s i) (by rw [nth_lt _ _ (by omega)]; exact List.getElem_mem _)
      have h2 : ¬ nth s i = (s.length : Int) := by omega
      simp [h2]
    · rw [List.length_append, List.length_singleton]
      rcases List.mem_append.1 hy with hy | hy
      · have := hs y hy; omega
      · rw [List.mem_singleton] at hy; omega
def hasL (l : List Int) (n : Nat) : Bool := !(leaves l n l.length []).isEmpty
theorem hasL_iff {l : List Int} {n : Nat} : hasL l n = true ↔ leaves l n l.length [] ≠ [] := by
  unfold hasL
  cases leaves l n l.length [] <;> simp
theorem hasL_7 {l : List Int} (h : l.length ≤ 7) : hasL l 7 = true := hasL_iff.2 (leaves_own _ _ (by simp; omega) (by simp))
theorem hasL_mono {l : List Int} {n m : Nat} (h : n ≤ m) (hn : hasL l n = true) : hasL l m = true := by
  induction m with
  | zero => obtain rfl : n = 0 := by omega
            exact hn
  | succ m ih =>
    by_cases e : n = m + 1
    · subst e; exact hn
    · exact hasL_iff.2 (leaves_more _ _ (hasL_iff.1 (ih (by omega))))
theorem canM_hasL (l : List Int) (n : Nat) : canM l n l.length [] 0 = hasL l n := Bool.eq_iff_iff.2 ((canM_iff l n l.length [] 0 (by simp)).trans hasL_iff.symm)
theorem l1Most_is (a b : Nat) : spec_l1Most.f a b = some ((max a b : Nat) : Int) := by
  unfold spec_l1Most.f
  by_cases h : (a : Int) > b
  · rw [if_pos h]; congr 1; omega
  · rw [if_neg h]; congr 1; omega
theorem any_none {u : Nat} (p : Nat → Bool) : ∀ (d x : Nat), u < x → (List.range' x d).any (fun y => decide (y ≤ u) && p y) = false
  | 0, x, _ => rfl
  | d + 1, x, h => by
    rw [List.range'_succ, List.any_cons, any_none p d (x + 1) (by omega)]
    have : ¬ x ≤ u := by omega
    simp [this]
theorem l7Can_l (l : List Int) (ho : isOrd l = true) (n : Nat) (hn : n ≤ 7) (r : Nat) (s : List Int) (u : Nat) (hu : u ≤ 7) (hs : l.length = s.length + (r + 1)) (hf : fits l s = true)
    (ih : ∀ (s : List Int) (u : Nat), u ≤ 7 → l.length = s.length + r → fits l s = true → Ev (fun k => spec_l7Can.f k l s (u : Int) (n : Int)) (canM l n r s u)) :
    ∀ (d x : Nat), n = x + d → Ev (fun k => spec_l7Can.l0 k l s (u : Int) (n : Int) (x : Int)) ((List.range' x d).any fun (x : Nat) => decide (x ≤ u) && (mayB l s s.length (x : Int) && canM l n r (s ++ [(x : Int)]) (max u (x + 1))))
  | 0, x, h => by
    refine Ev.step (fun k => by rw [spec_l7Can.l0]) ?_
    have e : decide ((x : Int) < n) = false := decide_eq_false (by omega)
    simp only [e]
    refine Ev.ite (fun _ => ?_) (fun _ => ?_)
    · refine Ev.step (fun k => by rw [spec_l7Can.j1]) ?_
      exact Ev.neg (by simp) (Ev.val rfl)
    · refine Ev.step (fun k => by rw [spec_l7Can.j1]) ?_
      exact Ev.neg (by simp) (Ev.val rfl)
  | d + 1, x, h => by
    have hl := isOrd_len ho
    refine Ev.step (fun k => by rw [spec_l7Can.l0]) ?_
    by_cases hxu : x ≤ u
    · have e : decide ((x : Int) < n) = true := decide_eq_true (by omega)
      simp only [e]
      refine Ev.pos (by omega) ?_
      refine Ev.step (fun k => by rw [spec_l7Can.j1]) ?_
      have e1 : wrap64 ((x : Int) + 1) = ((x + 1 : Nat) : Int) := wup x (by omega)
      simp only [e1, l1Own_is s (by omega), Option.bind_some, l1Most_is]
      refine Ev.pos trivial (Ev.pos (by omega) ?_)
      have hnext := l7Can_l l ho n hn r s u hu hs hf ih d (x + 1) (by omega)
      rw [List.range'_succ, List.any_cons, decide_eq_true hxu, Bool.true_and]
      by_cases hm : mayB l s s.length (x : Int) = true
      · rw [hm, Bool.true_and]
        refine Ev.bind (ih (s ++ [(x : Int)]) (max u (x + 1)) (by omega) (by simp; omega) (by rw [fits_snoc, hf, hm]; rfl)) (Ev.ite (fun hc => Ev.val ?_) (fun hc => ?_))
        · rw [hc]; rfl
        · rw [Bool.not_eq_true] at hc
          rw [hc, Bool.false_or]
          exact hnext
      · rw [Bool.not_eq_true] at hm
        rw [hm, Bool.false_and, Bool.false_or]
        refine Ev.bind (?_ : Ev _ false) (Ev.neg (by simp) hnext)
        refine Ev.step (fun k => by rw [spec_l7Can.f]) ?_
        refine Ev.bind (l7Fits_ev l (s ++ [(x : Int)]) ho (by simp; omega)) (Ev.neg ?_ (Ev.val rfl))
        rw [fits_snoc, hf, hm]
        simp
    · refine Ev.neg (by omega) ?_
      refine Ev.step (fun k => by rw [spec_l7Can.j1]) ?_
      refine Ev.neg (by simp) (Ev.val ?_)
      exact (any_none (fun (x : Nat) => mayB l s s.length (x : Int) && canM l n r (s ++ [(x : Int)]) (max u (x + 1))) (d + 1) x (by omega)).symm
theorem l7Can_ev (l : List Int) (ho : isOrd l = true) (n : Nat) (hn : n ≤ 7) : ∀ (r : Nat) (s : List Int) (u : Nat), u ≤ 7 → l.length = s.length + r → fits l s = true → Ev (fun k => spec_l7Can.f k l s (u : Int) (n : Int)) (canM l n r s u)
  | 0, s, u, hu, hs, hf => by
    refine Ev.step (fun k => by rw [spec_l7Can.f]) ?_
    exact Ev.bind (l7Fits_ev l s ho (by omega)) (Ev.pos hf (Ev.pos (by omega) (Ev.val rfl)))
  | r + 1, s, u, hu, hs, hf => by
    refine Ev.step (fun k => by rw [spec_l7Can.f]) ?_
    refine Ev.bind (l7Fits_ev l s ho (by omega)) (Ev.pos hf (Ev.neg (by omega) ?_))
    exact l7Can_l l ho n hn r s u hu hs hf (fun s u hu hs hf => l7Can_ev l ho n hn r s u hu hs hf) n 0 (by omega)
theorem can_ev (l : List Int) (ho : isOrd l = true) (n : Nat) (hn : n ≤ 7) : Ev (fun k => spec_l7Can.f k l [] 0 (n : Int)) (hasL l n) :=
  (l7Can_ev l ho n hn l.length [] 0 (by omega) (by simp) rfl).to (canM_hasL l n)
def stFirst (_s : List Int × Bool) (d : List Int) : (List Int × Bool) × Bool := ((d, true), true)
theorem firstSharing_ev (l : List Int) (ho : isOrd l = true) (n : Nat) (hn : n ≤ 7) : Ev (fun k => impl_firstSharing.f k l (n : Int)) ((leaves l n l.length []).headD [], hasL l n) := by
  unfold impl_firstSharing.f
  refine (sharings_ev impl_firstSharing_1.f stFirst (fun s d => Ev.val rfl) l ho n hn ([], false)).to ?_
  unfold hasL
  cases leaves l n l.length [] <;> simp [runL, stFirst]
def few (l : List Int) : Nat → Nat → Nat
  | 0, k => k
  | d + 1, k => if hasL l k = true then k else few l d (k + 1)
theorem few_ok (l : List Int) (h7 : hasL l 7 = true) : ∀ d k, k + d = 7 → k ≤ few l d k ∧ few l d k ≤ 7 ∧ hasL l (few l d k) = true ∧ ∀ j, k ≤ j → j < few l d k → hasL l j = false
  | 0, k, h => by
    obtain rfl : k = 7 := by omega
    exact ⟨Nat.le_refl _, Nat.le_refl _, h7, fun j h1 h2 => by simp only [few] at h2; omega⟩
  | d + 1, k, h => by
    rw [few]
    by_cases hk : hasL l k = true
    · rw [if_pos hk]
      exact ⟨Nat.le_refl _, by omega, hk, fun j h1 h2 => by omega⟩
    · rw [if_neg hk]
      have := few_ok l h7 d (k + 1) (by omega)
      refine ⟨by omega, this.2.1, this.2.2.1, fun j h1 h2 => ?_⟩
      by_cases e : j = k
      · subst e; simpa using hk
      · exact this.2.2.2 j (by omega) h2
theorem few_le {l : List Int} (h7 : hasL l 7 = true) (k : Nat) (hk : 1 ≤ k) : decide (few l 6 1 ≤ k) = hasL l k := by
  have h := few_ok l h7 6 1 (by omega)
  by_cases hc : few l 6 1 ≤ k
  · rw [decide_eq_true hc, hasL_mono hc h.2.2.1]
  · rw [decide_eq_false hc, h.2.2.2 k hk (by omega)]
theorem fewestStacks_l (l : List Int) (ho : isOrd l = true) (h7 : hasL l 7 = true) : ∀ (d c : Nat), c + d = 7 → Ev (fun k => impl_fewestStacks.l0 k l (c : Int)) ((few l d c : Nat) : Int)
  | 0, c, h => by
    obtain rfl : c = 7 := by omega
    refine Ev.step (fun k => by rw [impl_fewestStacks.l0]) ?_
    exact Ev.bind (firstSharing_ev l ho 7 (by omega)) (Ev.pos h7 (Ev.val rfl))
  | d + 1, c, h => by
    refine Ev.step (fun k => by rw [impl_fewestStacks.l0]) ?_
    have e1 : wrap64 ((c : Int) + 1) = ((c + 1 : Nat) : Int) := wup c (by omega)
    simp only [e1]
    rw [few]
    refine Ev.bind (firstSharing_ev l ho c (by omega)) (Ev.ite (fun hc => ?_) (fun hc => ?_))
    · rw [if_pos hc]; exact Ev.val rfl
    · rw [if_neg hc]; exact fewestStacks_l l ho h7 d (c + 1) (by omega)
theorem fewestStacks_ev (l : List Int) (ho : isOrd l = true) : Ev (fun k => impl_fewestStacks.f k l) ((few l 6 1 : Nat) : Int) := by
  unfold impl_fewestStacks.f
  exact fewestStacks_l l ho (hasL_7 (isOrd_len ho).2) 6 1 (by omega)
theorem l7Fewest_l (l : List Int) (ho : isOrd l = true) (h7 : hasL l 7 = true) : ∀ (d c : Nat), c + d = 7 → Ev (fun k => spec_l7Fewest.l0 k l (c : Int)) ((few l d c : Nat) : Int)
  | 0, c, h => by
    obtain rfl : c = 7 := by omega
    refine Ev.step (fun k => by rw [spec_l7Fewest.l0]) ?_
    exact Ev.bind (can_ev l ho 7 (by omega)) (Ev.pos h7 (Ev.val rfl))
  | d + 1, c, h => by
    refine Ev.step (fun k => by rw [spec_l7Fewest.l0]) ?_
    have e1 : wrap64 ((c : Int) + 1) = ((c + 1 : Nat) : Int) := wup c (by omega)
    simp only [e1]
    rw [few]
    refine Ev.bind (can_ev l ho c (by omega)) (Ev.ite (fun hc => ?_) (fun hc => ?_))
    · rw [if_pos hc]; exact Ev.val rfl
    · rw [if_neg hc]; exact l7Fewest_l l ho h7 d (c + 1) (by omega)
theorem l7Fewest_ev (l : List Int) (ho : isOrd l = true) : Ev (fun k => spec_l7Fewest.f k l) ((few l 6 1 : Nat) : Int) := by
  unfold spec_l7Fewest.f
  exact l7Fewest_l l ho (hasL_7 (isOrd_len ho).2) 6 1 (by omega)
def resFewestStacks (l : List Int) : Int × Bool := if isOrd l = true then (((few l 6 1 : Nat) : Int), true) else (0, false)
theorem specFewestStacks_ev (l : List Int) (hn : l.length ≤ 17592186044415) : Ev (fun k => spec_FewestStacks.f k l) (resFewestStacks l) := by
  unfold spec_FewestStacks.f resFewestStacks
  refine Ev.bind (l2Order_ev l (by omega)) (Ev.ite (fun ho => ?_) (fun ho => ?_))
  · rw [if_pos ho]; exact Ev.bind (l7Fewest_ev l ho) (Ev.val rfl)
  · rw [if_neg ho]; exact Ev.val rfl
theorem implFewestStacks_ev (l : List Int) (hn : l.length ≤ 17592186044415) : Ev (fun k => impl_FewestStacks.f k l) (resFewestStacks l) := by
  unfold impl_FewestStacks.f resFewestStacks
  refine Ev.bind (isOrder_ev l (by omega)) (Ev.ite (fun ho => ?_) (fun ho => ?_))
  · rw [if_pos ho]; exact Ev.bind (fewestStacks_ev l ho) (Ev.val rfl)
  · rw [if_neg ho]; exact Ev.val rfl
def resFirstSharing (l : List Int) : List Int := if isOrd l = true then (if few l 6 1 ≤ 4 then (leaves l (few l 6 1) l.length []).headD [] else []) else []
def okFirstSharing (l : List Int) : Bool := isOrd l && decide (few l 6 1 ≤ 4)
theorem leaves_len (l : List Int) (n : Nat) : ∀ (r : Nat) (s : List Int), ∀ x ∈ leaves l n r s, x.length = s.length + r
  | 0, s, x, h => by
    simp only [leaves, List.mem_singleton] at h
    subst h; rfl
  | r + 1, s, x, h => by
    rw [leaves_succ, List.mem_flatMap] at h
    obtain ⟨y, _, h⟩ := h
    unfold stepL at h
    split at h
    · have := leaves_len l n r _ x h
      simp at this
      omega
    · simp at h
theorem resFirstSharing_length (l : List Int) : (resFirstSharing l).length ≤ 1000 := by
  unfold resFirstSharing
  split
  · rename_i h
    have := isOrd_len h
    split
    · cases e : leaves l (few l 6 1) l.length [] with
      | nil => simp
      | cons y L =>
        have := leaves_len l (few l 6 1) l.length [] y (by rw [e]; simp)
        simp at this
        simp
        omega
    · simp
  · simp
theorem specFirstSharing_ev (l : List Int) (hn : l.length ≤ 17592186044415) : Ev (fun k => spec_FirstSharing.f k l) (resFirstSharing l, okFirstSharing l) := by
  unfold spec_FirstSharing.f
  refine Ev.bind (l2Order_ev l (by omega)) (Ev.ite (fun ho => ?_) (fun ho => Ev.val ?_))
  · have h := few_ok l (hasL_7 (isOrd_len ho).2) 6 1 (by omega)
    refine Ev.bind (l7Fewest_ev l ho) (Ev.ite (fun hc => Ev.val ?_) (fun hc => ?_))
    · have : ¬ few l 6 1 ≤ 4 := by omega
      simp [resFirstSharing, okFirstSharing, ho, this]
    · have : few l 6 1 ≤ 4 := by omega
      exact Ev.bind (l7Go_ev l ho (few l 6 1) (by omega) l.length [] (by simp) rfl) (Ev.val (by simp [resFirstSharing, okFirstSharing, ho, this]))
  · simp [resFirstSharing, okFirstSharing, ho]
theorem implFirstSharing_ev (l : List Int) (hn : l.length ≤ 17592186044415) : Ev (fun k => impl_FirstSharing.f k l) (resFirstSharing l, okFirstSharing l) := by
  unfold impl_FirstSharing.f
  refine Ev.bind (isOrder_ev l (by omega)) (Ev.ite (fun ho => ?_) (fun ho => Ev.val ?_))
  · have h := few_ok l (hasL_7 (isOrd_len ho).2) 6 1 (by omega)
    refine Ev.bind (fewestStacks_ev l ho) (Ev.ite (fun hc => Ev.val ?_) (fun hc => ?_))
    · have : ¬ few l 6 1 ≤ 4 := by omega
      simp [resFirstSharing, okFirstSharing, ho, this]
    · have h4 : few l 6 1 ≤ 4 := by omega
      exact Ev.bind (firstSharing_ev l ho (few l 6 1) (by omega)) (Ev.val (by simp [resFirstSharing, okFirstSharing, ho, h4, h.2.2.1]))
  · simp [resFirstSharing, okFirstSharing, ho]
theorem isStacks_is (a : Int) : impl_isStacks.f a = some (decide (1 ≤ a ∧ a ≤ 4)) := by
  unfold impl_isStacks.f
  by_cases h : a ≥ 1
  · rw [if_pos h]; simp [h]
  · rw [if_neg h]; simp; omega
def stCount (s : Int) (_d : List Int) : Int × Bool := (wrap64 (s + 1), false)
theorem runCount : ∀ (L : List (List Int)) (s : Nat), s + L.length ≤ 1000000 → (runL stCount L s).1 = ((s + L.length : Nat) : Int)
  | [], s, h => by simp [runL]
  | d :: L, s, h => by
    simp only [List.length_cons] at h
    have e : (stCount s d).1 = ((s + 1 : Nat) : Int) := wup s (by omega)
    rw [runL, if_neg (by simp [stCount]), e, runCount L (s + 1) (by omega)]
    simp only [List.length_cons]
    omega
def resCountSharings (l : List Int) (a : Int) : Int × Bool := if isOrd l = true then (if 1 ≤ a ∧ a ≤ 4 then (((leaves l a.toNat l.length []).length : Int), true) else (0, false)) else (0, false)
theorem specCountSharings_ev (l : List Int) (hn : l.length ≤ 17592186044415) (a : Int) : Ev (fun k => spec_CountSharings.f k l a) (resCountSharings l a) := by
  unfold spec_CountSharings.f resCountSharings
  refine Ev.bind (l2Order_ev l (by omega)) ?_
  by_cases ho : isOrd l = true
  · simp only [l1In_is, Option.bind_some, if_pos ho, decide_eq_true_eq]
    by_cases ha : 1 ≤ a ∧ a ≤ 4
    · rw [if_pos ha]
      obtain ⟨n, rfl⟩ : ∃ n : Nat, a = n := ⟨a.toNat, by omega⟩
      refine Ev.pos ha (Ev.bind (l7Go_ev l ho n (by omega) l.length [] (by simp) rfl) (Ev.val ?_))
      simp
    · rw [if_neg ha]
      exact Ev.neg ha (Ev.val rfl)
  · rw [if_neg ho]
    exact Ev.neg ho (Ev.val rfl)
theorem implCountSharings_ev (l : List Int) (hn : l.length ≤ 17592186044415) (a : Int) : Ev (fun k => impl_CountSharings.f k l a) (resCountSharings l a) := by
  unfold impl_CountSharings.f resCountSharings
  refine Ev.bind (isOrder_ev l (by omega)) ?_
  by_cases ho : isOrd l = true
  · have hl := isOrd_len ho
    simp only [isStacks_is, Option.bind_some, if_pos ho, decide_eq_true_eq]
    by_cases ha : 1 ≤ a ∧ a ≤ 4
    · rw [if_pos ha]
      obtain ⟨n, rfl⟩ : ∃ n : Nat, a = n := ⟨a.toNat, by omega⟩
      refine Ev.pos ha (Ev.bind (sharings_ev impl_CountSharings_1.f stCount (fun s d => Ev.val rfl) l ho n (by omega) 0) (Ev.val ?_))
      have h1 := leaves_bound l n l.length []
      have h2 := pow_small (show n ≤ 7 by omega) hl.2
      have h3 := runCount (leaves l n l.length []) 0 (by omega)
      rw [show ((0 : Nat) : Int) = 0 from rfl, Nat.zero_add] at h3
      simp [h3]
    · rw [if_neg ha]
      exact Ev.neg ha (Ev.val rfl)
  · rw [if_neg ho]
    exact Ev.neg ho (Ev.val rfl)
def bestT (F : List Int → Int) (xs : List (List Int)) : Nat → Int → List Int → Int → List Int × Int
  | 0, _, b, m => (b, m)
  | d + 1, i, b, m => if F (rowOf xs i) > m then bestT F xs d (i + 1) (rowOf xs i) (F (rowOf xs i)) else bestT F xs d (i + 1) b m
theorem rowOf_mem {xs : List (List Int)} {i : Int} (h0 : 0 ≤ i) (h : i < (xs.length : Int)) : rowOf xs i ∈ xs := by
  unfold rowOf
  rw [List.getD_eq_getElem?_getD, List.getElem?_eq_getElem (by omega)]; exact List.getElem_mem _
theorem bestL_ev (of_ : Nat → List Int → Option Int) (F : List Int → Int) (xs : List (List Int)) (hF : ∀ x ∈ xs, Ev (fun k => of_ k x) (F x)) : ∀ (d : Nat) (i : Int) (b : List Int) (m : Int), 0 ≤ i → i + (d : Int) = (xs.length : Int) → Ev (fun k => bestL (of_ k) xs d i b m) (bestT F xs d i b m)
  | 0, i, b, m, _, _ => Ev.val rfl
  | d + 1, i, b, m, h0, h => by
    unfold bestL
    rw [bestT]
    refine Ev.bind (hF _ (rowOf_mem h0 (by omega))) (Ev.ite (fun hc => ?_) (fun hc => ?_))
    · rw [if_pos hc]; exact bestL_ev of_ F xs hF d (i + 1) _ _ (by omega) (by omega)
    · rw [if_neg hc]; exact bestL_ev of_ F xs hF d (i + 1) _ _ (by omega) (by omega)
theorem bestT_start (F : List Int → Int) (xs : List (List Int)) (d : Nat) (i : Int) (b b2 : List Int) (m : Int) (h : F (rowOf xs i) > m) : bestT F xs (d + 1) i b m = bestT F xs (d + 1) i b2 m := by
  rw [bestT, bestT, if_pos h, if_pos h]
theorem l3Size_is (a : Int) : spec_l3Size.f a = some (decide (1 ≤ a ∧ a ≤ 7)) := by
  unfold spec_l3Size.f
  rw [l1In_is]; rfl
def fewI (l : List Int) : Int := ((few l 6 1 : Nat) : Int)
theorem rd_L5_nat (xs : List (List Int)) (i : Nat) : rd_L5 xs (i : Int) = xs.getD i [] := rfl
theorem getD_mem {xs : List (List Int)} {i : Nat} (h : i < xs.length) : xs.getD i [] ∈ xs := by
  rw [List.getD_eq_getElem?_getD, List.getElem?_eq_getElem h]; exact List.getElem_mem h
def cntB (kk : Nat) (ls : List (List Int)) (m : Int) : Int := ls.foldl (fun m l => if hasL l kk = true then wrap64 (m + 1) else m) m
theorem drop_stepL (l : List (List Int)) (i : Nat) (h : i < l.length) : l.drop i = l.getD i [] :: l.drop (i + 1) := by
  rw [List.getD_eq_getElem?_getD, List.getElem?_eq_getElem h]; exact List.drop_eq_getElem_cons h
theorem specCQ_l (kk : Nat) (hk1 : 1 ≤ kk) (hk : kk ≤ 4) (ls : List (List Int)) (hn : ls.length ≤ 100000) (hl : ∀ l ∈ ls, isOrd l = true) : ∀ (d i : Nat) (m : Int), ls.length = i + d → Ev (fun k => spec_CountBeside.l0 k (kk : Int) m ls (i : Int)) (cntB kk (ls.drop i) m, true)
  | 0, i, m, h => by
    refine Ev.step (fun k => by rw [spec_CountBeside.l0]) ?_
    refine Ev.neg (by omega) (Ev.val ?_)
    rw [List.drop_of_length_le (by omega)]; rfl
  | d + 1, i, m, h => by
    refine Ev.step (fun k => by rw [spec_CountBeside.l0]) ?_
    have e : wrap64 ((i : Int) + 1) = ((i + 1 : Nat) : Int) := by rw [w64 (by omega)]; omega
    simp only [e, rd_L5_nat]
    clear e
    refine Ev.pos (by omega) (Ev.pos (by omega) ?_)
    refine Ev.bind (can_ev _ (hl _ (getD_mem (by omega))) kk (by omega)) ?_
    rw [drop_stepL ls i (by omega), cntB, List.foldl_cons]
    refine Ev.ite (fun hc => ?_) (fun hc => ?_)
    · rw [if_pos hc]; exact specCQ_l kk hk1 hk ls hn hl d (i + 1) _ (by omega)
    · rw [if_neg hc]; exact specCQ_l kk hk1 hk ls hn hl d (i + 1) _ (by omega)
theorem implCQ_l (kk : Nat) (hk1 : 1 ≤ kk) (hk : kk ≤ 4) (ls : List (List Int)) (hn : ls.length ≤ 100000) (hl : ∀ l ∈ ls, isOrd l = true) : ∀ (d i : Nat) (m : Int), ls.length = i + d → Ev (fun k => impl_CountBeside.l0 k (kk : Int) m ls (ls.length : Int) (i : Int)) (cntB kk (ls.drop i) m, true)
  | 0, i, m, h => by
    refine Ev.step (fun k => by rw [impl_CountBeside.l0]) ?_
    refine Ev.neg (by omega) (Ev.val ?_)
    rw [List.drop_of_length_le (by omega)]; rfl
  | d + 1, i, m, h => by
    refine Ev.step (fun k => by rw [impl_CountBeside.l0]) ?_
    have e : wrap64 ((i : Int) + 1) = ((i + 1 : Nat) : Int) := by rw [w64 (by omega)]; omega
    simp only [e, rd_L5_nat]
    clear e
    refine Ev.pos (by omega) (Ev.pos (by omega) (Ev.pos (by omega) ?_))
    have ho := hl _ (getD_mem (show i < ls.length by omega))
    have h7 := hasL_7 (isOrd_len ho).2
    refine Ev.bind (fewestStacks_ev _ ho) ?_
    have hfl := few_le h7 kk hk1
    rw [drop_stepL ls i (by omega), cntB, List.foldl_cons]
    refine Ev.ite (fun hc => ?_) (fun hc => ?_)
    · rw [if_pos (by rw [← hfl]; simpa using hc)]; exact implCQ_l kk hk1 hk ls hn hl d (i + 1) _ (by omega)
    · rw [if_neg (by rw [← hfl]; simpa using hc)]; exact implCQ_l kk hk1 hk ls hn hl d (i + 1) _ (by omega)
theorem and_255 (E : Int) (h0 : 0 ≤ E) (h1 : E ≤ 18446744073709551615) : bits BinOp.and IntKind.u64 E 255 = E % 256 := by
  have h := bits_and_u64_nat E.toNat 255 (by omega) (by omega)
  have h3 : E.toNat &&& 255 = E.toNat % 256 := Nat.and_two_pow_sub_one_eq_mod E.toNat 8
  rw [h3, Int.toNat_of_nonneg h0] at h
  exact h.trans (by omega)
def CodeB (s : List Int) : Prop := s.length ≤ 1000000 ∧ ∀ x ∈ s, 0 ≤ x ∧ x ≤ 255
theorem u64_range (n : Int) : 0 ≤ IntKind.u64.wrap n ∧ IntKind.u64.wrap n ≤ 18446744073709551615 := by
  have h : IntKind.u64.wrap n = n % 18446744073709551616 := by simp [IntKind.wrap, IntKind.signed, IntKind.bits]
  omega
theorem next_ok {s : List Int} (hs : CodeB s) (p st : Int) (hp : 0 ≤ p ∧ p ≤ 10000000) : ∃ x st' : Int, spec_l1Cur_next.f s p st = some (x, p + 1, st') ∧ 0 ≤ x ∧ x ≤ 255 := by
  have e : wrap64 (p + 1) = p + 1 := w64 (by omega)
  have hb : ∀ n : Int, 0 ≤ wrap64 (bits .and .u64 (IntKind.u64.wrap n / 1099511627776) 255) ∧ wrap64 (bits .and .u64 (IntKind.u64.wrap n / 1099511627776) 255) ≤ 255 := fun n => by
    have h := u64_range n
    rw [and_255 _ (by omega) (by omega), w64 (by omega)]; omega
  unfold spec_l1Cur_next.f
  rw [e]
  by_cases h1 : p < (s.length : Int)
  · have hx : 0 ≤ rd s p ∧ rd s p ≤ 255 := by
      obtain ⟨i, rfl⟩ := Int.eq_ofNat_of_zero_le hp.1
      have hi : i < s.length := by omega
      rw [show rd s (i : Int) = nth s i from rfl, nth_lt s i hi]
      exact hs.2 _ (List.getElem_mem hi)
    rw [if_pos h1, if_pos hp.1, if_pos (by omega), w64 (by omega)]
    exact ⟨_, _, rfl, hx.1, hx.2⟩
  · rw [if_neg h1, if_neg (by omega)]
    exact ⟨_, _, rfl, (hb _).1, (hb _).2⟩
theorem pick_ok {s : List Int} (hs : CodeB s) (p st n : Int) (hp : 0 ≤ p ∧ p ≤ 10000000) (hn : n ≤ 200) : ∃ x p' st' : Int, spec_l1Cur_pick.f s p st n = some (x, p', st') ∧ 0 ≤ x ∧ (x < n ∨ n < 1) ∧ 0 ≤ p' ∧ p' ≤ p + 1 := by
  unfold spec_l1Cur_pick.f
  by_cases h1 : n ≤ 1
  · rw [if_pos h1]; exact ⟨0, p, st, rfl, by omega, by omega, by omega, by omega⟩
  · obtain ⟨x, st', h, hx⟩ := next_ok hs p st hp
    rw [if_neg h1, h, Option.bind_some, if_neg (by omega), if_neg (by omega)]
    refine ⟨_, _, _, rfl, Int.tmod_nonneg _ hx.1, .inl (Int.tmod_lt_of_pos _ (by omega)), by simp only []; omega, by simp only []; omega⟩
theorem among_ok {s : List Int} (hs : CodeB s) (p st : Int) (l : List Int) (hp : 0 ≤ p ∧ p ≤ 10000000) (hl : 1 ≤ l.length ∧ l.length ≤ 200) : ∃ x p' st' : Int, spec_l1Cur_among.f s p st l = some (x, p', st') ∧ x ∈ l ∧ 0 ≤ p' ∧ p' ≤ p + 1 := by
  unfold spec_l1Cur_among.f
  obtain ⟨x, p', st', h, hx, h2, h3⟩ := pick_ok hs p st (l.length : Int) hp (by omega)
  rw [h, Option.bind_some, if_pos hx, if_pos (by omega)]
  obtain ⟨i, rfl⟩ := Int.eq_ofNat_of_zero_le hx
  refine ⟨_, _, _, rfl, ?_, h3⟩
  rw [show rd l (i : Int) = nth l i from rfl, nth_lt l i (by omega)]
  exact List.getElem_mem _
theorem order_l0_ok {s : List Int} (hs : CodeB s) : ∀ (d : Nat) (o : List Int) (p st : Int), 0 ≤ p → p + d ≤ 10000000 → o.length + d ≤ 100 → ∃ (r : List Int) (p' st' : Int), spec_l1Cur_order.l0 s d o p st = some (r, p', st') ∧ r.length = o.length + d ∧ 0 ≤ p' ∧ p' ≤ p + d
  | 0, o, p, st, h0, h1, h2 => ⟨o, p, st, rfl, by simp, h0, by omega⟩
  | d + 1, o, p, st, h0, h1, h2 => by
    obtain ⟨x, p', st', h, hx, h3, h4⟩ := pick_ok hs p st ((o.length : Int) + 1) ⟨h0, by omega⟩ (by omega)
    rw [spec_l1Cur_order.l0, h, Option.bind_some, if_pos ⟨⟨hx, by simp only []; omega⟩, by omega⟩]
    have hlen : (o.take x.toNat ++ [(o.length : Int) + 1] ++ o.drop x.toNat).length = o.length + 1 := by simp; omega
    obtain ⟨r, p2, st2, g, g1, g2⟩ := order_l0_ok hs d (o.take x.toNat ++ [(o.length : Int) + 1] ++ o.drop x.toNat) p' st' h4.1 (by omega) (by omega)
    exact ⟨r, p2, st2, g, by omega, g2.1, by omega⟩
theorem order_ok {s : List Int} (hs : CodeB s) (p st : Int) (hp : 0 ≤ p ∧ p ≤ 1000) : ∃ (r : List Int) (p' st' : Int), spec_l1Cur_order.f s p st = some (r, p', st') ∧ r.length ≤ 8 ∧ 0 ≤ p' ∧ p' ≤ p + 20 := by
  unfold spec_l1Cur_order.f
  obtain ⟨n, p1, st1, h1, hn, g1⟩ := among_ok hs p st [4, 5, 3, 6, 2, 7, 1, 4] ⟨hp.1, by omega⟩ (by simp)
  have hn' : 1 ≤ n ∧ n ≤ 7 := by simp at hn; omega
  obtain ⟨o, p2, st2, h2, ho, g2⟩ := order_l0_ok hs n.toNat [] p1 st1 g1.1 (by omega) (by simp; omega)
  obtain ⟨q, p3, st3, h3, hq, g3⟩ := pick_ok hs p2 st2 40 ⟨g2.1, by omega⟩ (by omega)
  rw [h1, Option.bind_some, if_pos (by omega), h2, Option.bind_some, h3, Option.bind_some]
  simp only [List.length_nil] at ho
  by_cases q0 : q = 0
  · rw [if_pos q0]; exact ⟨_, _, _, rfl, by simp, g3.2.1, by simp only []; omega⟩
  rw [if_neg q0]
  by_cases q1 : q = 1
  · rw [if_pos q1]
    obtain ⟨k, p4, st4, h4, hk, g4⟩ := pick_ok hs p3 st3 (o.length : Int) ⟨g3.2.1, by omega⟩ (by omega)
    obtain ⟨x, p5, st5, h5, hx, g5⟩ := among_ok hs p4 st4 [0, 1, 8, -1] ⟨g4.2.1, by omega⟩ (by simp)
    rw [h4, Option.bind_some, h5, Option.bind_some, if_pos ⟨hk, by simp only []; omega⟩]
    exact ⟨_, _, _, rfl, by simp; omega, g5.1, by simp only []; omega⟩
  rw [if_neg q1]
  by_cases q2 : q = 2
  · rw [if_pos q2]; exact ⟨_, _, _, rfl, by simp, g3.2.1, by simp only []; omega⟩
  · rw [if_neg q2]; exact ⟨_, _, _, rfl, by simp only []; omega, g3.2.1, by simp only []; omega⟩
theorem hard7_ok {s : List Int} (hs : CodeB s) (p st : Int) (hp : 0 ≤ p ∧ p ≤ 100) : ∃ (r : List Int) (p' st' : Int), spec_l1Cur_hard7.f s p st = some (r, p', st') ∧ r.length ≤ 8 ∧ 0 ≤ p' ∧ p' ≤ p + 30 := by
  unfold spec_l1Cur_hard7.f spec_l1Cur_one.f
  obtain ⟨x, p1, st1, h1, _, _, g1⟩ := pick_ok hs p st 3 ⟨hp.1, by omega⟩ (by omega)
  simp only [h1, Option.bind_some]
  by_cases hx : (x == 0) = true
  · rw [if_pos hx]
    obtain ⟨i, p2, st2, h2, hi, hi2, g2⟩ := pick_ok hs p1 st1 7 ⟨g1.1, by omega⟩ (by omega)
    refine Exists.imp (fun r h_ => h_) (?_ : ∃ r p' st', (spec_l1Cur_pick.f s p1 st1 7).bind _ = some (r, p', st') ∧ _)
    rw [h2, Option.bind_some]
    simp only []
    rw [if_pos hi, if_pos (by simp only [List.length_cons, List.length_nil]; omega)]
    have : i = 0 ∨ i = 1 ∨ i = 2 ∨ i = 3 ∨ i = 4 ∨ i = 5 ∨ i = 6 := by omega
    rcases this with rfl | rfl | rfl | rfl | rfl | rfl | rfl <;> exact ⟨_, _, _, rfl, by decide, g2.1, by omega⟩
  · rw [if_neg hx]
    obtain ⟨r, p2, st2, h2, hr, g2⟩ := order_ok hs p1 st1 ⟨g1.1, by omega⟩
    rw [h2, Option.bind_some]
    exact ⟨_, _, _, rfl, hr, g2.1, by simp only []; omega⟩
theorem fewOf_ok {s : List Int} (hs : CodeB s) (p st a b c : Int) (l : List Int) (hp : 0 ≤ p ∧ p ≤ 10000) (ha : 1 ≤ a ∧ a + 2 ≤ c ∧ c ≤ 100) (hb : 8 ≤ b) (hl : 1 ≤ l.length) :
    ∃ x p' st' : Int, ((spec_l1Cur_pick.f s p st 24).bind fun t => (let m := wrap64 (a + wrap64 (Int.tdiv t.1 b)); if 0 ≤ m ∧ m ≤ c then spec_l1Cur_among.f s t.2.1 t.2.2 (l.take m.toNat) else none)) = some (x, p', st') ∧ x ∈ l ∧ 0 ≤ p' ∧ p' ≤ p + 2 := by
  obtain ⟨t, p1, st1, h1, ht, ht2, g1⟩ := pick_ok hs p st 24 ⟨hp.1, by omega⟩ (by omega)
  have hq : 0 ≤ Int.tdiv t b ∧ Int.tdiv t b ≤ 2 := by
    rw [Int.tdiv_eq_ediv_of_nonneg ht]
    refine ⟨Int.ediv_nonneg ht (by omega), ?_⟩
    have : t / b < 3 := Int.ediv_lt_of_lt_mul (by omega) (by omega)
    omega
  rw [h1, Option.bind_some]
  simp only []
  rw [w64 (n := Int.tdiv t b) (by omega), w64 (by omega), if_pos (by omega)]
  obtain ⟨x, p2, st2, h2, hx, g2⟩ := among_ok hs p1 st1 (l.take (a + Int.tdiv t b).toNat) ⟨g1.1, by omega⟩ (by rw [List.length_take]; omega)
  exact ⟨x, p2, st2, h2, List.mem_of_mem_take hx, g2.1, by omega⟩
theorem DrawCountSharings_ok {s : List Int} (hs : CodeB s) : ∃ (o : List Int) (k : Int), spec_DrawCountSharings.f s = some (o, k) ∧ o.length ≤ 8 := by
  unfold spec_DrawCountSharings.f
  obtain ⟨o, p1, st1, h1, ho, g1⟩ := hard7_ok hs 0 0 (by omega)
  obtain ⟨x, p2, st2, h2, hx, g2⟩ := fewOf_ok hs p1 st1 4 11 6 [2, 3, 1, 4, 0, 5] ⟨g1.1, by omega⟩ (by omega) (by omega) (by simp)
  rw [h1]
  exact ⟨o, x, congrArg (fun q : Option (Int × Int × Int) => q.bind fun x => some (o, x.1)) h2, ho⟩
theorem DrawHardestOrder_ok {s : List Int} (hs : CodeB s) : ∃ n : Int, spec_DrawHardestOrder.f s = some n := by
  unfold spec_DrawHardestOrder.f
  obtain ⟨x, p2, st2, h2, hx, g2⟩ := fewOf_ok hs 0 0 6 11 8 [4, 3, 5, 2, 6, 1, 0, 8] (by omega) (by omega) (by omega) (by simp)
  exact ⟨x, congrArg (fun q : Option (Int × Int × Int) => q.bind fun x => some x.1) h2⟩
theorem DrawCountBeside_ok {s : List Int} (hs : CodeB s) : ∃ n k : Int, spec_DrawCountBeside.f s = some (n, k) := by
  unfold spec_DrawCountBeside.f spec_DrawCountQueueable.f spec_l1Cur_size3.f
  obtain ⟨n, p1, st1, h1, _, g1⟩ := fewOf_ok hs 0 0 6 8 9 [4, 5, 3, 6, 2, 1, 0, 8, 7] (by omega) (by omega) (by omega) (by simp)
  obtain ⟨x, p2, st2, h2, hx, g2⟩ := fewOf_ok hs p1 st1 4 11 6 [2, 3, 1, 4, 0, 5] ⟨g1.1, by omega⟩ (by omega) (by omega) (by simp)
  refine ⟨n, x, ?_⟩
  rw [h1]
  exact congrArg (fun q : Option (Int × Int × Int) => (q.bind fun x => some (n, x.1)).bind fun b => some (b.1, b.2)) h2
theorem vCut_ok {s : List Int} (hs : CodeB s) (a : Int) (ha : 0 ≤ a ∧ a ≤ 100) : ∃ c : List Int, laws_vCut.f s a = some c ∧ c.length ≤ s.length + 1 ∧ ∀ x ∈ c, 0 ≤ x ∧ x ≤ 255 := by
  obtain ⟨hl, hs⟩ := hs
  unfold laws_vCut.f
  simp only [Option.bind_some, List.nil_append, List.length_nil, Nat.zero_add, List.length_drop]
  by_cases h : a > (s.length : Int)
  · rw [if_pos h, if_pos (by omega), if_pos (by omega), if_pos (by omega), if_pos (by omega)]
    refine ⟨_, rfl, by simp, fun x hx => ?_⟩
    rcases List.mem_append.1 hx with hx | hx
    · exact hs x (List.mem_of_mem_drop hx)
    · rw [List.mem_singleton.1 hx]; omega
  · rw [if_neg h, if_pos (by omega), if_pos (by omega), if_pos (by omega), if_pos (by omega)]
    refine ⟨_, rfl, by simp, fun x hx => ?_⟩
    rcases List.mem_append.1 hx with hx | hx
    · exact hs x (List.mem_of_mem_drop hx)
    · rw [List.mem_singleton.1 hx]; omega
def hiN : List Int → Int → Int
  | [], m => m
  | x :: t, m => hiN t (if m < x then x else m)
def stOk1 (l : List Int) (f : Nat) (a : List Int) : Bool := isShar l a && (fits l a && decide (hiN a 0 = (f : Int) - 1))
def stOk2 (l : List Int) (g : List Int) : Bool := isShar l g && (fits l g && (decide (0 < g.length) && decide (nth g 0 = 0)))
def stOk (l : List Int) : Bool := (!decide (few l 6 1 ≤ 4) || stOk1 l (few l 6 1) ((leaves l (few l 6 1) l.length []).headD [])) && (!(greedy l l.length []).2 || stOk2 l (greedy l l.length []).1)
end Go.Proofs.Ytmgekfoiamjijaa.Pure
