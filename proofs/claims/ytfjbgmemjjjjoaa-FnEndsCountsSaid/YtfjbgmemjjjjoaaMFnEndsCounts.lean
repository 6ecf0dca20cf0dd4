/- Outputs are as many for each order, those that are new are the others, and a queue leaves orders as they are. -/
import Derived.Test.YtfjbgmemjjjjoaaPFnEndsCountsx0
import Derived.Test.YtfjbgmemjjjjoaaPFnEndsCountsx1
import Derived.Test.YtfjbgmemjjjjoaaPFnEndsCountsx2
import Derived.Test.YtfjbgmemjjjjoaaPFnEndsCountsx3
import Derived.Test.YtfjbgmemjjjjoaaPFnEndsCountsx4
import Derived.Test.YtfjbgmemjjjjoaaPFnEndsCountsx5
import Derived.Test.YtfjbgmemjjjjoaaPFnEndsCountsx6
import Derived.Test.YtfjbgmemjjjjoaaPFnEndsCountsx7
import Derived.Test.YtfjbgmemjjjjoaaPFnEndsCountsx8
import Derived.Test.YtfjbgmemjjjjoaaPFnEndsCountsx9
import Derived.Test.YtfjbgmemjjjjoaaPFnEndsCountsx10
import Derived.Test.YtfjbgmemjjjjoaaPFnEndsCountsx11
import Derived.Test.YtfjbgmemjjjjoaaPFnEndsCountsx12
import Derived.Test.YtfjbgmemjjjjoaaPFnEndsCountsx13
import Derived.Test.YtfjbgmemjjjjoaaPFnEndsCountsx14
import Derived.Test.YtfjbgmemjjjjoaaPFnEndsCountsx15
import Derived.Test.YtfjbgmemjjjjoaaPFnEndsCountsx16
import Derived.Test.YtfjbgmemjjjjoaaPFnEndsCountsx17
import Derived.Test.YtfjbgmemjjjjoaaPFnEndsCountsx18
import Derived.Test.YtfjbgmemjjjjoaaPFnEndsCountsx19
import Derived.Test.YtfjbgmemjjjjoaaPFnEndsCountsx20
import Derived.Test.YtfjbgmemjjjjoaaPFnEndsCountsx21
import Derived.Test.YtfjbgmemjjjjoaaPFnEndsCountsx22
import Derived.WalkSmall
import Derived.Test.YtfjbgmemjjjjoaaK
set_option linter.unusedVariables false
set_option linter.unusedSimpArgs false
namespace Go.Proofs.Ytfjbgmemjjjjoaa.Pure
open Go.RowKit Go.Proofs.Ytfjbgmemjjjjoaa.PFnEndsCounts Go.Proofs.YtfjbgmemjjjjoaaW.PrintWords Go.Proofs.YtfjbgmemjjjjoaaW.PrintLast Go.Proofs.YtfjbgmemjjjjoaaW.PrintMore
theorem l1In_is (a b c : Int) : spec_l1In.f a b c = some (decide (b ≤ a ∧ a ≤ c)) := by
  unfold spec_l1In.f
  by_cases h : a ≥ b
  · rw [if_pos h]; simp [h]
  · rw [if_neg h]; simp; omega
theorem l1Has_l (l : List Int) (x : Int) (hn : l.length ≤ 17592186044416) : ∀ (d i : Nat), l.length = i + d → Ev (fun k => spec_l1Has.l0 k l x i) ((l.drop i).contains x)
  | 0, i, h => by
    refine Ev.step (fun k => by rw [spec_l1Has.l0]) ?_
    refine Ev.neg (by omega) (Ev.val ?_)
    rw [List.drop_of_length_le (by omega)]
    simp
  | d + 1, i, h => by
    refine Ev.step (fun k => by rw [spec_l1Has.l0]) ?_
    have e : wrap64 ((i : Int) + 1) = ((i + 1 : Nat) : Int) := by rw [w64 (by omega)]; omega
    simp only [e]
    rw [drop_step l i (by omega)]
    refine Ev.pos (by omega) (Ev.pos (by omega) (Ev.ite (fun hc => Ev.val ?_) (fun hc => ?_)))
    · have hc' : nth l i = x := hc
      rw [hc']; simp
    · have hc' : ¬ nth l i = x := hc
      refine (l1Has_l l x hn d (i + 1) (by omega)).to ?_
      have : ¬ x = nth l i := fun h => hc' h.symm
      rw [List.contains_cons]
      simp [this]
theorem l1Has_ev (l : List Int) (x : Int) (hn : l.length ≤ 17592186044416) : Ev (fun k => spec_l1Has.f k l x) (l.contains x) := by
  unfold spec_l1Has.f
  exact (l1Has_l l x hn l.length 0 (by omega)).to (by simp)
theorem l2Order_l (l : List Int) (hn : l.length ≤ 17592186044416) : ∀ (d i : Nat), l.length = i + d → Ev (fun k => spec_l2Order.l0 k l i) (allFrom (ordAt l) d i)
  | 0, i, h => by
    refine Ev.step (fun k => by rw [spec_l2Order.l0]) ?_
    exact Ev.neg (by omega) (Ev.val rfl)
  | d + 1, i, h => by
    refine Ev.step (fun k => by rw [spec_l2Order.l0]) ?_
    have e : wrap64 ((i : Int) + 1) = ((i + 1 : Nat) : Int) := by rw [w64 (by omega)]; omega
    simp only [e, l1In_is, Option.bind_some, rd_nat, Int.toNat_natCast, decide_eq_true_eq]
    refine Ev.pos (by omega) (Ev.pos (by omega) (Ev.ite (fun hc => Ev.pos (by omega) ?_) (fun hc => Ev.val ?_)))
    · refine Ev.bind (l1Has_ev _ _ (by simp; omega)) ?_
      refine Ev.ite (fun hb => Ev.val ?_) (fun hb => (l2Order_l l hn d (i + 1) (by omega)).to ?_)
      · rw [allFrom, ordAt, hb]; simp
      · rw [Bool.not_eq_true] at hb
        rw [allFrom, ordAt, hb]; simp [hc]
    · rw [allFrom, ordAt]
      by_cases h1 : 1 ≤ nth l i
      · have : ¬ nth l i ≤ l.length := fun h2 => hc ⟨h1, h2⟩
        simp [this]
      · simp [h1]
theorem l2Order_ev (l : List Int) (hn : l.length ≤ 17592186044416) : Ev (fun k => spec_l2Order.f k l) (isOrd l) := by
  unfold spec_l2Order.f
  simp only [l1In_is, Option.bind_some, decide_eq_true_eq]
  refine Ev.ite (fun hc => (l2Order_l l hn l.length 0 (by omega)).to ?_) (fun hc => Ev.val ?_)
  · have h1 : 1 ≤ l.length := by omega
    have h2 : l.length ≤ 7 := by omega
    simp [isOrd, h1, h2]
  · rw [isOrd]
    by_cases h1 : 1 ≤ l.length
    · have : ¬ l.length ≤ 7 := by omega
      simp [this]
    · simp [h1]
theorem Index_l (l : List Int) (x : Int) (hn : l.length ≤ 17592186044416) : ∀ (d i : Nat), l.length = i + d → (∀ j, j < i → nth l j ≠ x) → Ev (fun k => slices_Index_int_int.l0 k l x (l.length : Int) i) (idx l x)
  | 0, i, h, hq => by
    refine Ev.step (fun k => by rw [slices_Index_int_int.l0]) ?_
    refine Ev.neg (by omega) (Ev.val ?_)
    exact (idx_none l x fun j hj => hq j (by omega)).symm
  | d + 1, i, h, hq => by
    refine Ev.step (fun k => by rw [slices_Index_int_int.l0]) ?_
    have e : wrap64 ((i : Int) + 1) = ((i + 1 : Nat) : Int) := by rw [w64 (by omega)]; omega
    simp only [e]
    refine Ev.pos (by omega) (Ev.pos (by omega) (Ev.pos (by omega) (Ev.ite (fun hc => Ev.val ?_) (fun hc => ?_))))
    · exact (idx_some l x i (by omega) (by rw [hc]; rfl) hq).symm
    · refine Index_l l x hn d (i + 1) (by omega) (fun j hj => ?_)
      by_cases e : j = i
      · subst e; exact fun h => hc h.symm
      · exact hq j (by omega)
theorem Index_ev (l : List Int) (x : Int) (hn : l.length ≤ 17592186044416) : Ev (fun k => slices_Index_int_int.f k l x) (idx l x) := by
  unfold slices_Index_int_int.f
  exact Index_l l x hn l.length 0 (by omega) (fun j hj => by omega)
theorem Contains_ev (l : List Int) (x : Int) (hn : l.length ≤ 17592186044416) : Ev (fun k => slices_Contains_int_int.f k l x) (l.contains x) := by
  unfold slices_Contains_int_int.f
  exact Ev.bind (Index_ev l x hn) (Ev.val (idx_contains l x))
theorem isOrder_l (l : List Int) (hn : l.length ≤ 17592186044416) : ∀ (d i : Nat), l.length = i + d → Ev (fun k => impl_isOrder.l0 k l l (l.length : Int) i) (allFrom (ordAt l) d i)
  | 0, i, h => by
    refine Ev.step (fun k => by rw [impl_isOrder.l0]) ?_
    exact Ev.neg (by omega) (Ev.val rfl)
  | d + 1, i, h => by
    refine Ev.step (fun k => by rw [impl_isOrder.l0]) ?_
    have e : wrap64 ((i : Int) + 1) = ((i + 1 : Nat) : Int) := by rw [w64 (by omega)]; omega
    simp only [e, rd_nat, Int.toNat_natCast]
    refine Ev.pos (by omega) (Ev.pos (by omega) (Ev.pos (by omega) (Ev.ite (fun hc => Ev.val ?_) (fun hc => Ev.ite (fun hd => Ev.val ?_) (fun hd => Ev.pos (by omega) ?_)))))
    · have : ¬ 1 ≤ nth l i := by omega
      rw [allFrom, ordAt]; simp [this]
    · have : ¬ nth l i ≤ l.length := by omega
      rw [allFrom, ordAt]; simp [this]
    · refine Ev.bind (Contains_ev _ _ (by simp; omega)) ?_
      refine Ev.ite (fun hb => Ev.val ?_) (fun hb => (isOrder_l l hn d (i + 1) (by omega)).to ?_)
      · rw [allFrom, ordAt, hb]; simp
      · rw [Bool.not_eq_true] at hb
        have h1 : 1 ≤ nth l i := by omega
        have h2 : nth l i ≤ l.length := by omega
        rw [allFrom, ordAt, hb]; simp [h1, h2]
theorem isOrder_ev (l : List Int) (hn : l.length ≤ 17592186044416) : Ev (fun k => impl_isOrder.f k l) (isOrd l) := by
  unfold impl_isOrder.f
  refine Ev.ite (fun hc => ?_) (fun hc => ?_)
  · refine Ev.step (fun k => by rw [impl_isOrder.j0]) ?_
    refine Ev.pos rfl (Ev.val ?_)
    have : ¬ 1 ≤ l.length := by omega
    simp [isOrd, this]
  · refine Ev.step (fun k => by rw [impl_isOrder.j0]) ?_
    simp only [decide_eq_true_eq]
    refine Ev.ite (fun hd => Ev.val ?_) (fun hd => (isOrder_l l hn l.length 0 (by omega)).to ?_)
    · have : ¬ l.length ≤ 7 := by omega
      simp [isOrd, this]
    · have h1 : 1 ≤ l.length := by omega
      have h2 : l.length ≤ 7 := by omega
      simp [isOrd, h1, h2]
theorem isSize_is (a : Int) : impl_isSize.f a = some (decide (1 ≤ a ∧ a ≤ 7)) := by
  unfold impl_isSize.f
  by_cases h : a ≥ 1
  · rw [if_pos h]; simp [h]
  · rw [if_neg h]; simp; omega
def allO (ns : List Int) (p : List Int → Bool) : Nat → List Int → Bool
  | 0, q => p q
  | d + 1, q => ns.all fun c => q.contains c || allO ns p d (c :: q)
theorem isOrd_drop {l : List Int} (h : isOrd l = true) (i : Nat) (hi : i < l.length) : nth l i ∉ l.drop (i + 1) := by
  intro hm
  obtain ⟨j, hj, e⟩ := List.mem_iff_getElem.1 hm
  rw [List.getElem_drop] at e
  simp only [List.length_drop] at hj
  refine (isOrd_at h (i + 1 + j) (by omega)).2.2 ?_
  rw [nth_lt l (i + 1 + j) (by omega), e, nth_lt l i hi, List.mem_take_iff_getElem]
  exact ⟨i, by omega, rfl⟩
theorem allO_mem {l : List Int} (h : isOrd l = true) (ns : List Int) (hns : ∀ x : Int, 1 ≤ x → x ≤ l.length → x ∈ ns) (p : List Int → Bool) : ∀ i, i ≤ l.length → allO ns p i (l.drop i) = true → p l = true
  | 0, _, hp => by simpa [allO] using hp
  | i + 1, hi, hp => by
    rw [allO, List.all_eq_true] at hp
    have ha := isOrd_at h i (by omega)
    have h1 := hp (nth l i) (hns _ ha.1 ha.2.1)
    have h2 : (l.drop (i + 1)).contains (nth l i) = false := by
      have := isOrd_drop h i (by omega)
      simpa using this
    rw [h2, Bool.false_or, ← drop_step l i (by omega)] at h1
    exact allO_mem h ns hns p i (by omega) h1
def intsTo (n : Nat) : List Int := ([1, 2, 3, 4, 5, 6, 7] : List Int).take n
theorem intsTo_mem : ∀ n : Nat, n ≤ 7 → ∀ x : Int, 1 ≤ x → x ≤ n → x ∈ intsTo n := by
  intro n hn x h1 h2
  have hx : x = 1 ∨ x = 2 ∨ x = 3 ∨ x = 4 ∨ x = 5 ∨ x = 6 ∨ x = 7 := by omega
  have hn' : n = 0 ∨ n = 1 ∨ n = 2 ∨ n = 3 ∨ n = 4 ∨ n = 5 ∨ n = 6 ∨ n = 7 := by omega
  rcases hn' with rfl | rfl | rfl | rfl | rfl | rfl | rfl | rfl <;> rcases hx with rfl | rfl | rfl | rfl | rfl | rfl | rfl <;> first | (exfalso; omega) | simp [intsTo]
theorem orders_all {l : List Int} (h : isOrd l = true) (p : List Int → Bool) (hp : ∀ n ∈ [1, 2, 3, 4, 5, 6, 7], allO (intsTo n) p n [] = true) : p l = true := by
  have hl := isOrd_len h
  have hm : l.length ∈ [1, 2, 3, 4, 5, 6, 7] := by
    have : l.length = 1 ∨ l.length = 2 ∨ l.length = 3 ∨ l.length = 4 ∨ l.length = 5 ∨ l.length = 6 ∨ l.length = 7 := by omega
    simp [this]
  refine allO_mem h (intsTo l.length) (fun x h1 h2 => intsTo_mem l.length hl.2 x h1 h2) p l.length (Nat.le_refl _) ?_
  rw [List.drop_length]
  exact hp _ hm
theorem isOrd_of {l : List Int} (h1 : 1 ≤ l.length) (h2 : l.length ≤ 7) (hd : l.Nodup) (hm : ∀ x ∈ l, 1 ≤ x ∧ x ≤ l.length) : isOrd l = true := by
  simp only [isOrd, Bool.and_eq_true, decide_eq_true_eq]
  refine ⟨h1, h2, (allFrom_iff _ _ _).2 fun j _ hj => ?_⟩
  have hj' : j < l.length := by omega
  have := hm (nth l j) (by rw [nth_lt _ _ hj']; exact List.getElem_mem hj')
  have hn : nth l j ∉ l.take j := by
    intro hc
    obtain ⟨i, hi, e⟩ := List.mem_take_iff_getElem.1 hc
    rw [nth_lt _ _ hj'] at e
    have := (List.getElem_inj hd).1 e
    omega
  simp [ordAt, this.1, this.2, hn]
theorem isOrd_nodup {l : List Int} (h : isOrd l = true) : l.Nodup := by
  refine List.pairwise_iff_getElem.2 fun i j hi hj hij e => (isOrd_at h j hj).2.2 ?_
  rw [nth_lt _ _ hj, ← e]
  exact List.mem_take_iff_getElem.2 ⟨i, by omega, rfl⟩
theorem isOrd_all_ : ∀ n ∈ [1, 2, 3, 4, 5, 6, 7], allO (intsTo n) (fun l => (intsTo l.length).all fun x => l.contains x) n [] = true := by decide +kernel
theorem isOrd_all {l : List Int} (h : isOrd l = true) (x : Int) (h1 : 1 ≤ x) (h2 : x ≤ l.length) : x ∈ l := by
  have := orders_all h _ isOrd_all_
  rw [List.all_eq_true] at this
  simpa using this x (intsTo_mem l.length (isOrd_len h).2 x h1 h2)
theorem isOrd_mem {l : List Int} (h : isOrd l = true) (x : Int) (hx : x ∈ l) : 1 ≤ x ∧ x ≤ l.length := by
  obtain ⟨i, hi, e⟩ := List.mem_iff_getElem.1 hx
  have := isOrd_at h i hi
  rw [nth_lt _ _ hi, e] at this
  exact ⟨this.1, this.2.1⟩
theorem nodup_nth {l : List Int} (h : l.Nodup) (i j : Nat) (hi : i < l.length) (hj : j < l.length) (e : nth l i = nth l j) : i = j := by
  rw [nth_lt _ _ hi, nth_lt _ _ hj] at e
  exact (List.getElem_inj h).1 e
theorem idx_mem {l : List Int} {x : Int} (h : x ∈ l) : ∃ i : Nat, i < l.length ∧ idx l x = i ∧ nth l i = x := by
  induction l with
  | nil => cases h
  | cons y l ih =>
    by_cases e : y = x
    · exact ⟨0, by simp, by simp [idx, e], by simp [nth, e]⟩
    · have hm : x ∈ l := by
        rcases List.mem_cons.1 h with h | h
        · exact absurd h.symm e
        · exact h
      obtain ⟨i, h1, h2, h3⟩ := ih hm
      refine ⟨i + 1, by simpa using h1, ?_, by rw [nth_cons_succ]; exact h3⟩
      rw [idx, if_neg e, h2, if_neg (by omega)]
      omega
def facN (n : Nat) : Nat := [1, 1, 2, 6, 24, 120, 720, 5040].getD n 1
theorem facN_pos (n : Nat) : 0 < facN n := by
  rcases Nat.lt_or_ge n 8 with h | h
  · have : n = 0 ∨ n = 1 ∨ n = 2 ∨ n = 3 ∨ n = 4 ∨ n = 5 ∨ n = 6 ∨ n = 7 := by omega
    rcases this with rfl | rfl | rfl | rfl | rfl | rfl | rfl | rfl <;> decide
  · unfold facN
    rw [List.getD_eq_getElem?_getD, List.getElem?_eq_none (by simpa using h)]
    decide
theorem facN_le (n : Nat) : facN n ≤ 5040 := by
  rcases Nat.lt_or_ge n 8 with h | h
  · have : n = 0 ∨ n = 1 ∨ n = 2 ∨ n = 3 ∨ n = 4 ∨ n = 5 ∨ n = 6 ∨ n = 7 := by omega
    rcases this with rfl | rfl | rfl | rfl | rfl | rfl | rfl | rfl <;> decide
  · unfold facN
    rw [List.getD_eq_getElem?_getD, List.getElem?_eq_none (by simpa using h)]
    decide
theorem facN_succ (n : Nat) (h : n ≤ 6) : facN (n + 1) = (n + 1) * facN n := by
  have : n = 0 ∨ n = 1 ∨ n = 2 ∨ n = 3 ∨ n = 4 ∨ n = 5 ∨ n = 6 := by omega
  rcases this with rfl | rfl | rfl | rfl | rfl | rfl | rfl <;> decide
def atM : Nat → List Int → Nat → List Int
  | 0, _, _ => []
  | d + 1, left, k => nth left (k / facN d) :: atM d (left.take (k / facN d) ++ left.drop (k / facN d + 1)) (k % facN d)
theorem atM_length : ∀ (d : Nat) (left : List Int) (k : Nat), (atM d left k).length = d
  | 0, _, _ => rfl
  | d + 1, left, k => by rw [atM, List.length_cons, atM_length d]
def ordsM (n : Nat) : List (List Int) := (List.range (facN n)).map fun k => atM n (marked 1 n) k
theorem ordsM_length (n : Nat) : (ordsM n).length = facN n := by simp [ordsM]
theorem ordsM_len (n : Nat) (l : List Int) (h : l ∈ ordsM n) : l.length = n := by
  obtain ⟨k, _, rfl⟩ := List.mem_map.1 h
  exact atM_length n _ k
theorem tdiv_nat (a b : Nat) : Int.tdiv (a : Int) (b : Int) = ((a / b : Nat) : Int) := (Int.ofNat_tdiv a b).symm
theorem tmod_nat (a b : Nat) : Int.tmod (a : Int) (b : Int) = ((a % b : Nat) : Int) := (Int.ofNat_tmod a b).symm
theorem div_lt_of (d k : Nat) (hd : d ≤ 6) (h : k < facN (d + 1)) : k / facN d < d + 1 := by
  rw [Nat.div_lt_iff_lt_mul (facN_pos d), ← facN_succ d hd]
  exact h
theorem l1Own_is (l : List Int) (h : l.length < 17592186044416) : spec_l1Own.f l = some l := by
  unfold spec_l1Own.f
  simp [h]
theorem l2Sorted_l (n : Nat) (hn : n ≤ 1000) : ∀ d i : Nat, n = i + d → Ev (fun k => spec_l2Sorted.l0 k n (marked 1 i) ((i : Int) + 1)) (marked 1 n)
  | 0, i, h => by
    refine Ev.step (fun k => by rw [spec_l2Sorted.l0]) (Ev.neg (by omega) (Ev.val ?_))
    rw [h, Nat.add_zero]
  | d + 1, i, h => by
    refine Ev.step (fun k => by rw [spec_l2Sorted.l0]) ?_
    have e : wrap64 ((i : Int) + 1 + 1) = ((i + 1 : Nat) : Int) + 1 := by rw [w64 (by omega)]; omega
    have e2 : marked 1 i ++ [(i : Int) + 1] = marked 1 (i + 1) := by rw [marked_snoc]; congr 2; omega
    simp only [e, e2]
    exact Ev.pos (by omega) (Ev.pos (by rw [marked_length]; omega) (l2Sorted_l n hn d (i + 1) (by omega)))
theorem l2Sorted_ev (n : Nat) (hn : n ≤ 1000) : Ev (fun k => spec_l2Sorted.f k n) (marked 1 n) := l2Sorted_l n hn n 0 (by omega)
theorem sorted_l (n : Nat) (hn : n ≤ 1000) : ∀ d i : Nat, n = i + d → Ev (fun k => impl_sorted.l0 k (marked 1 i) n i) (marked 1 n)
  | 0, i, h => by
    refine Ev.step (fun k => by rw [impl_sorted.l0]) (Ev.neg (by omega) (Ev.val ?_))
    rw [h, Nat.add_zero]
  | d + 1, i, h => by
    refine Ev.step (fun k => by rw [impl_sorted.l0]) ?_
    have e : wrap64 ((i : Int) + 1) = ((i + 1 : Nat) : Int) := by rw [w64 (by omega)]; omega
    have e2 : marked 1 i ++ [((i + 1 : Nat) : Int)] = marked 1 (i + 1) := by rw [marked_snoc]; congr 2; omega
    simp only [e, e2]
    exact Ev.pos (by omega) (Ev.pos (by rw [marked_length]; omega) (sorted_l n hn d (i + 1) (by omega)))
theorem sorted_ev (n : Nat) (hn : n ≤ 1000) : Ev (fun k => impl_sorted.f k n) (marked 1 n) := sorted_l n hn n 0 (by omega)
theorem l2Ways_ev (n : Nat) (h : n ≤ 7) : Ev (fun k => spec_l2Ways.f k (n : Int)) (facN n : Int) := by
  have : n = 0 ∨ n = 1 ∨ n = 2 ∨ n = 3 ∨ n = 4 ∨ n = 5 ∨ n = 6 ∨ n = 7 := by omega
  rcases this with rfl | rfl | rfl | rfl | rfl | rfl | rfl | rfl <;> exact Ev.of (fun k => spec_l2Ways.mono _ k) (k := 10) (by decide +kernel)
theorem l2At_l : ∀ (d : Nat) (left acc : List Int) (k : Nat), left.length = d → d ≤ 7 → acc.length + d ≤ 100 → k < facN d → Ev (fun q => spec_l2At.l0 q (k : Int) acc left) (acc ++ atM d left k)
  | 0, left, acc, k, hl, hd, ha, hk => by
    refine Ev.step (fun q => by rw [spec_l2At.l0]) (Ev.neg (by omega) (Ev.val ?_))
    rw [atM, List.append_nil]
  | d + 1, left, acc, k, hl, hd, ha, hk => by
    refine Ev.step (fun q => by rw [spec_l2At.l0]) (Ev.pos (by omega) ?_)
    have e1 : wrap64 ((left.length : Int) - 1) = (d : Int) := by rw [w64 (by omega)]; omega
    rw [e1]
    clear e1
    refine Ev.bind (l2Ways_ev d (by omega)) (Ev.neg (by have := facN_pos d; omega) ?_)
    have hq := div_lt_of d k (by omega) hk
    have h5 := facN_le (d + 1)
    have e2 : wrap64 (Int.tdiv (k : Int) (facN d : Int)) = ((k / facN d : Nat) : Int) := by rw [tdiv_nat]; exact w64n _ (by have := Nat.div_le_self k (facN d); omega)
    have hmod := Nat.mod_lt k (facN_pos d)
    simp only [e2, tmod_nat]
    rw [atM]
    clear e2 hk
    generalize k / facN d = qq at hq ⊢
    generalize k % facN d = k2 at hmod ⊢
    have e3 : wrap64 ((qq : Int) + 1) = ((qq + 1 : Nat) : Int) := by rw [w64 (by omega)]; omega
    simp only [e3, Int.toNat_natCast, rd_nat]
    clear e3
    refine Ev.pos (by omega) (Ev.pos (by omega) (Ev.pos (by omega) (Ev.pos (by omega) ?_)))
    have h1 : (left.take qq).length < 17592186044416 := by rw [List.length_take]; omega
    simp only [l1Own_is _ h1, Option.bind_some]
    refine Ev.pos (by omega) (Ev.pos (by omega) (Ev.pos (by rw [List.length_take, List.length_drop]; omega) ?_))
    refine Ev.to (l2At_l d _ _ k2 (by rw [List.length_append, List.length_take, List.length_drop]; omega) (by omega) (by rw [List.length_append, List.length_singleton]; omega) hmod) ?_
    rw [List.append_assoc]; rfl
theorem l2At_ev (n k : Nat) (hn : n ≤ 7) (hk : k < facN n) : Ev (fun q => spec_l2At.f q (n : Int) (k : Int)) (atM n (marked 1 n) k) := by
  unfold spec_l2At.f
  exact Ev.bind (l2Sorted_ev n (by omega)) (Ev.to (l2At_l n _ [] k (marked_length n 1) hn (by simp; omega) hk) (List.nil_append _))
theorem l2Orders_l (n : Nat) (hn : n ≤ 7) : ∀ (d i : Nat), facN n = i + d → Ev (fun q => spec_l2Orders.l0 q (n : Int) ((List.range i).map fun k => atM n (marked 1 n) k) (i : Int)) (ordsM n)
  | 0, i, h => by
    refine Ev.step (fun q => by rw [spec_l2Orders.l0]) ?_
    refine Ev.bind (l2Ways_ev n hn) ?_
    refine Ev.neg (by omega) (Ev.val ?_)
    rw [ordsM, h, Nat.add_zero]
  | d + 1, i, h => by
    have h5 := facN_le n
    refine Ev.step (fun q => by rw [spec_l2Orders.l0]) ?_
    refine Ev.bind (l2Ways_ev n hn) ?_
    refine Ev.pos (by omega) ?_
    refine Ev.bind (l2At_ev n i hn (by omega)) ?_
    refine Ev.pos (by rw [List.length_map, List.length_range]; omega) ?_
    have e : wrap64 ((i : Int) + 1) = ((i + 1 : Nat) : Int) := by rw [w64 (by omega)]; omega
    have e2 : ((List.range i).map fun k => atM n (marked 1 n) k) ++ [atM n (marked 1 n) i] = (List.range (i + 1)).map fun k => atM n (marked 1 n) k := by rw [List.range_succ, List.map_append]; rfl
    simp only [e, e2]
    exact l2Orders_l n hn d (i + 1) (by omega)
theorem l2Orders_ev (n : Nat) (hn : n ≤ 7) : Ev (fun q => spec_l2Orders.f q (n : Int)) (ordsM n) := by
  unfold spec_l2Orders.f
  exact l2Orders_l n hn (facN n) 0 (by omega)
theorem factorial_ev (n : Nat) (h : n ≤ 7) : Ev (fun k => impl_factorial.f k (n : Int)) (facN n : Int) := by
  have : n = 0 ∨ n = 1 ∨ n = 2 ∨ n = 3 ∨ n = 4 ∨ n = 5 ∨ n = 6 ∨ n = 7 := by omega
  rcases this with rfl | rfl | rfl | rfl | rfl | rfl | rfl | rfl <;> exact Ev.of (fun k => impl_factorial.mono _ k) (k := 10) (by decide +kernel)
theorem orderAt_l : ∀ (d : Nat) (left acc : List Int) (k : Nat), left.length = d → d ≤ 7 → acc.length + d ≤ 100 → k < facN d → Ev (fun q => impl_orderAt.l0 q (k : Int) left acc) (acc ++ atM d left k)
  | 0, left, acc, k, hl, hd, ha, hk => by
    refine Ev.step (fun q => by rw [impl_orderAt.l0]) (Ev.neg (by omega) (Ev.val ?_))
    rw [atM, List.append_nil]
  | d + 1, left, acc, k, hl, hd, ha, hk => by
    refine Ev.step (fun q => by rw [impl_orderAt.l0]) (Ev.pos (by omega) ?_)
    have e1 : wrap64 ((left.length : Int) - 1) = (d : Int) := by rw [w64 (by omega)]; omega
    rw [e1]
    clear e1
    refine Ev.bind (factorial_ev d (by omega)) (Ev.neg (by have := facN_pos d; omega) ?_)
    have hq := div_lt_of d k (by omega) hk
    have h5 := facN_le (d + 1)
    have e2 : wrap64 (Int.tdiv (k : Int) (facN d : Int)) = ((k / facN d : Nat) : Int) := by rw [tdiv_nat]; exact w64n _ (by have := Nat.div_le_self k (facN d); omega)
    have hmod := Nat.mod_lt k (facN_pos d)
    simp only [e2, tmod_nat]
    rw [atM]
    clear e2 hk
    generalize k / facN d = qq at hq ⊢
    generalize k % facN d = k2 at hmod ⊢
    have e3 : wrap64 ((qq : Int) + 1) = ((qq + 1 : Nat) : Int) := by rw [w64 (by omega)]; omega
    simp only [e3, rd_nat]
    clear e3
    have hdel : slices_Delete_int_int.f left (qq : Int) ((qq + 1 : Nat) : Int) = some (left.take qq ++ left.drop (qq + 1)) := by
      unfold slices_Delete_int_int.f
      rw [if_pos (by omega), Int.toNat_natCast, Int.toNat_natCast]
    refine Ev.pos (by omega) (Ev.pos (by omega) (Ev.pos (by omega) ?_))
    simp only [hdel, Option.bind_some]
    refine Ev.to (orderAt_l d _ _ k2 (by rw [List.length_append, List.length_take, List.length_drop]; omega) (by omega) (by rw [List.length_append, List.length_singleton]; omega) hmod) ?_
    rw [List.append_assoc]; rfl
theorem orderAt_ev (n k : Nat) (hn : n ≤ 7) (hk : k < facN n) : Ev (fun q => impl_orderAt.f q (n : Int) (k : Int)) (atM n (marked 1 n) k) := by
  unfold impl_orderAt.f
  exact Ev.bind (sorted_ev n (by omega)) (Ev.to (orderAt_l n _ [] k (marked_length n 1) hn (by simp; omega) hk) (List.nil_append _))
theorem allOrders_l (n : Nat) (hn : n ≤ 7) : ∀ (d i : Nat), facN n = i + d → Ev (fun q => impl_allOrders.l0 q (n : Int) ((List.range i).map fun k => atM n (marked 1 n) k) (facN n : Int) (i : Int)) (ordsM n)
  | 0, i, h => by
    refine Ev.step (fun q => by rw [impl_allOrders.l0]) (Ev.neg (by omega) (Ev.val ?_))
    rw [ordsM, h, Nat.add_zero]
  | d + 1, i, h => by
    have h5 := facN_le n
    refine Ev.step (fun q => by rw [impl_allOrders.l0]) ?_
    refine Ev.pos (by omega) ?_
    refine Ev.bind (orderAt_ev n i hn (by omega)) ?_
    refine Ev.pos (by rw [List.length_map, List.length_range]; omega) ?_
    have e : wrap64 ((i : Int) + 1) = ((i + 1 : Nat) : Int) := by rw [w64 (by omega)]; omega
    have e2 : ((List.range i).map fun k => atM n (marked 1 n) k) ++ [atM n (marked 1 n) i] = (List.range (i + 1)).map fun k => atM n (marked 1 n) k := by rw [List.range_succ, List.map_append]; rfl
    simp only [e, e2]
    exact allOrders_l n hn d (i + 1) (by omega)
theorem allOrders_ev (n : Nat) (hn : n ≤ 7) : Ev (fun q => impl_allOrders.f q (n : Int)) (ordsM n) := by
  unfold impl_allOrders.f
  exact Ev.bind (factorial_ev n hn) (allOrders_l n hn (facN n) 0 (by omega))
theorem atM_mem : ∀ (d : Nat) (left : List Int) (k : Nat), left.length = d → d ≤ 7 → k < facN d → (∀ x ∈ atM d left k, x ∈ left) ∧ (left.Nodup → (atM d left k).Nodup)
  | 0, left, k, _, _, _ => ⟨fun x hx => by simp [atM] at hx, fun _ => by simp [atM]⟩
  | d + 1, left, k, hl, hd, hk => by
    have hq := div_lt_of d k (by omega) hk
    have hmod := Nat.mod_lt k (facN_pos d)
    rw [atM]
    generalize k / facN d = q at hq ⊢
    have ih := atM_mem d (left.take q ++ left.drop (q + 1)) (k % facN d) (by rw [List.length_append, List.length_take, List.length_drop]; omega) (by omega) hmod
    have hsub : ∀ x ∈ left.take q ++ left.drop (q + 1), x ∈ left := fun x hx => by
      rcases List.mem_append.1 hx with hx | hx
      · exact List.mem_of_mem_take hx
      · exact List.mem_of_mem_drop hx
    refine ⟨fun x hx => ?_, fun hn => ?_⟩
    · rcases List.mem_cons.1 hx with rfl | hx
      · rw [nth_lt _ _ (by omega)]; exact List.getElem_mem _
      · exact hsub x (ih.1 x hx)
    · have e : left = left.take q ++ nth left q :: left.drop (q + 1) := by
        rw [← drop_step left q (by omega), List.take_append_drop]
      have hn2 := hn
      rw [e, List.nodup_append] at hn2
      obtain ⟨n1, n2, n3⟩ := hn2
      rw [List.nodup_cons] at n2 ⊢
      refine ⟨fun hc => ?_, ih.2 ?_⟩
      · rcases List.mem_append.1 (ih.1 _ hc) with hc | hc
        · exact n3 _ hc _ (by simp) rfl
        · exact n2.1 hc
      · rw [List.nodup_append]
        exact ⟨n1, n2.2, fun a ha b hb => n3 a ha b (by simp [hb])⟩
theorem marked_mem (n : Nat) : ∀ (a x : Int), x ∈ marked a n → a ≤ x ∧ x < a + n := by
  induction n with
  | zero => intro a x h; simp [marked] at h
  | succ n ih =>
    intro a x h
    rw [marked, List.mem_cons] at h
    rcases h with rfl | h
    · omega
    · have := ih (a + 1) x h; omega
theorem marked_nodup (n : Nat) : ∀ (a : Int), (marked a n).Nodup := by
  induction n with
  | zero => intro a; simp [marked]
  | succ n ih =>
    intro a
    rw [marked, List.nodup_cons]
    exact ⟨fun h => by have := marked_mem n _ _ h; omega, ih _⟩
theorem ordsM_ord (n : Nat) (h1 : 1 ≤ n) (h2 : n ≤ 7) (l : List Int) (h : l ∈ ordsM n) : isOrd l = true := by
  obtain ⟨k, hk, rfl⟩ := List.mem_map.1 h
  have hk := List.mem_range.1 hk
  have hm := atM_mem n (marked 1 n) k (marked_length n 1) h2 hk
  have hl := atM_length n (marked 1 n) k
  refine isOrd_of (by omega) (by omega) (hm.2 (marked_nodup n 1)) fun x hx => ?_
  have := marked_mem n 1 x (hm.1 x hx)
  rw [hl]
  omega
theorem keepO_ev (of_ : Nat → List Int → Option Bool) (p : List Int → Bool) : ∀ l : List (List Int), (∀ x ∈ l, Ev (fun k => of_ k x) (p x)) → Ev (fun k => keepO (of_ k) l) (l.filter fun x => !p x)
  | [], _ => Ev.val rfl
  | x :: l, h => by
    refine Ev.congr (fun k => by rw [keepO]) ?_
    refine Ev.bind (h x (by simp)) (Ev.bind (keepO_ev of_ p l fun y hy => h y (by simp [hy])) (Ev.val ?_))
    rw [List.filter_cons]
    cases p x <;> rfl
theorem drop_stepK (l : List (List Int)) (i : Nat) (h : i < l.length) : l.drop i = l.getD i [] :: l.drop (i + 1) := by
  rw [List.getD_eq_getElem?_getD, List.getElem?_eq_getElem h]; exact List.drop_eq_getElem_cons h
theorem getD_memK {xs : List (List Int)} {i : Nat} (h : i < xs.length) : xs.getD i [] ∈ xs := by
  rw [List.getD_eq_getElem?_getD, List.getElem?_eq_getElem h]; exact List.getElem_mem h
theorem rd_L1_natK (xs : List (List Int)) (i : Nat) : rd_L5 xs (i : Int) = xs.getD i [] := rfl
theorem str_snoc (out : List Int) (n : Int) : strOfNums (out ++ [n]) = strOfNums out ++ (⟨#[UInt8.ofNat n.toNat]⟩ : ByteArray) := by
  apply ByteArray.ext
  apply Array.ext'
  simp [strOfNums, ByteArray.data_append]
theorem str_T (out : List Int) : strOfNums (out ++ [84]) = strOfNums out ++ (⟨#[84]⟩ : ByteArray) := str_snoc out 84
theorem str_B (out : List Int) : strOfNums (out ++ [66]) = strOfNums out ++ (⟨#[66]⟩ : ByteArray) := str_snoc out 66
theorem str_I (out : List Int) : strOfNums (out ++ [73]) = strOfNums out ++ (⟨#[73]⟩ : ByteArray) := str_snoc out 73
structure EndsAt (l s : List Int) (m i next : Nat) (there out : List Int) : Prop where
  hi : i < s.length
  hn : next ≤ l.length
  hm : (s.length - i) + (l.length - next) ≤ m
  ht : there.length ≤ next
  ho : out.length ≤ i + next
def Both1 (l s : List Int) (i next : Nat) (there out : List Int) : Prop := ∃ r : ByteArray × Bool, r.1.size ≤ 2000 ∧ Ev (fun k => spec_l8To.l1 k l s (strOfNums out) there (next : Int) (i : Int)) r ∧ Ev (fun k => impl_endsTo.l1 k (l.drop next) there out (nth s i) s (s.length : Int) (i : Int)) r
def Both0 (l s : List Int) (i next : Nat) (there out : List Int) : Prop := ∃ r : ByteArray × Bool, r.1.size ≤ 2000 ∧ Ev (fun k => spec_l8To.l0 k l s (strOfNums out) there (next : Int) (i : Int)) r ∧ Ev (fun k => impl_endsTo.l0 k (l.drop next) there out s (s.length : Int) (i : Int)) r
theorem both0_of {l s : List Int} {i next : Nat} {there out : List Int} (h : i < s.length → Both1 l s i next there out) (hi : i ≤ s.length) (hz : out.length ≤ 2000) : Both0 l s i next there out := by
  by_cases hc : i < s.length
  · obtain ⟨r, hr, h1, h2⟩ := h hc
    refine ⟨r, hr, ?_, ?_⟩
    · refine Ev.step (fun k => by rw [spec_l8To.l0]) ?_
      exact Ev.pos (by omega) h1
    · refine Ev.step (fun k => by rw [impl_endsTo.l0]) ?_
      exact Ev.pos (by omega) (Ev.pos (by omega) (Ev.pos (by omega) h2))
  · refine ⟨(strOfNums out, true), by rw [strOfNums_size]; exact hz, ?_, ?_⟩
    · refine Ev.step (fun k => by rw [spec_l8To.l0]) ?_
      exact Ev.neg (by omega) (Ev.val rfl)
    · refine Ev.step (fun k => by rw [impl_endsTo.l0]) ?_
      exact Ev.neg (by omega) (Ev.val rfl)
theorem both_j3 {l s : List Int} (hl : l.length ≤ 1000) (hs : s.length ≤ 1000) {m i next : Nat} {there out : List Int} (h : EndsAt l s m i next there out) (b : Bool) (hb : b = true → 0 < there.length)
    (h0 : 0 < there.length → Both0 l s (i + 1) next (there.drop 1) (out ++ [66])) (h1 : next < l.length → Both1 l s i (next + 1) (there ++ [nth l next]) (out ++ [73])) :
    ∃ r : ByteArray × Bool, r.1.size ≤ 2000 ∧ Ev (fun k => spec_l8To.j3 k l s (strOfNums out) there (next : Int) (i : Int) b) r ∧ Ev (fun k => impl_endsTo.j3 k (l.drop next) there out (nth s i) s (s.length : Int) (i : Int) b) r := by
  obtain ⟨hi, hn, hm, ht, ho⟩ := h
  have hsz : (strOfNums out).size = out.length := strOfNums_size out
  cases b with
  | true =>
    have hp := hb rfl
    obtain ⟨r, hr, a1, a2⟩ := h0 hp
    rw [str_B] at a1
    refine ⟨r, hr, ?_, ?_⟩
    · refine Ev.step (fun k => by rw [spec_l8To.j3]) ?_
      simp only [wup i (by omega)]
      refine Ev.pos trivial (Ev.pos (by omega) ?_)
      simp only [l1Own_is (there.drop 1) (by rw [List.length_drop]; omega), Option.bind_some]
      exact Ev.pos (by omega) a1
    · refine Ev.step (fun k => by rw [impl_endsTo.j3]) ?_
      simp only [wup i (by omega), Option.bind_some]
      exact Ev.pos trivial (Ev.pos (by simp; omega) (Ev.pos (by omega) a2))
  | false =>
    by_cases hc : next = l.length
    · refine ⟨((⟨#[]⟩ : ByteArray), false), Nat.zero_le _, ?_, ?_⟩
      · refine Ev.step (fun k => by rw [spec_l8To.j3]) ?_
        exact Ev.neg (by simp) (Ev.pos (by omega) (Ev.val rfl))
      · refine Ev.step (fun k => by rw [impl_endsTo.j3]) ?_
        refine Ev.neg (by simp) ?_
        refine Ev.pos ?_ (Ev.val rfl)
        rw [List.length_drop]; omega
    · obtain ⟨r, hr, a1, a2⟩ := h1 (by omega)
      rw [str_I] at a1
      refine ⟨r, hr, ?_, ?_⟩
      · refine Ev.step (fun k => by rw [spec_l8To.j3]) ?_
        simp only [wup next (by omega), rd_nat]
        exact Ev.neg (by simp) (Ev.neg (by omega) (Ev.pos (by omega) (Ev.pos (by omega) (Ev.pos (by omega) (Ev.pos (by omega) a1)))))
      · refine Ev.step (fun k => by rw [impl_endsTo.j3]) ?_
        have e4 : rd (l.drop next) 0 = nth l next := by
          show nth (l.drop next) 0 = _
          unfold nth
          rw [List.getD_eq_getElem?_getD, List.getD_eq_getElem?_getD, List.getElem?_drop, Nat.add_zero]
        have e5 : (l.drop next).drop 1 = l.drop (next + 1) := by rw [List.drop_drop]
        simp only [e4, e5, Option.bind_some]
        clear e4 e5
        have e6 : (l.drop next).length = l.length - next := List.length_drop
        refine Ev.neg (by simp) ?_
        refine Ev.neg (by omega) ?_
        refine Ev.pos (by simp; omega) ?_
        refine Ev.pos (by omega) ?_
        refine Ev.pos (by simp; omega) ?_
        exact Ev.pos (by omega) a2
theorem both1 {l s : List Int} (hl : l.length ≤ 1000) (hs : s.length ≤ 1000) : ∀ (m i next : Nat) (there out : List Int), EndsAt l s m i next there out → Both1 l s i next there out
  | 0, i, next, there, out, h => absurd h.hm (by have := h.hi; omega)
  | m + 1, i, next, there, out, h => by
    have hT : 0 < there.length → Both0 l s (i + 1) next (there.take (there.length - 1)) (out ++ [84]) := fun hp => both0_of (fun hc => both1 hl hs m (i + 1) next _ _ ⟨hc, h.hn, by have := h.hm; have := h.hi; omega, by rw [List.length_take]; have := h.ht; omega, by rw [List.length_append, List.length_singleton]; have := h.ho; omega⟩) (by have := h.hi; omega) (by rw [List.length_append, List.length_singleton]; have := h.ho; have := h.hi; have := h.hn; omega)
    have hB : 0 < there.length → Both0 l s (i + 1) next (there.drop 1) (out ++ [66]) := fun hp => both0_of (fun hc => both1 hl hs m (i + 1) next _ _ ⟨hc, h.hn, by have := h.hm; have := h.hi; omega, by rw [List.length_drop]; have := h.ht; omega, by rw [List.length_append, List.length_singleton]; have := h.ho; omega⟩) (by have := h.hi; omega) (by rw [List.length_append, List.length_singleton]; have := h.ho; have := h.hi; have := h.hn; omega)
    have hI : next < l.length → Both1 l s i (next + 1) (there ++ [nth l next]) (out ++ [73]) := fun hp => both1 hl hs m i (next + 1) _ _ ⟨h.hi, hp, by have := h.hm; omega, by rw [List.length_append, List.length_singleton]; have := h.ht; omega, by rw [List.length_append, List.length_singleton]; have := h.ho; omega⟩
    have hj3 := fun b hb => both_j3 hl hs h b hb hB hI
    have ht := h.ht
    have hi := h.hi
    have hn := h.hn
    have ho := h.ho
    have hsz : (strOfNums out).size = out.length := strOfNums_size out
    rcases Nat.eq_zero_or_pos there.length with h0 | hp
    · obtain ⟨r, hr, a1, a2⟩ := hj3 false (fun hb => by cases hb)
      refine ⟨r, hr, ?_, ?_⟩
      · refine Ev.step (fun k => by rw [spec_l8To.l1]) ?_
        refine Ev.neg (by omega) ?_
        refine Ev.step (fun k => by rw [spec_l8To.j2]) ?_
        exact Ev.neg (by simp) (Ev.neg (by omega) a1)
      · refine Ev.step (fun k => by rw [impl_endsTo.l1]) ?_
        simp only [show wrap64 ((there.length : Int) - 1) = -1 from by rw [h0, w64 (by omega)]; rfl]
        refine Ev.neg (by omega) ?_
        refine Ev.step (fun k => by rw [impl_endsTo.j2]) ?_
        exact Ev.neg (by simp) (Ev.neg (by omega) a2)
    · by_cases hc : nth there (there.length - 1) = nth s i
      · obtain ⟨r, hr, a1, a2⟩ := hT hp
        rw [str_T] at a1
        have hc' : (nth there (there.length - 1) == nth s i) = true := by simp [hc]
        refine ⟨r, hr, ?_, ?_⟩
        · refine Ev.step (fun k => by rw [spec_l8To.l1]) ?_
          simp only [wdn there.length hp (by omega), rd_nat, hc']
          refine Ev.pos (by omega) (Ev.pos (by omega) (Ev.pos (by omega) (Ev.pos (by omega) (Ev.pos (by omega) ?_))))
          refine Ev.step (fun k => by rw [spec_l8To.j2]) ?_
          simp only [wup i (by omega), wdn there.length hp (by omega), Int.toNat_natCast]
          exact Ev.pos trivial (Ev.pos (by omega) (Ev.pos (by omega) (Ev.pos (by omega) a1)))
        · refine Ev.step (fun k => by rw [impl_endsTo.l1]) ?_
          simp only [wdn there.length hp (by omega), rd_nat, hc']
          refine Ev.pos (by omega) (Ev.pos (by omega) (Ev.pos (by omega) ?_))
          refine Ev.step (fun k => by rw [impl_endsTo.j2]) ?_
          simp only [wup i (by omega), Option.bind_some, Int.toNat_natCast]
          exact Ev.pos trivial (Ev.pos (by simp; omega) (Ev.pos (by omega) (Ev.pos (by omega) a2)))
      · have hc' : (nth there (there.length - 1) == nth s i) = false := by simp [hc]
        obtain ⟨r, hr, a1, a2⟩ := hj3 (nth there 0 == nth s i) (fun _ => hp)
        have e3 : ∀ x : List Int, rd x 0 = nth x 0 := fun _ => rfl
        refine ⟨r, hr, ?_, ?_⟩
        · refine Ev.step (fun k => by rw [spec_l8To.l1]) ?_
          simp only [wdn there.length hp (by omega), rd_nat, hc']
          refine Ev.pos (by omega) (Ev.pos (by omega) (Ev.pos (by omega) (Ev.pos (by omega) (Ev.pos (by omega) ?_))))
          refine Ev.step (fun k => by rw [spec_l8To.j2]) ?_
          simp only [e3, rd_nat]
          exact Ev.neg (by simp) (Ev.pos (by omega) (Ev.pos (by omega) (Ev.pos (by omega) (Ev.pos (by omega) a1))))
        · refine Ev.step (fun k => by rw [impl_endsTo.l1]) ?_
          simp only [wdn there.length hp (by omega), rd_nat, hc']
          refine Ev.pos (by omega) (Ev.pos (by omega) (Ev.pos (by omega) ?_))
          refine Ev.step (fun k => by rw [impl_endsTo.j2]) ?_
          simp only [e3]
          exact Ev.neg (by simp) (Ev.pos (by omega) (Ev.pos (by omega) a2))
theorem endsTo_bothz (l s : List Int) (hl : l.length ≤ 1000) (hs : s.length ≤ 1000) : ∃ r : ByteArray × Bool, r.1.size ≤ 2000 ∧ Ev (fun k => spec_l8To.f k l s) r ∧ Ev (fun k => impl_endsTo.f k l s) r := by
  have := both0_of (l := l) (s := s) (i := 0) (next := 0) (there := []) (out := []) (fun hc => both1 hl hs (s.length + l.length) 0 0 [] [] ⟨hc, Nat.zero_le _, by omega, by simp, by simp⟩) (Nat.zero_le _) (by simp)
  obtain ⟨r, hr, h1, h2⟩ := this
  rw [List.drop_zero] at h2
  have e : strOfNums [] = (⟨#[]⟩ : ByteArray) := rfl
  rw [e] at h1
  unfold spec_l8To.f impl_endsTo.f
  exact ⟨r, hr, h1, h2⟩
theorem endsTo_both (l s : List Int) (hl : l.length ≤ 1000) (hs : s.length ≤ 1000) : ∃ r : ByteArray × Bool, Ev (fun k => spec_l8To.f k l s) r ∧ Ev (fun k => impl_endsTo.f k l s) r := by
  obtain ⟨r, _, h⟩ := endsTo_bothz l s hl hs
  exact ⟨r, h⟩
theorem ends_g (l : List Int) (hl : l.length ≤ 1000) : ∃ g : List Int → Bool, ∀ t : List Int, t.length ≤ 1000 → ∃ w : ByteArray, Ev (fun k => spec_l8To.f k l t) (w, g t) ∧ Ev (fun k => impl_endsTo.f k l t) (w, g t) := by
  have h : ∀ t : List Int, ∃ b : Bool, t.length ≤ 1000 → ∃ w : ByteArray, Ev (fun k => spec_l8To.f k l t) (w, b) ∧ Ev (fun k => impl_endsTo.f k l t) (w, b) := fun t => by
    by_cases ht : t.length ≤ 1000
    · obtain ⟨⟨w, b⟩, h1, h2⟩ := endsTo_both l t hl ht
      exact ⟨b, fun _ => ⟨w, h1, h2⟩⟩
    · exact ⟨false, fun h => absurd h ht⟩
  exact Classical.skolem.1 h
theorem endsOutputs_ev (l : List Int) (h7 : l.length ≤ 7) (g : List Int → Bool) (hg : ∀ t : List Int, t.length ≤ 1000 → ∃ w : ByteArray, Ev (fun k => spec_l8To.f k l t) (w, g t) ∧ Ev (fun k => impl_endsTo.f k l t) (w, g t)) : Ev (fun k => impl_endsOutputs.f k l) ((ordsM l.length).filter g) := by
  unfold impl_endsOutputs.f
  refine Ev.bind (allOrders_ev l.length h7) ?_
  refine Ev.to (keepO_ev (fun k x => impl_endsOutputs_1.f k x l) (fun x => !g x) _ fun x hx => ?_) (by simp)
  obtain ⟨w, _, h2⟩ := hg x (by have := ordsM_len _ x hx; omega)
  unfold impl_endsOutputs_1.f
  exact Ev.bind h2 (Ev.val rfl)
theorem strw_snoc (out : List Int) (n : Int) : strOfNums (out ++ [n]) = strOfNums out ++ (⟨#[UInt8.ofNat n.toNat]⟩ : ByteArray) := by
  apply ByteArray.ext
  apply Array.ext'
  simp [strOfNums, ByteArray.data_append]
theorem strw_O (out : List Int) : strOfNums (out ++ [79]) = strOfNums out ++ (⟨#[79]⟩ : ByteArray) := strw_snoc out 79
theorem strw_I (out : List Int) : strOfNums (out ++ [73]) = strOfNums out ++ (⟨#[73]⟩ : ByteArray) := strw_snoc out 73
structure WordAt (l s : List Int) (m i next : Nat) (st out : List Int) : Prop where
  hi : i < s.length
  hs : s.length ≤ l.length
  hn : next ≤ l.length
  hm : (s.length - i) + (l.length - next) ≤ m
  ht : st.length + i = next
  ho : out.length ≤ i + next
def Wboth1 (l s : List Int) (i next : Nat) (st out : List Int) : Prop := ∃ r : ByteArray × Bool, Ev (fun k => spec_l2To.l1 k l s (strOfNums out) st (next : Int) (i : Int)) r ∧ Ev (fun k => impl_wordTo.l1 k (l.drop next) st out (nth s i) s (s.length : Int) (i : Int)) r
def Wboth0 (l s : List Int) (i next : Nat) (st out : List Int) : Prop := ∃ r : ByteArray × Bool, Ev (fun k => spec_l2To.l0 k l s (strOfNums out) st (next : Int) (i : Int)) r ∧ Ev (fun k => impl_wordTo.l0 k (l.drop next) st out s (s.length : Int) (i : Int)) r
theorem wboth0_of {l s : List Int} {i next : Nat} {st out : List Int} (h : i < s.length → Wboth1 l s i next st out) (hi : i ≤ s.length) : Wboth0 l s i next st out := by
  by_cases hc : i < s.length
  · obtain ⟨r, h1, h2⟩ := h hc
    refine ⟨r, ?_, ?_⟩
    · refine Ev.step (fun k => by rw [spec_l2To.l0]) ?_
      exact Ev.pos (by omega) h1
    · refine Ev.step (fun k => by rw [impl_wordTo.l0]) ?_
      exact Ev.pos (by omega) (Ev.pos (by omega) (Ev.pos (by omega) h2))
  · refine ⟨(strOfNums out, true), ?_, ?_⟩
    · refine Ev.step (fun k => by rw [spec_l2To.l0]) ?_
      exact Ev.neg (by omega) (Ev.val rfl)
    · refine Ev.step (fun k => by rw [impl_wordTo.l0]) ?_
      exact Ev.neg (by omega) (Ev.val rfl)
theorem wimpl_push {l s : List Int} {r : ByteArray × Bool} {i next : Nat} {st out : List Int} (hl : l.length ≤ 1000) (hn : next < l.length) (ht : st.length ≤ 1000) (ho : out.length ≤ 3000)
    (h : Ev (fun k => impl_wordTo.l1 k (l.drop (next + 1)) (st ++ [nth l next]) (out ++ [73]) (nth s i) s (s.length : Int) (i : Int)) r) : Ev (fun k => impl_wordTo.j2 k (l.drop next) st out (nth s i) s (s.length : Int) (i : Int) true) r := by
  refine Ev.step (fun k => by rw [impl_wordTo.j2]) ?_
  have e4 : rd (l.drop next) 0 = nth l next := by
    show nth (l.drop next) 0 = _
    unfold nth
    rw [List.getD_eq_getElem?_getD, List.getD_eq_getElem?_getD, List.getElem?_drop, Nat.add_zero]
  have e5 : (l.drop next).drop 1 = l.drop (next + 1) := by rw [List.drop_drop]
  have e6 : (l.drop next).length = l.length - next := List.length_drop
  simp only [e4, e5, Option.bind_some]
  clear e4 e5
  exact Ev.pos trivial (Ev.neg (by omega) (Ev.pos (by omega) (Ev.pos (by simp; omega) (Ev.pos (by omega) (Ev.pos (by simp; omega) h)))))
theorem wimpl_pop {l s : List Int} {r : ByteArray × Bool} {i next : Nat} {st out : List Int} (hp : 0 < st.length) (ht : st.length ≤ 1000) (ho : out.length ≤ 3000) (hi : i ≤ 1000)
    (h : Ev (fun k => impl_wordTo.l0 k (l.drop next) (st.take (st.length - 1)) (out ++ [79]) s (s.length : Int) ((i + 1 : Nat) : Int)) r) : Ev (fun k => impl_wordTo.j2 k (l.drop next) st out (nth s i) s (s.length : Int) (i : Int) false) r := by
  refine Ev.step (fun k => by rw [impl_wordTo.j2]) ?_
  simp only [wup i (by omega), wdn st.length hp (by omega), Int.toNat_natCast, Option.bind_some]
  exact Ev.neg (by simp) (Ev.pos (by omega) (Ev.pos (by omega) (Ev.pos (by simp; omega) h)))
theorem wboth1 {l s : List Int} (hl : l.length ≤ 1000) : ∀ (m i next : Nat) (st out : List Int), WordAt l s m i next st out → Wboth1 l s i next st out
  | 0, i, next, st, out, h => absurd h.hm (by have := h.hi; omega)
  | m + 1, i, next, st, out, h => by
    have hO : 0 < st.length → Wboth0 l s (i + 1) next (st.take (st.length - 1)) (out ++ [79]) := fun hp => wboth0_of (fun hc => wboth1 hl m (i + 1) next _ _ ⟨hc, h.hs, h.hn, by have := h.hm; have := h.hi; omega, by rw [List.length_take]; have := h.ht; omega, by rw [List.length_append, List.length_singleton]; have := h.ho; omega⟩) (by have := h.hi; omega)
    have hI : next < l.length → Wboth1 l s i (next + 1) (st ++ [nth l next]) (out ++ [73]) := fun hp => wboth1 hl m i (next + 1) _ _ ⟨h.hi, h.hs, hp, by have := h.hm; omega, by rw [List.length_append, List.length_singleton]; have := h.ht; omega, by rw [List.length_append, List.length_singleton]; have := h.ho; omega⟩
    obtain ⟨hi, hs, hn, hm, ht, ho⟩ := h
    have hsz : (strOfNums out).size = out.length := strOfNums_size out
    by_cases hnl : next < l.length
    · rcases Nat.eq_zero_or_pos st.length with h0 | hp
      · obtain ⟨r, a1, a2⟩ := hI hnl
        rw [strw_I] at a1
        refine ⟨r, ?_, ?_⟩
        · refine Ev.step (fun k => by rw [spec_l2To.l1]) ?_
          simp only [wup next (by omega), rd_nat]
          exact Ev.pos (by omega) (Ev.pos (by omega) (Ev.pos (by omega) (Ev.pos (by omega) (Ev.pos (by omega) a1))))
        · refine Ev.step (fun k => by rw [impl_wordTo.l1]) ?_
          exact Ev.pos (by omega) (wimpl_push hl hnl (by omega) (by omega) a2)
      · by_cases hc : nth st (st.length - 1) = nth s i
        · obtain ⟨r, a1, a2⟩ := hO hp
          rw [strw_O] at a1
          refine ⟨r, ?_, ?_⟩
          · refine Ev.step (fun k => by rw [spec_l2To.l1]) ?_
            simp only [wup i (by omega), wdn st.length hp (by omega), rd_nat, Int.toNat_natCast]
            exact Ev.pos (by omega) (Ev.neg (by omega) (Ev.pos (by omega) (Ev.pos (by omega) (Ev.pos (by omega) (Ev.pos (by omega) (Ev.pos hc (Ev.pos (by omega) (Ev.pos (by omega) a1))))))))
          · refine Ev.step (fun k => by rw [impl_wordTo.l1]) ?_
            simp only [wdn st.length hp (by omega), rd_nat, show (nth st (st.length - 1) != nth s i) = false from by simp [hc]]
            exact Ev.neg (by omega) (Ev.pos (by omega) (Ev.pos (by omega) (wimpl_pop hp (by omega) (by omega) (by omega) a2)))
        · obtain ⟨r, a1, a2⟩ := hI hnl
          rw [strw_I] at a1
          refine ⟨r, ?_, ?_⟩
          · refine Ev.step (fun k => by rw [spec_l2To.l1]) ?_
            simp only [wup next (by omega), wdn st.length hp (by omega), rd_nat]
            exact Ev.pos (by omega) (Ev.neg (by omega) (Ev.pos (by omega) (Ev.pos (by omega) (Ev.pos (by omega) (Ev.pos (by omega) (Ev.neg hc (Ev.pos (by omega) (Ev.pos (by omega) (Ev.pos (by omega) a1)))))))))
          · refine Ev.step (fun k => by rw [impl_wordTo.l1]) ?_
            simp only [wdn st.length hp (by omega), rd_nat, show (nth st (st.length - 1) != nth s i) = true from by simp [hc]]
            exact Ev.neg (by omega) (Ev.pos (by omega) (Ev.pos (by omega) (wimpl_push hl hnl (by omega) (by omega) a2)))
    · have hp : 0 < st.length := by omega
      by_cases hc : nth st (st.length - 1) = nth s i
      · obtain ⟨r, a1, a2⟩ := hO hp
        rw [strw_O] at a1
        refine ⟨r, ?_, ?_⟩
        · refine Ev.step (fun k => by rw [spec_l2To.l1]) ?_
          simp only [wup i (by omega), wdn st.length hp (by omega), rd_nat, Int.toNat_natCast]
          exact Ev.neg (by omega) (Ev.pos (by omega) (Ev.pos (by omega) (Ev.pos (by omega) (Ev.pos (by omega) (Ev.pos hc (Ev.pos (by omega) (Ev.pos (by omega) a1)))))))
        · refine Ev.step (fun k => by rw [impl_wordTo.l1]) ?_
          simp only [wdn st.length hp (by omega), rd_nat, show (nth st (st.length - 1) != nth s i) = false from by simp [hc]]
          exact Ev.neg (by omega) (Ev.pos (by omega) (Ev.pos (by omega) (wimpl_pop hp (by omega) (by omega) (by omega) a2)))
      · refine ⟨((⟨#[]⟩ : ByteArray), false), ?_, ?_⟩
        · refine Ev.step (fun k => by rw [spec_l2To.l1]) ?_
          simp only [wdn st.length hp (by omega), rd_nat]
          exact Ev.neg (by omega) (Ev.pos (by omega) (Ev.pos (by omega) (Ev.pos (by omega) (Ev.pos (by omega) (Ev.neg hc (Ev.val rfl))))))
        · refine Ev.step (fun k => by rw [impl_wordTo.l1]) ?_
          simp only [wdn st.length hp (by omega), rd_nat, show (nth st (st.length - 1) != nth s i) = true from by simp [hc]]
          refine Ev.neg (by omega) (Ev.pos (by omega) (Ev.pos (by omega) ?_))
          refine Ev.step (fun k => by rw [impl_wordTo.j2]) ?_
          refine Ev.pos rfl (Ev.pos ?_ (Ev.val rfl))
          rw [List.length_drop]; omega
theorem wordTo_both (l s : List Int) (hl : l.length ≤ 1000) (hs : s.length ≤ l.length) : ∃ r : ByteArray × Bool, Ev (fun k => spec_l2To.f k l s) r ∧ Ev (fun k => impl_wordTo.f k l s) r := by
  have := wboth0_of (l := l) (s := s) (i := 0) (next := 0) (st := []) (out := []) (fun hc => wboth1 hl (s.length + l.length) 0 0 [] [] ⟨hc, hs, Nat.zero_le _, by omega, by simp, by simp⟩) (Nat.zero_le _)
  obtain ⟨r, h1, h2⟩ := this
  rw [List.drop_zero] at h2
  have e : strOfNums [] = (⟨#[]⟩ : ByteArray) := rfl
  rw [e] at h1
  unfold spec_l2To.f impl_wordTo.f
  exact ⟨r, h1, h2⟩
theorem words_h (l : List Int) (hl : l.length ≤ 1000) : ∃ g : List Int → Bool, ∀ t : List Int, t.length ≤ l.length → ∃ w : ByteArray, Ev (fun k => spec_l2To.f k l t) (w, g t) ∧ Ev (fun k => impl_wordTo.f k l t) (w, g t) := by
  have h : ∀ t : List Int, ∃ b : Bool, t.length ≤ l.length → ∃ w : ByteArray, Ev (fun k => spec_l2To.f k l t) (w, b) ∧ Ev (fun k => impl_wordTo.f k l t) (w, b) := fun t => by
    by_cases ht : t.length ≤ l.length
    · obtain ⟨⟨w, b⟩, h1, h2⟩ := wordTo_both l t hl ht
      exact ⟨b, fun _ => ⟨w, h1, h2⟩⟩
    · exact ⟨false, fun h => absurd h ht⟩
  exact Classical.skolem.1 h
structure Ren (f : Int → Int) : Prop where
  inj : ∀ a b, f a = f b → a = b
  zero : f 0 = 0
theorem rd_ren {f : Int → Int} (h : Ren f) (l : List Int) (i : Int) : rd (l.map f) i = f (rd l i) := by
  unfold rd
  rw [List.getD_eq_getElem?_getD, List.getD_eq_getElem?_getD, List.getElem?_map]
  cases l[i.toNat]? with
  | none => exact h.zero.symm
  | some x => rfl
theorem beq_ren {f : Int → Int} (h : Ren f) (a b : Int) : (f a == f b) = (a == b) := by
  rw [Bool.eq_iff_iff, beq_iff_eq, beq_iff_eq]
  exact ⟨h.inj a b, fun e => by rw [e]⟩
theorem bne_ren {f : Int → Int} (h : Ren f) (a b : Int) : (f a != f b) = (a != b) := by
  unfold bne
  rw [beq_ren h]
theorem snoc_ren (f : Int → Int) (l : List Int) (a : Int) : l.map f ++ [f a] = (l ++ [a]).map f := by simp
theorem endsTo_ren {f : Int → Int} (h : Ren f) : ∀ k, (∀ a b c d e g, impl_endsTo.l0 k (a.map f) (b.map f) c (d.map f) e g = impl_endsTo.l0 k a b c d e g) ∧ (∀ a b c x d e g, impl_endsTo.l1 k (a.map f) (b.map f) c (f x) (d.map f) e g = impl_endsTo.l1 k a b c x d e g) ∧
    (∀ a b c x i d e g q, impl_endsTo.j2 k (a.map f) (b.map f) c (f x) i (d.map f) e g q = impl_endsTo.j2 k a b c x i d e g q) ∧ (∀ a b c x d e g q, impl_endsTo.j3 k (a.map f) (b.map f) c (f x) (d.map f) e g q = impl_endsTo.j3 k a b c x d e g q)
  | 0 => ⟨fun _ _ _ _ _ _ => rfl, fun _ _ _ _ _ _ _ => rfl, fun _ _ _ _ _ _ _ _ _ => rfl, fun _ _ _ _ _ _ _ _ => rfl⟩
  | k + 1 => by
    obtain ⟨ih0, ih1, ih2, ih3⟩ := endsTo_ren h k
    refine ⟨fun a b c d e g => ?_, fun a b c x d e g => ?_, fun a b c x i d e g q => ?_, fun a b c x d e g q => ?_⟩
    · simp only [impl_endsTo.l0, List.length_map, rd_ren h, ih1]
    · simp only [impl_endsTo.l1, List.length_map, rd_ren h, beq_ren h, ih2]
    · simp only [impl_endsTo.j2, List.length_map, rd_ren h, beq_ren h, ← List.map_take, ih0, ih3, Option.bind_some]
    · simp only [impl_endsTo.j3, List.length_map, rd_ren h, Option.bind_some, ← List.map_drop, snoc_ren, ih0, ih1, List.length_cons, List.length_nil]
theorem wordTo_ren {f : Int → Int} (h : Ren f) : ∀ k, (∀ a b c d e g, impl_wordTo.l0 k (a.map f) (b.map f) c (d.map f) e g = impl_wordTo.l0 k a b c d e g) ∧ (∀ a b c x d e g, impl_wordTo.l1 k (a.map f) (b.map f) c (f x) (d.map f) e g = impl_wordTo.l1 k a b c x d e g) ∧
    (∀ a b c x d e g q, impl_wordTo.j2 k (a.map f) (b.map f) c (f x) (d.map f) e g q = impl_wordTo.j2 k a b c x d e g q)
  | 0 => ⟨fun _ _ _ _ _ _ => rfl, fun _ _ _ _ _ _ _ => rfl, fun _ _ _ _ _ _ _ _ => rfl⟩
  | k + 1 => by
    obtain ⟨ih0, ih1, ih2⟩ := wordTo_ren h k
    refine ⟨fun a b c d e g => ?_, fun a b c x d e g => ?_, fun a b c x d e g q => ?_⟩
    · simp only [impl_wordTo.l0, List.length_map, rd_ren h, ih1]
    · simp only [impl_wordTo.l1, List.length_map, rd_ren h, bne_ren h, ih2]
    · simp only [impl_wordTo.j2, List.length_map, rd_ren h, Option.bind_some, ← List.map_drop, ← List.map_take, snoc_ren, ih0, ih1, List.length_cons, List.length_nil]
theorem endsTo_f_ren {f : Int → Int} (h : Ren f) (k : Nat) (l s : List Int) : impl_endsTo.f k (l.map f) (s.map f) = impl_endsTo.f k l s := by
  unfold impl_endsTo.f
  rw [List.length_map]
  exact (endsTo_ren h k).1 l [] [] s _ _
theorem wordTo_f_ren {f : Int → Int} (h : Ren f) (k : Nat) (l s : List Int) : impl_wordTo.f k (l.map f) (s.map f) = impl_wordTo.f k l s := by
  unfold impl_wordTo.f
  rw [List.length_map]
  exact (wordTo_ren h k).1 l [] [] s _ _
def renO (o : List Int) (x : Int) : Int := if 1 ≤ x ∧ x ≤ (o.length : Int) then nth o (x - 1).toNat else x
theorem renO_in {o : List Int} (h : isOrd o = true) {x : Int} (h1 : 1 ≤ x) (h2 : x ≤ (o.length : Int)) : renO o x = nth o (x - 1).toNat ∧ 1 ≤ renO o x ∧ renO o x ≤ (o.length : Int) := by
  have hi : (x - 1).toNat < o.length := by omega
  have hm := isOrd_mem h (nth o (x - 1).toNat) (by rw [nth_lt _ _ hi]; exact List.getElem_mem hi)
  have e : renO o x = nth o (x - 1).toNat := by unfold renO; rw [if_pos ⟨h1, h2⟩]
  rw [e]
  exact ⟨rfl, hm.1, hm.2⟩
theorem renO_ren {o : List Int} (h : isOrd o = true) : Ren (renO o) := by
  refine ⟨fun a b e => ?_, by unfold renO; rw [if_neg (by omega)]⟩
  by_cases ha : 1 ≤ a ∧ a ≤ (o.length : Int)
  · obtain ⟨a1, a2, a3⟩ := renO_in h ha.1 ha.2
    by_cases hb : 1 ≤ b ∧ b ≤ (o.length : Int)
    · obtain ⟨b1, b2, b3⟩ := renO_in h hb.1 hb.2
      rw [a1, b1] at e
      have := nodup_nth (isOrd_nodup h) _ _ (by omega) (by omega) e
      omega
    · have b1 : renO o b = b := by unfold renO; rw [if_neg hb]
      omega
  · have a1 : renO o a = a := by unfold renO; rw [if_neg ha]
    by_cases hb : 1 ≤ b ∧ b ≤ (o.length : Int)
    · obtain ⟨b1, b2, b3⟩ := renO_in h hb.1 hb.2
      omega
    · have b1 : renO o b = b := by unfold renO; rw [if_neg hb]
      omega
theorem renO_sorted {o : List Int} (h : isOrd o = true) : (marked 1 o.length).map (renO o) = o := by
  refine List.ext_getElem (by rw [List.length_map, marked_length]) fun i h1 h2 => ?_
  have hi : i < (marked 1 o.length).length := by rw [marked_length]; exact h2
  rw [List.getElem_map, ← nth_lt _ i hi, marked_nth _ _ _ h2, (renO_in h (by omega) (by omega)).1, show ((1 : Int) + (i : Int) - 1).toNat = i by omega, nth_lt _ _ h2]
theorem map_inj {f : Int → Int} (h : Ren f) : ∀ a b : List Int, a.map f = b.map f → a = b
  | [], [], _ => rfl
  | [], _ :: _, e => by simp at e
  | _ :: _, [], e => by simp at e
  | x :: a, y :: b, e => by
    rw [List.map_cons, List.map_cons, List.cons.injEq] at e
    rw [h.inj _ _ e.1, map_inj h a b e.2]
theorem nodup_ren {f : Int → Int} (h : Ren f) {l : List Int} (hl : l.Nodup) : (l.map f).Nodup := List.pairwise_map.2 (hl.imp fun {a b} hab e => hab (h.inj _ _ e))
theorem ord_ren {o t : List Int} (h : isOrd o = true) (ht : isOrd t = true) (e : t.length = o.length) : isOrd (t.map (renO o)) = true := by
  have hl := isOrd_len ht
  refine isOrd_of (by rw [List.length_map]; omega) (by rw [List.length_map]; omega) (nodup_ren (renO_ren h) (isOrd_nodup ht)) fun x hx => ?_
  obtain ⟨y, hy, rfl⟩ := List.mem_map.1 hx
  have h1 := isOrd_mem ht y hy
  have h2 := renO_in h h1.1 (by omega)
  rw [List.length_map]
  omega
def invO (o : List Int) (v : Int) : Int := idx o v + 1
theorem invO_in {o : List Int} (h : isOrd o = true) {v : Int} (h1 : 1 ≤ v) (h2 : v ≤ (o.length : Int)) : renO o (invO o v) = v ∧ 1 ≤ invO o v ∧ invO o v ≤ (o.length : Int) := by
  obtain ⟨i, hi, e1, e2⟩ := idx_mem (isOrd_all h v h1 h2)
  have e3 : invO o v = (i : Int) + 1 := by unfold invO; rw [e1]
  rw [e3]
  refine ⟨?_, by omega, by omega⟩
  rw [(renO_in h (by omega) (by omega)).1, show ((i : Int) + 1 - 1).toNat = i by omega, e2]
theorem ord_pre {o y : List Int} (h : isOrd o = true) (hy : isOrd y = true) (e : y.length = o.length) : ∃ t, isOrd t = true ∧ t.length = o.length ∧ t.map (renO o) = y := by
  have hl := isOrd_len hy
  have hm : ∀ v ∈ y, renO o (invO o v) = v ∧ 1 ≤ invO o v ∧ invO o v ≤ (o.length : Int) := fun v hv => by
    have := isOrd_mem hy v hv
    exact invO_in h this.1 (by omega)
  have hyy : (y.map (invO o)).map (renO o) = y := by
    rw [List.map_map]
    refine (List.map_congr_left fun v hv => ?_).trans (List.map_id y)
    exact (hm v hv).1
  refine ⟨y.map (invO o), isOrd_of (by rw [List.length_map]; omega) (by rw [List.length_map]; omega) ?_ fun x hx => ?_, by rw [List.length_map]; exact e, hyy⟩
  · refine List.pairwise_map.2 ((isOrd_nodup hy).imp_of_mem fun {a b} ha hb hab e2 => hab ?_)
    rw [← (hm a ha).1, ← (hm b hb).1, e2]
  · obtain ⟨v, hv, rfl⟩ := List.mem_map.1 hx
    have := hm v hv
    rw [List.length_map]
    omega
def rankM : List Int → List Int → Nat
  | [], _ => 0
  | x :: t, left => (left.findIdx fun y => y == x) * facN t.length + rankM t (left.erase x)
def rnkOk (l : List Int) : Bool := Nat.blt (rankM l (marked 1 l.length)) (facN l.length) && (atM l.length (marked 1 l.length) (rankM l (marked 1 l.length)) == l)
set_option maxRecDepth 100000 in
theorem rankM_ : ∀ n ∈ [1, 2, 3, 4, 5, 6, 7], ((List.range (facN n)).all fun k => rankM (atM n (marked 1 n) k) (marked 1 n) == k) = true := by
  decide +kernel
theorem atM_inj {n : Nat} (h1 : 1 ≤ n) (h7 : n ≤ 7) {i j : Nat} (hi : i < facN n) (hj : j < facN n) (e : atM n (marked 1 n) i = atM n (marked 1 n) j) : i = j := by
  have h := rankM_ n (by simp; omega)
  simp only [List.all_eq_true, List.mem_range, beq_iff_eq] at h
  rw [← h i hi, ← h j hj, e]
theorem ordsM_nodup {n : Nat} (h1 : 1 ≤ n) (h7 : n ≤ 7) : (ordsM n).Nodup := by
  refine List.pairwise_map.2 (List.nodup_range.imp_of_mem fun {i j} hi hj hij e => hij (atM_inj h1 h7 (List.mem_range.1 hi) (List.mem_range.1 hj) e))
theorem ordsM_of {l : List Int} (h : rnkOk l = true) : l ∈ ordsM l.length := by
  simp only [rnkOk, Bool.and_eq_true, Nat.blt_eq, beq_iff_eq] at h
  exact List.mem_map.2 ⟨_, List.mem_range.2 h.1, h.2⟩
theorem filter_and (e w : List Int → Bool) : ∀ L : List (List Int), (L.filter e).length = (L.filter fun t => e t && w t).length + (L.filter fun t => e t && !w t).length
  | [] => rfl
  | x :: L => by
    have := filter_and e w L
    simp only [List.filter_cons]
    cases e x <;> cases w x <;> simp <;> omega
theorem count_ren {o : List Int} (h : isOrd o = true) (hall : ∀ y : List Int, isOrd y = true → y ∈ ordsM y.length) (p q : List Int → Bool) (hpq : ∀ t : List Int, isOrd t = true → t.length = o.length → p (t.map (renO o)) = q t) : ((ordsM o.length).filter p).length = ((ordsM o.length).filter q).length := by
  have hl := isOrd_len h
  have hnd := ordsM_nodup hl.1 hl.2
  have hperm : ((ordsM o.length).map (List.map (renO o))).Perm (ordsM o.length) := by
    refine (List.perm_ext_iff_of_nodup ?_ hnd).2 fun y => ⟨fun hy => ?_, fun hy => ?_⟩
    · exact List.pairwise_map.2 (hnd.imp fun {a b} hab e => hab (map_inj (renO_ren h) _ _ e))
    · obtain ⟨t, ht, rfl⟩ := List.mem_map.1 hy
      have h1 := ordsM_ord _ hl.1 hl.2 t ht
      have h2 := ordsM_len _ t ht
      have h3 := hall _ (ord_ren h h1 h2)
      rw [List.length_map, h2] at h3
      exact h3
    · have h1 := ordsM_ord _ hl.1 hl.2 y hy
      obtain ⟨t, ht, ht2, e⟩ := ord_pre h h1 (ordsM_len _ y hy)
      have h3 := hall t ht
      rw [ht2] at h3
      exact List.mem_map.2 ⟨t, h3, e⟩
  have h5 := (hperm.filter p).length_eq
  rw [List.filter_map, List.length_map] at h5
  rw [← h5]
  congr 1
  refine List.filter_congr fun t ht => ?_
  exact hpq t (ordsM_ord _ hl.1 hl.2 t ht) (ordsM_len _ t ht)
theorem and_255 (E : Int) (h0 : 0 ≤ E) (h1 : E ≤ 18446744073709551615) : bits BinOp.and IntKind.u64 E 255 = E % 256 := by
  have h := bits_and_u64_nat E.toNat 255 (by omega) (by omega)
  have h3 : E.toNat &&& 255 = E.toNat % 256 := Nat.and_two_pow_sub_one_eq_mod E.toNat 8
  rw [h3, Int.toNat_of_nonneg h0] at h
  exact h.trans (by omega)
def CodeB (s : List Int) : Prop := s.length ≤ 1000000 ∧ ∀ x ∈ s, 0 ≤ x ∧ x ≤ 255
theorem u64_range (n : Int) : 0 ≤ IntKind.u64.wrap n ∧ IntKind.u64.wrap n ≤ 18446744073709551615 := by
  have h : IntKind.u64.wrap n = n % 18446744073709551616 := by simp [IntKind.wrap, IntKind.signed, IntKind.bits]
  omega
theorem next_ok {s : List Int} (hs : CodeB s) (p st : Int) (hp : 0 ≤ p ∧ p ≤ 10000000) : ∃ x st' : Int, spec_l1Cur_next.f s p st = some (x, p + 1, st') ∧ 0 ≤ x ∧ x ≤ 255 := by
  have e : wrap64 (p + 1) = p + 1 := w64 (by omega)
  have hb : ∀ n : Int, 0 ≤ wrap64 (bits .and .u64 (IntKind.u64.wrap n / 1099511627776) 255) ∧ wrap64 (bits .and .u64 (IntKind.u64.wrap n / 1099511627776) 255) ≤ 255 := fun n => by
    have h := u64_range n
    rw [and_255 _ (by omega) (by omega), w64 (by omega)]; omega
  unfold spec_l1Cur_next.f
  rw [e]
  by_cases h1 : p < (s.length : Int)
  · have hx : 0 ≤ rd s p ∧ rd s p ≤ 255 := by
      obtain ⟨i, rfl⟩ := Int.eq_ofNat_of_zero_le hp.1
      have hi : i < s.length := by omega
      rw [show rd s (i : Int) = nth s i from rfl, nth_lt s i hi]
      exact hs.2 _ (List.getElem_mem hi)
    rw [if_pos h1, if_pos hp.1, if_pos (by omega), w64 (by omega)]
    exact ⟨_, _, rfl, hx.1, hx.2⟩
  · rw [if_neg h1, if_neg (by omega)]
    exact ⟨_, _, rfl, (hb _).1, (hb _).2⟩
theorem pick_ok {s : List Int} (hs : CodeB s) (p st n : Int) (hp : 0 ≤ p ∧ p ≤ 10000000) (hn : n ≤ 200) : ∃ x p' st' : Int, spec_l1Cur_pick.f s p st n = some (x, p', st') ∧ 0 ≤ x ∧ (x < n ∨ n < 1) ∧ 0 ≤ p' ∧ p' ≤ p + 1 := by
  unfold spec_l1Cur_pick.f
  by_cases h1 : n ≤ 1
  · rw [if_pos h1]; exact ⟨0, p, st, rfl, by omega, by omega, by omega, by omega⟩
  · obtain ⟨x, st', h, hx⟩ := next_ok hs p st hp
    rw [if_neg h1, h, Option.bind_some, if_neg (by omega), if_neg (by omega)]
    refine ⟨_, _, _, rfl, Int.tmod_nonneg _ hx.1, .inl (Int.tmod_lt_of_pos _ (by omega)), by simp only []; omega, by simp only []; omega⟩
theorem among_ok {s : List Int} (hs : CodeB s) (p st : Int) (l : List Int) (hp : 0 ≤ p ∧ p ≤ 10000000) (hl : 1 ≤ l.length ∧ l.length ≤ 200) : ∃ x p' st' : Int, spec_l1Cur_among.f s p st l = some (x, p', st') ∧ x ∈ l ∧ 0 ≤ p' ∧ p' ≤ p + 1 := by
  unfold spec_l1Cur_among.f
  obtain ⟨x, p', st', h, hx, h2, h3⟩ := pick_ok hs p st (l.length : Int) hp (by omega)
  rw [h, Option.bind_some, if_pos hx, if_pos (by omega)]
  obtain ⟨i, rfl⟩ := Int.eq_ofNat_of_zero_le hx
  refine ⟨_, _, _, rfl, ?_, h3⟩
  rw [show rd l (i : Int) = nth l i from rfl, nth_lt l i (by omega)]
  exact List.getElem_mem _
theorem order_l0_ok {s : List Int} (hs : CodeB s) : ∀ (d : Nat) (o : List Int) (p st : Int), 0 ≤ p → p + d ≤ 10000000 → o.length + d ≤ 100 → ∃ (r : List Int) (p' st' : Int), spec_l1Cur_order.l0 s d o p st = some (r, p', st') ∧ r.length = o.length + d ∧ 0 ≤ p' ∧ p' ≤ p + d
  | 0, o, p, st, h0, h1, h2 => ⟨o, p, st, rfl, by simp, h0, by omega⟩
  | d + 1, o, p, st, h0, h1, h2 => by
    obtain ⟨x, p', st', h, hx, h3, h4⟩ := pick_ok hs p st ((o.length : Int) + 1) ⟨h0, by omega⟩ (by omega)
    rw [spec_l1Cur_order.l0, h, Option.bind_some, if_pos ⟨⟨hx, by simp only []; omega⟩, by omega⟩]
    have hlen : (o.take x.toNat ++ [(o.length : Int) + 1] ++ o.drop x.toNat).length = o.length + 1 := by simp; omega
    obtain ⟨r, p2, st2, g, g1, g2⟩ := order_l0_ok hs d (o.take x.toNat ++ [(o.length : Int) + 1] ++ o.drop x.toNat) p' st' h4.1 (by omega) (by omega)
    exact ⟨r, p2, st2, g, by omega, g2.1, by omega⟩
theorem order_ok {s : List Int} (hs : CodeB s) (p st : Int) (hp : 0 ≤ p ∧ p ≤ 1000) : ∃ (r : List Int) (p' st' : Int), spec_l1Cur_order.f s p st = some (r, p', st') ∧ r.length ≤ 8 ∧ 0 ≤ p' ∧ p' ≤ p + 20 := by
  unfold spec_l1Cur_order.f
  obtain ⟨n, p1, st1, h1, hn, g1⟩ := among_ok hs p st [4, 5, 3, 6, 2, 7, 1, 4] ⟨hp.1, by omega⟩ (by simp)
  have hn' : 1 ≤ n ∧ n ≤ 7 := by simp at hn; omega
  obtain ⟨o, p2, st2, h2, ho, g2⟩ := order_l0_ok hs n.toNat [] p1 st1 g1.1 (by omega) (by simp; omega)
  obtain ⟨q, p3, st3, h3, hq, g3⟩ := pick_ok hs p2 st2 40 ⟨g2.1, by omega⟩ (by omega)
  rw [h1, Option.bind_some, if_pos (by omega), h2, Option.bind_some, h3, Option.bind_some]
  simp only [List.length_nil] at ho
  by_cases q0 : q = 0
  · rw [if_pos q0]; exact ⟨_, _, _, rfl, by simp, g3.2.1, by simp only []; omega⟩
  rw [if_neg q0]
  by_cases q1 : q = 1
  · rw [if_pos q1]
    obtain ⟨k, p4, st4, h4, hk, g4⟩ := pick_ok hs p3 st3 (o.length : Int) ⟨g3.2.1, by omega⟩ (by omega)
    obtain ⟨x, p5, st5, h5, hx, g5⟩ := among_ok hs p4 st4 [0, 1, 8, -1] ⟨g4.2.1, by omega⟩ (by simp)
    rw [h4, Option.bind_some, h5, Option.bind_some, if_pos ⟨hk, by simp only []; omega⟩]
    exact ⟨_, _, _, rfl, by simp; omega, g5.1, by simp only []; omega⟩
  rw [if_neg q1]
  by_cases q2 : q = 2
  · rw [if_pos q2]; exact ⟨_, _, _, rfl, by simp, g3.2.1, by simp only []; omega⟩
  · rw [if_neg q2]; exact ⟨_, _, _, rfl, by simp only []; omega, g3.2.1, by simp only []; omega⟩
def eM : Nat → List Int → List Int → List Int → Bool
  | 0, _, _, _ => false
  | _ + 1, _, _, [] => true
  | d + 1, l, q, x :: s => if q.getLast? == some x then eM d l q.dropLast s else if q.head? == some x then eM d l q.tail s else match l with
    | [] => false
    | y :: l2 => eM d l2 (q ++ [y]) (x :: s)
def wM : Nat → List Int → List Int → List Int → Bool
  | 0, _, _, _ => false
  | _ + 1, _, _, [] => true
  | d + 1, l, st, x :: s => if st.head? == some x then wM d l st.tail s else match l with
    | [] => false
    | y :: l2 => wM d l2 (y :: st) (x :: s)
def eI (t : List Int) : Bool := eM 30 (marked 1 t.length) [] t
def wI (t : List Int) : Bool := wM 30 (marked 1 t.length) [] t
def cE (n : Nat) : Nat := ((ordsM n).filter eI).length
def cW (n : Nat) : Nat := ((ordsM n).filter fun t => eI t && wI t).length
def ecOk (o : List Int) : Bool := rnkOk o && (((impl_endsTo.f 100 (marked 1 o.length) o).map (·.2) == some (eI o)) && ((impl_wordTo.f 100 (marked 1 o.length) o).map (·.2) == some (wI o)))
def edOk (o : List Int) : Bool := (match impl_isSortable.f 100 o, impl_endsTo.f 100 o (marked 1 o.length) with
    | some p, some x => !p || x.2
    | _, _ => false)
def ecN (n : Nat) : Bool := match impl_WordsOf.f 300 (n : Int), impl_CountPlainEnds.f 300 (n : Int), impl_AsQueue.f (n : Int) with
  | some ws, some p, some q => (ws.2 && (ws.1.length == cW n)) && ((p.2 && (decide ((cE n : Int) ≤ p.1) && (spec_CountPlainEnds.f 300 (n : Int) == some p))) && (q.2 && ((spec_AsQueue.f 300 (n : Int) == some q) && ((impl_IsEndsWord.f 100 q.1 == some true) && (decide ((q.1.size : Int) = wrap64 (2 * (n : Int))) && (impl_RunEnds.l0 100 (marked 1 n) q.1 [] [] (q.1.size : Int) 0 == some (marked 1 n, true)))))))
  | _, _, _ => false
end Go.Proofs.Ytfjbgmemjjjjoaa.Pure
