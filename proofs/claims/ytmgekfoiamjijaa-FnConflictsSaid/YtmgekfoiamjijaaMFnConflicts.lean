/- Sharings fit where no places in conflict share a stack, just when all numbers come out sorted. -/
import Derived.Test.YtmgekfoiamjijaaPFnConflictsx0
import Derived.Test.YtmgekfoiamjijaaPFnConflictsx1
import Derived.Test.YtmgekfoiamjijaaPFnConflictsx2
import Derived.Test.YtmgekfoiamjijaaPFnConflictsx3
import Derived.Test.YtmgekfoiamjijaaPFnConflictsx4
import Derived.Test.YtmgekfoiamjijaaPFnConflictsx5
import Derived.Test.YtmgekfoiamjijaaPFnConflictsx6
import Derived.Test.YtmgekfoiamjijaaPFnConflictsx7
import Derived.Test.YtmgekfoiamjijaaPFnConflictsx8
import Derived.Test.YtmgekfoiamjijaaPFnConflictsx9
import Derived.Test.YtmgekfoiamjijaaPFnConflictsx10
import Derived.Test.YtmgekfoiamjijaaPFnConflictsx11
import Derived.Test.YtmgekfoiamjijaaPFnConflictsx12
import Derived.Test.YtmgekfoiamjijaaPFnConflictsx13
import Derived.Test.YtmgekfoiamjijaaPFnConflictsx14
import Derived.Test.YtmgekfoiamjijaaPFnConflictsx15
import Derived.Test.YtmgekfoiamjijaaPFnConflictsx16
import Derived.Test.YtmgekfoiamjijaaPFnConflictsx17
import Derived.Test.YtmgekfoiamjijaaPFnConflictsx18
import Derived.WalkSmall
import Derived.Test.YtmgekfoiamjijaaK
set_option linter.unusedVariables false
set_option linter.unusedSimpArgs false
namespace Go.Proofs.Ytmgekfoiamjijaa.Pure
open Go.RowKit Go.Proofs.Ytmgekfoiamjijaa.PFnConflicts Go.Proofs.YtmgekfoiamjijaaW.PrintWords Go.Proofs.YtmgekfoiamjijaaW.PrintLast Go.Proofs.YtmgekfoiamjijaaW.PrintMore
theorem vInts_l (a b : List Int) (hn : a.length ≤ 17592186044416) (hl : a.length = b.length) : ∀ (d i : Nat), a.length = i + d → Ev (fun k => laws_vInts.l0 k a b i) (decide (a.drop i = b.drop i))
  | 0, i, h => by
    refine Ev.step (fun k => by rw [laws_vInts.l0]) ?_
    refine Ev.neg (by omega) (Ev.val ?_)
    rw [List.drop_of_length_le (by omega), List.drop_of_length_le (by omega)]
    simp
  | d + 1, i, h => by
    refine Ev.step (fun k => by rw [laws_vInts.l0]) ?_
    refine Ev.pos (by omega) (Ev.pos (by omega) (Ev.pos (by omega) ?_))
    have e : wrap64 ((i : Int) + 1) = ((i + 1 : Nat) : Int) := by rw [w64 (by omega)]; omega
    simp only [e]
    rw [drop_step a i (by omega), drop_step b i (by omega)]
    refine Ev.ite (fun hc => ?_) (fun hc => Ev.val ?_)
    · have hc' : nth a i = nth b i := hc
      refine (vInts_l a b hn hl d (i + 1) (by omega)).to ?_
      rw [hc']
      simp
    · have hc' : ¬ nth a i = nth b i := hc
      simp [hc']
theorem vInts_ev (a b : List Int) (hn : a.length ≤ 17592186044416) : Ev (fun k => laws_vInts.f k a b) (decide (a = b)) := by
  unfold laws_vInts.f
  refine Ev.ite (fun hc => ?_) (fun hc => Ev.val ?_)
  · exact (vInts_l a b hn (by omega) a.length 0 (by omega)).to (by simp)
  · have : ¬ a = b := fun h => hc (by rw [h])
    simp [this]
theorem vPairs_l (a : List S41) (hn : a.length ≤ 17592186044416) : ∀ (d i : Nat), a.length = i + d → Ev (fun k => laws_vPairs.l0 k a a i) true
  | 0, i, h => by
    refine Ev.step (fun k => by rw [laws_vPairs.l0]) ?_
    exact Ev.neg (by omega) (Ev.val rfl)
  | d + 1, i, h => by
    refine Ev.step (fun k => by rw [laws_vPairs.l0]) ?_
    have e : wrap64 ((i : Int) + 1) = ((i + 1 : Nat) : Int) := wup i (by omega)
    simp only [e]
    exact Ev.pos (by omega) (Ev.pos (by omega) (Ev.pos (by omega) (Ev.neg (by simp) (vPairs_l a hn d (i + 1) (by omega)))))
theorem vPairs_ev (a : List S41) (hn : a.length ≤ 17592186044416) : Ev (fun k => laws_vPairs.f k a a) true := by
  unfold laws_vPairs.f
  exact Ev.pos rfl (vPairs_l a hn a.length 0 (by omega))
theorem l1In_is (a b c : Int) : spec_l1In.f a b c = some (decide (b ≤ a ∧ a ≤ c)) := by
  unfold spec_l1In.f
  by_cases h : a ≥ b
  · rw [if_pos h]; simp [h]
  · rw [if_neg h]; simp; omega
theorem l1Has_l (l : List Int) (x : Int) (hn : l.length ≤ 17592186044416) : ∀ (d i : Nat), l.length = i + d → Ev (fun k => spec_l1Has.l0 k l x i) ((l.drop i).contains x)
  | 0, i, h => by
    refine Ev.step (fun k => by rw [spec_l1Has.l0]) ?_
    refine Ev.neg (by omega) (Ev.val ?_)
    rw [List.drop_of_length_le (by omega)]
    simp
  | d + 1, i, h => by
    refine Ev.step (fun k => by rw [spec_l1Has.l0]) ?_
    have e : wrap64 ((i : Int) + 1) = ((i + 1 : Nat) : Int) := by rw [w64 (by omega)]; omega
    simp only [e]
    rw [drop_step l i (by omega)]
    refine Ev.pos (by omega) (Ev.pos (by omega) (Ev.ite (fun hc => Ev.val ?_) (fun hc => ?_)))
    · have hc' : nth l i = x := hc
      rw [hc']; simp
    · have hc' : ¬ nth l i = x := hc
      refine (l1Has_l l x hn d (i + 1) (by omega)).to ?_
      have : ¬ x = nth l i := fun h => hc' h.symm
      rw [List.contains_cons]
      simp [this]
theorem l1Has_ev (l : List Int) (x : Int) (hn : l.length ≤ 17592186044416) : Ev (fun k => spec_l1Has.f k l x) (l.contains x) := by
  unfold spec_l1Has.f
  exact (l1Has_l l x hn l.length 0 (by omega)).to (by simp)
theorem l2Order_l (l : List Int) (hn : l.length ≤ 17592186044416) : ∀ (d i : Nat), l.length = i + d → Ev (fun k => spec_l2Order.l0 k l i) (allFrom (ordAt l) d i)
  | 0, i, h => by
    refine Ev.step (fun k => by rw [spec_l2Order.l0]) ?_
    exact Ev.neg (by omega) (Ev.val rfl)
  | d + 1, i, h => by
    refine Ev.step (fun k => by rw [spec_l2Order.l0]) ?_
    have e : wrap64 ((i : Int) + 1) = ((i + 1 : Nat) : Int) := by rw [w64 (by omega)]; omega
    simp only [e, l1In_is, Option.bind_some, rd_nat, Int.toNat_natCast, decide_eq_true_eq]
    refine Ev.pos (by omega) (Ev.pos (by omega) (Ev.ite (fun hc => Ev.pos (by omega) ?_) (fun hc => Ev.val ?_)))
    · refine Ev.bind (l1Has_ev _ _ (by simp; omega)) ?_
      refine Ev.ite (fun hb => Ev.val ?_) (fun hb => (l2Order_l l hn d (i + 1) (by omega)).to ?_)
      · rw [allFrom, ordAt, hb]; simp
      · rw [Bool.not_eq_true] at hb
        rw [allFrom, ordAt, hb]; simp [hc]
    · rw [allFrom, ordAt]
      by_cases h1 : 1 ≤ nth l i
      · have : ¬ nth l i ≤ l.length := fun h2 => hc ⟨h1, h2⟩
        simp [this]
      · simp [h1]
theorem l2Order_ev (l : List Int) (hn : l.length ≤ 17592186044416) : Ev (fun k => spec_l2Order.f k l) (isOrd l) := by
  unfold spec_l2Order.f
  simp only [l1In_is, Option.bind_some, decide_eq_true_eq]
  refine Ev.ite (fun hc => (l2Order_l l hn l.length 0 (by omega)).to ?_) (fun hc => Ev.val ?_)
  · have h1 : 1 ≤ l.length := by omega
    have h2 : l.length ≤ 7 := by omega
    simp [isOrd, h1, h2]
  · rw [isOrd]
    by_cases h1 : 1 ≤ l.length
    · have : ¬ l.length ≤ 7 := by omega
      simp [this]
    · simp [h1]
theorem Index_l (l : List Int) (x : Int) (hn : l.length ≤ 17592186044416) : ∀ (d i : Nat), l.length = i + d → (∀ j, j < i → nth l j ≠ x) → Ev (fun k => slices_Index_int_int.l0 k l x (l.length : Int) i) (idx l x)
  | 0, i, h, hq => by
    refine Ev.step (fun k => by rw [slices_Index_int_int.l0]) ?_
    refine Ev.neg (by omega) (Ev.val ?_)
    exact (idx_none l x fun j hj => hq j (by omega)).symm
  | d + 1, i, h, hq => by
    refine Ev.step (fun k => by rw [slices_Index_int_int.l0]) ?_
    have e : wrap64 ((i : Int) + 1) = ((i + 1 : Nat) : Int) := by rw [w64 (by omega)]; omega
    simp only [e]
    refine Ev.pos (by omega) (Ev.pos (by omega) (Ev.pos (by omega) (Ev.ite (fun hc => Ev.val ?_) (fun hc => ?_))))
    · exact (idx_some l x i (by omega) (by rw [hc]; rfl) hq).symm
    · refine Index_l l x hn d (i + 1) (by omega) (fun j hj => ?_)
      by_cases e : j = i
      · subst e; exact fun h => hc h.symm
      · exact hq j (by omega)
theorem Index_ev (l : List Int) (x : Int) (hn : l.length ≤ 17592186044416) : Ev (fun k => slices_Index_int_int.f k l x) (idx l x) := by
  unfold slices_Index_int_int.f
  exact Index_l l x hn l.length 0 (by omega) (fun j hj => by omega)
theorem Contains_ev (l : List Int) (x : Int) (hn : l.length ≤ 17592186044416) : Ev (fun k => slices_Contains_int_int.f k l x) (l.contains x) := by
  unfold slices_Contains_int_int.f
  exact Ev.bind (Index_ev l x hn) (Ev.val (idx_contains l x))
theorem isOrder_l (l : List Int) (hn : l.length ≤ 17592186044416) : ∀ (d i : Nat), l.length = i + d → Ev (fun k => impl_isOrder.l0 k l l (l.length : Int) i) (allFrom (ordAt l) d i)
  | 0, i, h => by
    refine Ev.step (fun k => by rw [impl_isOrder.l0]) ?_
    exact Ev.neg (by omega) (Ev.val rfl)
  | d + 1, i, h => by
    refine Ev.step (fun k => by rw [impl_isOrder.l0]) ?_
    have e : wrap64 ((i : Int) + 1) = ((i + 1 : Nat) : Int) := by rw [w64 (by omega)]; omega
    simp only [e, rd_nat, Int.toNat_natCast]
    refine Ev.pos (by omega) (Ev.pos (by omega) (Ev.pos (by omega) (Ev.ite (fun hc => Ev.val ?_) (fun hc => Ev.ite (fun hd => Ev.val ?_) (fun hd => Ev.pos (by omega) ?_)))))
    · have : ¬ 1 ≤ nth l i := by omega
      rw [allFrom, ordAt]; simp [this]
    · have : ¬ nth l i ≤ l.length := by omega
      rw [allFrom, ordAt]; simp [this]
    · refine Ev.bind (Contains_ev _ _ (by simp; omega)) ?_
      refine Ev.ite (fun hb => Ev.val ?_) (fun hb => (isOrder_l l hn d (i + 1) (by omega)).to ?_)
      · rw [allFrom, ordAt, hb]; simp
      · rw [Bool.not_eq_true] at hb
        have h1 : 1 ≤ nth l i := by omega
        have h2 : nth l i ≤ l.length := by omega
        rw [allFrom, ordAt, hb]; simp [h1, h2]
theorem isOrder_ev (l : List Int) (hn : l.length ≤ 17592186044416) : Ev (fun k => impl_isOrder.f k l) (isOrd l) := by
  unfold impl_isOrder.f
  refine Ev.ite (fun hc => ?_) (fun hc => ?_)
  · refine Ev.step (fun k => by rw [impl_isOrder.j0]) ?_
    refine Ev.pos rfl (Ev.val ?_)
    have : ¬ 1 ≤ l.length := by omega
    simp [isOrd, this]
  · refine Ev.step (fun k => by rw [impl_isOrder.j0]) ?_
    simp only [decide_eq_true_eq]
    refine Ev.ite (fun hd => Ev.val ?_) (fun hd => (isOrder_l l hn l.length 0 (by omega)).to ?_)
    · have : ¬ l.length ≤ 7 := by omega
      simp [isOrd, this]
    · have h1 : 1 ≤ l.length := by omega
      have h2 : l.length ≤ 7 := by omega
      simp [isOrd, h1, h2]
theorem IndexFunc_l (of_ : Nat → Int → Option Bool) (p : Int → Bool) (l : List Int) (hn : l.length ≤ 17592186044416) (hof : ∀ k x, x ∈ l → of_ k x = some (p x)) : ∀ (d i : Nat), l.length = i + d → Ev (fun k => slices_IndexFunc_int_int.l0 of_ k l (l.length : Int) i) (if idxF p (l.drop i) < 0 then -1 else idxF p (l.drop i) + i)
  | 0, i, h => by
    refine Ev.step (fun k => by rw [slices_IndexFunc_int_int.l0]) ?_
    refine Ev.neg (by omega) (Ev.val ?_)
    rw [List.drop_of_length_le (by omega)]; rfl
  | d + 1, i, h => by
    refine Ev.step (fun k => by rw [slices_IndexFunc_int_int.l0]) ?_
    have e : wrap64 ((i : Int) + 1) = ((i + 1 : Nat) : Int) := by rw [w64 (by omega)]; omega
    have hm : nth l i ∈ l := by rw [nth_lt l i (by omega)]; exact List.getElem_mem _
    have hq : ∀ k, of_ k (nth l i) = some (p (nth l i)) := fun k => hof k _ hm
    simp only [e, rd_nat, hq, Option.bind_some]
    rw [drop_step l i (by omega)]
    have hg := idxF_ge p (l.drop (i + 1))
    refine Ev.pos (by omega) (Ev.pos (by omega) (Ev.pos (by omega) (Ev.ite (fun hc => Ev.val ?_) (fun hc => ?_))))
    · simp [idxF, hc]
    · refine (IndexFunc_l of_ p l hn hof d (i + 1) (by omega)).to ?_
      simp only [idxF, if_neg hc]
      split
      · simp
      · rw [if_neg (by omega)]; omega
theorem ContainsFunc_ev (of_ : Nat → Int → Option Bool) (p : Int → Bool) (l : List Int) (s : ByteArray) (hn : l.length ≤ 17592186044416) (hof : ∀ k x, x ∈ l → of_ k x = some (p x)) : Ev (fun k => slices_ContainsFunc_int_int.f of_ k l s) (l.any p) := by
  unfold slices_ContainsFunc_int_int.f slices_IndexFunc_int_int.f
  refine Ev.bind (IndexFunc_l of_ p l hn hof l.length 0 (by omega)) (Ev.val ?_)
  rw [← idxF_any p l, List.drop_zero]
  have hg := idxF_ge p l
  by_cases h : idxF p l < 0
  · have : ¬ 0 ≤ idxF p l := by omega
    simp [h, this]
  · have h1 : 0 ≤ idxF p l := by omega
    simp [h, h1]
def allO (ns : List Int) (p : List Int → Bool) : Nat → List Int → Bool
  | 0, q => p q
  | d + 1, q => ns.all fun c => q.contains c || allO ns p d (c :: q)
theorem isOrd_drop {l : List Int} (h : isOrd l = true) (i : Nat) (hi : i < l.length) : nth l i ∉ l.drop (i + 1) := by
  intro hm
  obtain ⟨j, hj, e⟩ := List.mem_iff_getElem.1 hm
  rw [List.getElem_drop] at e
  simp only [List.length_drop] at hj
  refine (isOrd_at h (i + 1 + j) (by omega)).2.2 ?_
  rw [nth_lt l (i + 1 + j) (by omega), e, nth_lt l i hi, List.mem_take_iff_getElem]
  exact ⟨i, by omega, rfl⟩
theorem allO_mem {l : List Int} (h : isOrd l = true) (ns : List Int) (hns : ∀ x : Int, 1 ≤ x → x ≤ l.length → x ∈ ns) (p : List Int → Bool) : ∀ i, i ≤ l.length → allO ns p i (l.drop i) = true → p l = true
  | 0, _, hp => by simpa [allO] using hp
  | i + 1, hi, hp => by
    rw [allO, List.all_eq_true] at hp
    have ha := isOrd_at h i (by omega)
    have h1 := hp (nth l i) (hns _ ha.1 ha.2.1)
    have h2 : (l.drop (i + 1)).contains (nth l i) = false := by
      have := isOrd_drop h i (by omega)
      simpa using this
    rw [h2, Bool.false_or, ← drop_step l i (by omega)] at h1
    exact allO_mem h ns hns p i (by omega) h1
def intsTo (n : Nat) : List Int := ([1, 2, 3, 4, 5, 6, 7] : List Int).take n
theorem intsTo_mem : ∀ n : Nat, n ≤ 7 → ∀ x : Int, 1 ≤ x → x ≤ n → x ∈ intsTo n := by
  intro n hn x h1 h2
  have hx : x = 1 ∨ x = 2 ∨ x = 3 ∨ x = 4 ∨ x = 5 ∨ x = 6 ∨ x = 7 := by omega
  have hn' : n = 0 ∨ n = 1 ∨ n = 2 ∨ n = 3 ∨ n = 4 ∨ n = 5 ∨ n = 6 ∨ n = 7 := by omega
  rcases hn' with rfl | rfl | rfl | rfl | rfl | rfl | rfl | rfl <;> rcases hx with rfl | rfl | rfl | rfl | rfl | rfl | rfl <;> first | (exfalso; omega) | simp [intsTo]
theorem orders_all {l : List Int} (h : isOrd l = true) (p : List Int → Bool) (hp : ∀ n ∈ [1, 2, 3, 4, 5, 6, 7], allO (intsTo n) p n [] = true) : p l = true := by
  have hl := isOrd_len h
  have hm : l.length ∈ [1, 2, 3, 4, 5, 6, 7] := by
    have : l.length = 1 ∨ l.length = 2 ∨ l.length = 3 ∨ l.length = 4 ∨ l.length = 5 ∨ l.length = 6 ∨ l.length = 7 := by omega
    simp [this]
  refine allO_mem h (intsTo l.length) (fun x h1 h2 => intsTo_mem l.length hl.2 x h1 h2) p l.length (Nat.le_refl _) ?_
  rw [List.drop_length]
  exact hp _ hm
theorem isOrd_nodup {l : List Int} (h : isOrd l = true) : l.Nodup := by
  refine List.pairwise_iff_getElem.2 fun i j hi hj hij e => (isOrd_at h j hj).2.2 ?_
  rw [nth_lt _ _ hj, ← e]
  exact List.mem_take_iff_getElem.2 ⟨i, by omega, rfl⟩
theorem isOrd_all_ : ∀ n ∈ [1, 2, 3, 4, 5, 6, 7], allO (intsTo n) (fun l => (intsTo l.length).all fun x => l.contains x) n [] = true := by decide +kernel
theorem isOrd_all {l : List Int} (h : isOrd l = true) (x : Int) (h1 : 1 ≤ x) (h2 : x ≤ l.length) : x ∈ l := by
  have := orders_all h _ isOrd_all_
  rw [List.all_eq_true] at this
  simpa using this x (intsTo_mem l.length (isOrd_len h).2 x h1 h2)
theorem nodup_nth {l : List Int} (h : l.Nodup) (i j : Nat) (hi : i < l.length) (hj : j < l.length) (e : nth l i = nth l j) : i = j := by
  rw [nth_lt _ _ hi, nth_lt _ _ hj] at e
  exact (List.getElem_inj h).1 e
theorem l1Own_is (l : List Int) (h : l.length < 17592186044416) : spec_l1Own.f l = some l := by
  unfold spec_l1Own.f
  simp [h]
theorem Equal_l (a b : List Int) (hn : a.length ≤ 17592186044416) (hl : a.length = b.length) : ∀ (d i : Nat), a.length = i + d → Ev (fun k => slices_Equal_int_int.l0 k a b (a.length : Int) i) (decide (a.drop i = b.drop i))
  | 0, i, h => by
    refine Ev.step (fun k => by rw [slices_Equal_int_int.l0]) (Ev.neg (by omega) (Ev.val ?_))
    rw [List.drop_of_length_le (by omega), List.drop_of_length_le (by omega)]; rfl
  | d + 1, i, h => by
    refine Ev.step (fun k => by rw [slices_Equal_int_int.l0]) ?_
    have e : wrap64 ((i : Int) + 1) = ((i + 1 : Nat) : Int) := by rw [w64 (by omega)]; omega
    simp only [e]
    refine Ev.pos (by omega) (Ev.pos (by omega) (Ev.pos (by omega) (Ev.pos (by omega) (Ev.ite (fun hc => Ev.to (Equal_l a b hn hl d (i + 1) (by omega)) ?_) (fun hc => Ev.val ?_)))))
    · rw [drop_step a i (by omega), drop_step b i (by omega)]
      have hc' : nth a i = nth b i := hc
      simp [hc']
    · rw [drop_step a i (by omega), drop_step b i (by omega)]
      have hc' : ¬ nth a i = nth b i := hc
      simp [hc']
theorem Equal_ev (a b : List Int) (hn : a.length ≤ 17592186044416) : Ev (fun k => slices_Equal_int_int.f k a b) (decide (a = b)) := by
  unfold slices_Equal_int_int.f
  by_cases hl : a.length = b.length
  · exact Ev.pos (by omega) (Ev.to (Equal_l a b hn hl a.length 0 (by omega)) (by simp))
  · refine Ev.neg (by omega) (Ev.val ?_)
    have : a ≠ b := fun e => hl (by rw [e])
    simp [this]
def badStack (x : Int) : Bool := decide (x < 0) || decide (4 ≤ x)
def isShar (l0 l1 : List Int) : Bool := isOrd l0 && (decide (l1.length = l0.length) && !l1.any badStack)
theorem l7Sharing_l (l0 l : List Int) (hn : l.length ≤ 17592186044416) : ∀ (d i : Nat), l.length = i + d → Ev (fun k => spec_l7Sharing.l0 k l i) (!(l.drop i).any badStack)
  | 0, i, h => by
    refine Ev.step (fun k => by rw [spec_l7Sharing.l0]) ?_
    refine Ev.neg (by omega) (Ev.val ?_)
    rw [List.drop_of_length_le (by omega)]; rfl
  | d + 1, i, h => by
    refine Ev.step (fun k => by rw [spec_l7Sharing.l0]) ?_
    have e : wrap64 ((i : Int) + 1) = ((i + 1 : Nat) : Int) := by rw [w64 (by omega)]; omega
    simp only [e, l1In_is, Option.bind_some, rd_nat, decide_eq_true_eq]
    rw [drop_step l i (by omega), List.any_cons]
    refine Ev.pos (by omega) (Ev.pos (by omega) (Ev.ite (fun hc => ?_) (fun hc => Ev.val ?_)))
    · have hb : badStack (nth l i) = false := by simp [badStack]; omega
      rw [hb, Bool.false_or]
      exact l7Sharing_l l0 l hn d (i + 1) (by omega)
    · have hb : badStack (nth l i) = true := by
        simp only [badStack, Bool.or_eq_true, decide_eq_true_eq]; omega
      rw [hb]; rfl
theorem specIsSharing_ev (l0 l1 : List Int) (hn0 : l0.length ≤ 17592186044415) (hn1 : l1.length ≤ 17592186044415) : Ev (fun k => spec_l7Sharing.f k l0 l1) (isShar l0 l1) := by
  have hj : ∀ b : Bool, Ev (fun k => spec_l7Sharing.j0 k l1 b) (!b && !l1.any badStack) := by
    intro b
    refine Ev.step (fun k => by rw [spec_l7Sharing.j0]) ?_
    refine Ev.ite (fun hc => Ev.val ?_) (fun hc => (l7Sharing_l l0 l1 (by omega) l1.length 0 (by omega)).to ?_)
    · simp [hc]
    · simp [hc]
  unfold spec_l7Sharing.f
  refine Ev.bind (l2Order_ev l0 (by omega)) (Ev.ite (fun hc => (hj _).to ?_) (fun hc => (hj _).to ?_))
  · by_cases e : l1.length = l0.length
    · simp [isShar, hc, e]
    · have e' : ¬ (l1.length : Int) = l0.length := by omega
      simp [isShar, e, e']
  · rw [Bool.not_eq_true] at hc
    simp [isShar, hc]
theorem isSharing_1_is (x : Int) : impl_isSharing_1.f x = some (badStack x) := by
  unfold impl_isSharing_1.f badStack
  by_cases h : x < 0
  · rw [if_pos h]; simp [h]
  · rw [if_neg h]; simp [h]
theorem implIsSharing_ev (l0 l1 : List Int) (hn0 : l0.length ≤ 17592186044415) (hn1 : l1.length ≤ 17592186044415) : Ev (fun k => impl_isSharing.f k l0 l1) (isShar l0 l1) := by
  unfold impl_isSharing.f
  refine Ev.bind (isOrder_ev l0 (by omega)) (Ev.ite (fun hc => Ev.ite (fun hd => ?_) (fun hd => Ev.val ?_)) (fun hc => Ev.val ?_))
  · refine Ev.bind (ContainsFunc_ev _ badStack l1 _ (by omega) (fun k x _ => isSharing_1_is x)) (Ev.val ?_)
    have : l1.length = l0.length := by omega
    simp [isShar, hc, this]
  · have : ¬ l1.length = l0.length := by omega
    simp [isShar, this]
  · rw [Bool.not_eq_true] at hc
    simp [isShar, hc]
theorem isOrd_ne2 {l : List Int} (h : isOrd l = true) (i j : Nat) (h0 : i < j) (hi : j < l.length) : nth l i ≠ nth l j := by
  intro e
  refine (isOrd_at h j hi).2.2 ?_
  rw [← e, nth_lt l i (by omega), List.mem_take_iff_getElem]
  exact ⟨i, by omega, rfl⟩
def lessThan (n x : Int) : Bool := decide (x < n)
def conf (l : List Int) (i j : Nat) : Bool := decide (nth l i < nth l j) && (l.drop (j + 1)).any (lessThan (nth l i))
theorem l7Conflict_l (l : List Int) (hn : l.length ≤ 1000) (i : Nat) (hi : i < l.length) : ∀ (d j : Nat), l.length = j + d → Ev (fun k => spec_l7Conflict.l0 k l i j) ((l.drop j).any (lessThan (nth l i)))
  | 0, j, h => by
    refine Ev.step (fun k => by rw [spec_l7Conflict.l0]) ?_
    refine Ev.neg (by omega) (Ev.val ?_)
    rw [List.drop_of_length_le (by omega)]; rfl
  | d + 1, j, h => by
    refine Ev.step (fun k => by rw [spec_l7Conflict.l0]) ?_
    have e : wrap64 ((j : Int) + 1) = ((j + 1 : Nat) : Int) := by rw [w64 (by omega)]; omega
    simp only [e, rd_nat]
    rw [drop_step l j (by omega), List.any_cons]
    refine Ev.pos (by omega) (Ev.pos (by omega) (Ev.pos (by omega) (Ev.pos (by omega) (Ev.ite (fun hc => Ev.val ?_) (fun hc => ?_)))))
    · simp [lessThan, hc]
    · have hb : lessThan (nth l i) (nth l j) = false := by simp [lessThan]; omega
      rw [hb, Bool.false_or]
      exact l7Conflict_l l hn i hi d (j + 1) (by omega)
theorem specConflict_ev (l : List Int) (ho : isOrd l = true) (i j : Nat) (hij : i < j) (hj : j < l.length) : Ev (fun k => spec_l7Conflict.f k l i j) (conf l i j) := by
  have hl := isOrd_len ho
  have hne := isOrd_ne2 ho i j hij hj
  unfold spec_l7Conflict.f
  have e : wrap64 ((j : Int) + 1) = ((j + 1 : Nat) : Int) := by rw [w64 (by omega)]; omega
  simp only [e, rd_nat]
  refine Ev.pos (by omega) (Ev.pos (by omega) (Ev.pos (by omega) (Ev.pos (by omega) (Ev.ite (fun hc => Ev.val ?_) (fun hc => ?_)))))
  · have : ¬ nth l i < nth l j := by omega
    simp [conf, this]
  · have h1 : nth l i < nth l j := by omega
    refine (l7Conflict_l l (by omega) i (by omega) (l.length - (j + 1)) (j + 1) (by omega)).to ?_
    simp [conf, h1]
theorem implConflict_ev (l : List Int) (ho : isOrd l = true) (i j : Nat) (hij : i < j) (hj : j < l.length) : Ev (fun k => impl_isConflict.f k l i j) (conf l i j) := by
  have hl := isOrd_len ho
  unfold impl_isConflict.f
  have e : wrap64 ((j : Int) + 1) = ((j + 1 : Nat) : Int) := by rw [w64 (by omega)]; omega
  simp only [e, rd_nat, Int.toNat_natCast]
  refine Ev.pos (by omega) (Ev.pos (by omega) (Ev.pos (by omega) (Ev.pos (by omega) (Ev.ite (fun hc => Ev.pos (by omega) (Ev.pos (by omega) ?_)) (fun hc => Ev.val ?_)))))
  · refine Ev.bind (ContainsFunc_ev _ (lessThan (nth l i)) _ _ (by simp; omega) (fun k x _ => ?_)) (Ev.val ?_)
    · unfold impl_isConflict_1.f
      rw [if_pos (by omega), if_pos (by omega)]
      rfl
    · have h1 : nth l i < nth l j := by omega
      simp [conf, h1]
  · have : ¬ nth l i < nth l j := by omega
    simp [conf, this]
def mayB (l s : List Int) (j : Nat) (x : Int) : Bool := allFrom (fun i => !(decide (nth s i = x) && conf l i j)) j 0
theorem mayBe_l (l s : List Int) (ho : isOrd l = true) (j : Nat) (hj : j < l.length) (hs : j ≤ s.length) (x : Int) : ∀ (d i : Nat), j = i + d → Ev (fun k => impl_mayBe.l0 k l s j x j i) (allFrom (fun i => !(decide (nth s i = x) && conf l i j)) d i)
  | 0, i, h => by
    refine Ev.step (fun k => by rw [impl_mayBe.l0]) ?_
    exact Ev.neg (by omega) (Ev.val rfl)
  | d + 1, i, h => by
    have hl := isOrd_len ho
    refine Ev.step (fun k => by rw [impl_mayBe.l0]) ?_
    have e : wrap64 ((i : Int) + 1) = ((i + 1 : Nat) : Int) := by rw [w64 (by omega)]; omega
    simp only [e, rd_nat, allFrom]
    refine Ev.pos (by omega) (Ev.pos (by omega) (Ev.pos (by omega) (Ev.ite (fun hc => ?_) (fun hc => ?_))))
    · refine Ev.bind (implConflict_ev l ho i j (by omega) hj) (Ev.ite (fun hd => Ev.val ?_) (fun hd => (mayBe_l l s ho j hj hs x d (i + 1) (by omega)).to ?_))
      · simp [hc, hd]
      · rw [Bool.not_eq_true] at hd; simp [hd]
    · refine (mayBe_l l s ho j hj hs x d (i + 1) (by omega)).to ?_
      simp [hc]
theorem mayBe_ev (l s : List Int) (ho : isOrd l = true) (j : Nat) (hj : j < l.length) (hs : j ≤ s.length) (x : Int) : Ev (fun k => impl_mayBe.f k l s j x) (mayB l s j x) := by
  unfold impl_mayBe.f
  exact mayBe_l l s ho j hj hs x j 0 (by omega)
def fits (l s : List Int) : Bool := allFrom (fun j => mayB l s j (nth s j)) s.length 0
theorem l7Fits_l1 (l s : List Int) (ho : isOrd l = true) (j : Nat) (hj : j < s.length) (hs : s.length ≤ l.length) (r : Bool) (hr : Ev (fun k => spec_l7Fits.l0 k l s ((j + 1 : Nat) : Int)) r) : ∀ (d i : Nat), j = i + d → Ev (fun k => spec_l7Fits.l1 k l s j i) (allFrom (fun i => !(decide (nth s i = nth s j) && conf l i j)) d i && r)
  | 0, i, h => by
    have hl := isOrd_len ho
    refine Ev.step (fun k => by rw [spec_l7Fits.l1]) ?_
    have e : wrap64 ((j : Int) + 1) = ((j + 1 : Nat) : Int) := by rw [w64 (by omega)]; omega
    simp only [e]
    exact Ev.neg (by omega) (hr.to (by simp [allFrom]))
  | d + 1, i, h => by
    have hl := isOrd_len ho
    refine Ev.step (fun k => by rw [spec_l7Fits.l1]) ?_
    have e : wrap64 ((i : Int) + 1) = ((i + 1 : Nat) : Int) := by rw [w64 (by omega)]; omega
    simp only [e, rd_nat, allFrom]
    refine Ev.pos (by omega) (Ev.pos (by omega) (Ev.pos (by omega) (Ev.pos (by omega) (Ev.pos (by omega) (Ev.ite (fun hc => ?_) (fun hc => ?_))))))
    · refine Ev.bind (specConflict_ev l ho i j (by omega) (by omega)) (Ev.ite (fun hd => Ev.val ?_) (fun hd => (l7Fits_l1 l s ho j hj hs r hr d (i + 1) (by omega)).to ?_))
      · simp [hc, hd]
      · rw [Bool.not_eq_true] at hd; simp [hd]
    · refine (l7Fits_l1 l s ho j hj hs r hr d (i + 1) (by omega)).to ?_
      simp [hc]
theorem l7Fits_l (l s : List Int) (ho : isOrd l = true) (hs : s.length ≤ l.length) : ∀ (d j : Nat), s.length = j + d → Ev (fun k => spec_l7Fits.l0 k l s j) (allFrom (fun j => mayB l s j (nth s j)) d j)
  | 0, j, h => by
    refine Ev.step (fun k => by rw [spec_l7Fits.l0]) ?_
    exact Ev.neg (by omega) (Ev.val rfl)
  | d + 1, j, h => by
    refine Ev.step (fun k => by rw [spec_l7Fits.l0]) ?_
    refine Ev.pos (by omega) ?_
    exact l7Fits_l1 l s ho j (by omega) hs _ (l7Fits_l l s ho hs d (j + 1) (by omega)) j 0 (by omega)
theorem l7Fits_ev (l s : List Int) (ho : isOrd l = true) (hs : s.length ≤ l.length) : Ev (fun k => spec_l7Fits.f k l s) (fits l s) := by
  unfold spec_l7Fits.f
  exact l7Fits_l l s ho hs s.length 0 (by omega)
theorem isShar_of {l0 l1 : List Int} (h : isShar l0 l1 = true) : isOrd l0 = true ∧ l1.length = l0.length := by
  simp only [isShar, Bool.and_eq_true, decide_eq_true_eq] at h
  exact ⟨h.1, h.2.1⟩
def resFits (l0 l1 : List Int) : Bool × Bool := if isShar l0 l1 then (fits l0 l1, true) else (false, false)
theorem specFits_ev (l0 l1 : List Int) (hn0 : l0.length ≤ 17592186044415) (hn1 : l1.length ≤ 17592186044415) : Ev (fun k => spec_FitsSharing.f k l0 l1) (resFits l0 l1) := by
  unfold spec_FitsSharing.f
  refine Ev.bind (specIsSharing_ev l0 l1 hn0 hn1) (Ev.ite (fun hc => ?_) (fun hc => Ev.val ?_))
  · obtain ⟨ho, hl⟩ := isShar_of hc
    exact Ev.bind (l7Fits_ev l0 l1 ho (by omega)) (Ev.val (by simp [resFits, hc]))
  · simp [resFits, hc]
theorem implFits_l (l s : List Int) (ho : isOrd l = true) (hs : s.length = l.length) : ∀ (d j : Nat), s.length = j + d → Ev (fun k => impl_FitsSharing.l0 k l s s (s.length : Int) j) (allFrom (fun j => mayB l s j (nth s j)) d j, true)
  | 0, j, h => by
    refine Ev.step (fun k => by rw [impl_FitsSharing.l0]) ?_
    exact Ev.neg (by omega) (Ev.val rfl)
  | d + 1, j, h => by
    have hl := isOrd_len ho
    refine Ev.step (fun k => by rw [impl_FitsSharing.l0]) ?_
    have e : wrap64 ((j : Int) + 1) = ((j + 1 : Nat) : Int) := by rw [w64 (by omega)]; omega
    simp only [e, rd_nat, allFrom]
    refine Ev.pos (by omega) (Ev.pos (by omega) (Ev.pos (by omega) (Ev.bind (mayBe_ev l s ho j (by omega) (by omega) _) (Ev.ite (fun hd => ?_) (fun hd => Ev.val ?_)))))
    · exact (implFits_l l s ho hs d (j + 1) (by omega)).to (by simp [hd])
    · simp [hd]
theorem implFits_ev (l0 l1 : List Int) (hn0 : l0.length ≤ 17592186044415) (hn1 : l1.length ≤ 17592186044415) : Ev (fun k => impl_FitsSharing.f k l0 l1) (resFits l0 l1) := by
  unfold impl_FitsSharing.f
  refine Ev.bind (implIsSharing_ev l0 l1 hn0 hn1) (Ev.ite (fun hc => ?_) (fun hc => Ev.val ?_))
  · obtain ⟨ho, hl⟩ := isShar_of hc
    exact (implFits_l l0 l1 ho hl l1.length 0 (by omega)).to (by simp [resFits, hc, fits])
  · simp [resFits, hc]
theorem nth_append_lt (s : List Int) (x : Int) (i : Nat) (h : i < s.length) : nth (s ++ [x]) i = nth s i := by
  rw [nth_lt _ _ (by simp; omega), nth_lt _ _ h, List.getElem_append_left h]
theorem allFrom_congr (p q : Nat → Bool) : ∀ d i, (∀ j, i ≤ j → j < i + d → p j = q j) → allFrom p d i = allFrom q d i
  | 0, i, _ => rfl
  | d + 1, i, h => by
    rw [allFrom, allFrom, h i (by omega) (by omega), allFrom_congr p q d (i + 1) fun j h1 h2 => h j (by omega) (by omega)]
theorem allFrom_snoc (p : Nat → Bool) : ∀ d i, allFrom p (d + 1) i = (allFrom p d i && p (i + d))
  | 0, i => by simp [allFrom]
  | d + 1, i => by
    rw [allFrom, allFrom_snoc p d (i + 1), allFrom, Bool.and_assoc]
    congr 3
    omega
theorem mayB_append (l s : List Int) (x : Int) (j : Nat) (hj : j ≤ s.length) (y : Int) : mayB l (s ++ [x]) j y = mayB l s j y := by
  unfold mayB
  refine allFrom_congr _ _ j 0 fun i _ h => ?_
  rw [nth_append_lt s x i (by omega)]
theorem fits_snoc (l s : List Int) (x : Int) : fits l (s ++ [x]) = (fits l s && mayB l s s.length x) := by
  unfold fits
  rw [List.length_append, List.length_singleton, allFrom_snoc, Nat.zero_add, nth_snoc, mayB_append l s x s.length (Nat.le_refl _)]
  congr 1
  refine allFrom_congr _ _ _ _ fun j _ h => ?_
  rw [nth_append_lt s x j (by omega), mayB_append l s x j (by omega)]
def leaves (l : List Int) (n : Nat) : Nat → List Int → List (List Int)
  | 0, s => [s]
  | r + 1, s => (List.range' 0 n).flatMap fun (x : Nat) => if mayB l s s.length (x : Int) = true then leaves l n r (s ++ [(x : Int)]) else []
def stepL (l : List Int) (n r : Nat) (s : List Int) (x : Nat) : List (List Int) := if mayB l s s.length (x : Int) = true then leaves l n r (s ++ [(x : Int)]) else []
theorem leaves_succ (l : List Int) (n r : Nat) (s : List Int) : leaves l n (r + 1) s = (List.range' 0 n).flatMap (stepL l n r s) := rfl
theorem flatMap_bound {f : Nat → List (List Int)} {M : Nat} (h : ∀ x, (f x).length ≤ M) : ∀ xs : List Nat, (xs.flatMap f).length ≤ xs.length * M
  | [] => by simp
  | x :: xs => by
    have h1 := h x
    have h2 := flatMap_bound h xs
    rw [List.flatMap_cons, List.length_append, List.length_cons, Nat.succ_mul]
    omega
theorem leaves_bound (l : List Int) (n : Nat) : ∀ r s, (leaves l n r s).length ≤ n ^ r
  | 0, s => by simp [leaves]
  | r + 1, s => by
    have h := flatMap_bound (f := stepL l n r s) (M := n ^ r) (fun x => by
      unfold stepL
      split
      · exact leaves_bound l n r _
      · simp) (List.range' 0 n)
    rw [leaves_succ, Nat.pow_succ, Nat.mul_comm]
    simpa using h
theorem pow_small {n r : Nat} (hn : n ≤ 7) (hr : r ≤ 7) : n ^ r ≤ 823543 := by
  calc n ^ r ≤ 7 ^ r := Nat.pow_le_pow_left hn r
    _ ≤ 7 ^ 7 := Nat.pow_le_pow_right (by omega) hr
    _ = 823543 := by rfl
theorem head_append (A B : List (List Int)) : (A ++ B).headD [] = if A.length = 0 then B.headD [] else A.headD [] := by
  cases A <;> simp
theorem l7Go_l (l : List Int) (ho : isOrd l = true) (n : Nat) (hn : n ≤ 7) (r : Nat) (s : List Int) (hs : l.length = s.length + (r + 1)) (hf : fits l s = true)
    (ih : ∀ s, l.length = s.length + r → fits l s = true → Ev (fun k => spec_l7Go.f k l s n) ((leaves l n r s).headD [], ((leaves l n r s).length : Int))) :
    ∀ (d x : Nat) (A : List (List Int)), n = x + d → (A ++ (List.range' x d).flatMap (stepL l n r s)).length ≤ 1000000 → Ev (fun k => spec_l7Go.l0 k l s n (A.headD []) (A.length : Int) x) ((A ++ (List.range' x d).flatMap (stepL l n r s)).headD [], ((A ++ (List.range' x d).flatMap (stepL l n r s)).length : Int))
  | 0, x, A, h, hb => by
    refine Ev.step (fun k => by rw [spec_l7Go.l0]) ?_
    refine Ev.neg (by omega) (Ev.val ?_)
    simp
  | d + 1, x, A, h, hb => by
    have hl := isOrd_len ho
    have e1 : wrap64 ((x : Int) + 1) = ((x + 1 : Nat) : Int) := wup x (by omega)
    have hB : Ev (fun k => spec_l7Go.f k l (s ++ [(x : Int)]) n) ((stepL l n r s x).headD [], ((stepL l n r s x).length : Int)) := by
      unfold stepL
      by_cases hm : mayB l s s.length (x : Int) = true
      · rw [if_pos hm]
        exact ih (s ++ [(x : Int)]) (by simp; omega) (by rw [fits_snoc, hf, hm]; rfl)
      · rw [if_neg hm]
        refine Ev.step (fun k => by rw [spec_l7Go.f]) ?_
        refine Ev.bind (l7Fits_ev l (s ++ [(x : Int)]) ho (by simp; omega)) (Ev.neg ?_ (Ev.val rfl))
        rw [fits_snoc, hf]
        simp [hm]
    have hA := l7Go_l l ho n hn r s hs hf ih d (x + 1) (A ++ stepL l n r s x) (by omega)
    rw [List.range'_succ, List.flatMap_cons, ← List.append_assoc] at hb ⊢
    have hA := hA hb
    generalize stepL l n r s x = B at hB hA hb ⊢
    have hlen : A.length + B.length ≤ 1000000 := by
      rw [List.length_append, List.length_append] at hb
      omega
    have e2 : wrap64 ((A.length : Int) + (B.length : Int)) = ((A ++ B).length : Int) := by rw [w64 (by omega), List.length_append]; omega
    refine Ev.step (fun k => by rw [spec_l7Go.l0]) ?_
    simp only [l1Own_is s (by omega), Option.bind_some, e1]
    refine Ev.pos (by omega) (Ev.pos (by omega) (Ev.bind hB ?_))
    simp only [e2]
    rw [head_append] at hA
    refine Ev.ite (fun h0 => Ev.ite (fun h1 => ?_) (fun h1 => ?_)) (fun h0 => ?_)
    · rw [if_pos (by omega)] at hA; exact hA
    · have hb0 : B = [] := List.eq_nil_of_length_eq_zero (by omega)
      have ha0 : A = [] := List.eq_nil_of_length_eq_zero (by omega)
      subst hb0 ha0
      exact hA
    · rw [if_neg (by omega)] at hA; exact hA
theorem l7Go_ev (l : List Int) (ho : isOrd l = true) (n : Nat) (hn : n ≤ 7) : ∀ (r : Nat) (s : List Int), l.length = s.length + r → fits l s = true → Ev (fun k => spec_l7Go.f k l s n) ((leaves l n r s).headD [], ((leaves l n r s).length : Int))
  | 0, s, hs, hf => by
    refine Ev.step (fun k => by rw [spec_l7Go.f]) ?_
    exact Ev.bind (l7Fits_ev l s ho (by omega)) (Ev.pos hf (Ev.pos (by omega) (Ev.val rfl)))
  | r + 1, s, hs, hf => by
    have hl := isOrd_len ho
    refine Ev.step (fun k => by rw [spec_l7Go.f]) ?_
    refine Ev.bind (l7Fits_ev l s ho (by omega)) (Ev.pos hf (Ev.neg (by omega) ?_))
    have hb := leaves_bound l n (r + 1) s
    have hp := pow_small hn (show r + 1 ≤ 7 by omega)
    rw [leaves_succ] at hb
    exact l7Go_l l ho n hn r s hs hf (l7Go_ev l ho n hn r) n 0 [] (by omega) (by rw [List.nil_append]; omega)
theorem flatMap_ne {α β : Type} {f : α → List β} {xs : List α} : xs.flatMap f ≠ [] ↔ ∃ x ∈ xs, f x ≠ [] := by
  rw [ne_eq, List.flatMap_eq_nil_iff]
  constructor
  · intro h
    exact Classical.byContradiction fun h2 => h fun x hx => Classical.byContradiction fun h3 => h2 ⟨x, hx, h3⟩
  · rintro ⟨x, hx, h⟩ h2
    exact h (h2 x hx)
theorem leaves_ne {l : List Int} {n r : Nat} {s : List Int} : leaves l n (r + 1) s ≠ [] ↔ ∃ x : Nat, x < n ∧ mayB l s s.length (x : Int) = true ∧ leaves l n r (s ++ [(x : Int)]) ≠ [] := by
  rw [leaves_succ, flatMap_ne]
  constructor
  · rintro ⟨x, hx, h⟩
    rw [List.mem_range'_1] at hx
    unfold stepL at h
    split at h
    · rename_i hm
      exact ⟨x, by omega, hm, h⟩
    · exact absurd rfl h
  · rintro ⟨x, hx, hm, h⟩
    refine ⟨x, by rw [List.mem_range'_1]; omega, ?_⟩
    rw [stepL, if_pos hm]
    exact h
theorem mayB_map {l s : List Int} {σ : Int → Int} (hi : ∀ x y, σ x = σ y → x = y) (x : Int) : mayB l (s.map σ) s.length (σ x) = mayB l s s.length x := by
  unfold mayB
  refine allFrom_congr _ _ _ _ fun i _ h => ?_
  have h1 : nth (s.map σ) i = σ (nth s i) := by rw [nth_lt _ _ (by simp; omega), nth_lt _ _ (by omega), List.getElem_map]
  rw [h1]
  have h2 : (σ (nth s i) = σ x) = (nth s i = x) := by
    apply propext
    exact ⟨hi _ _, fun h => by rw [h]⟩
  simp only [h2]
theorem leaves_map {l : List Int} {n : Nat} {σ : Int → Int} (hi : ∀ x y, σ x = σ y → x = y) (hr : ∀ x : Nat, x < n → ∃ y : Nat, y < n ∧ σ x = y) : ∀ (r : Nat) (s : List Int), leaves l n r s ≠ [] → leaves l n r (s.map σ) ≠ []
  | 0, s, h => by simp [leaves]
  | r + 1, s, h => by
    obtain ⟨x, hx, hm, h2⟩ := leaves_ne.1 h
    obtain ⟨y, hy, e⟩ := hr x hx
    refine leaves_ne.2 ⟨y, hy, ?_, ?_⟩
    · rw [← e, List.length_map, mayB_map hi]; exact hm
    · have := leaves_map hi hr r _ h2
      rw [List.map_append, List.map_cons, List.map_nil, e] at this
      exact this
def swapI (a b x : Int) : Int := if x = a then b else if x = b then a else x
theorem swapI_inj (a b x y : Int) (h : swapI a b x = swapI a b y) : x = y := by
  unfold swapI at h
  split at h <;> split at h <;> (try split at h) <;> (try split at h) <;> omega
def canM (l : List Int) (n : Nat) : Nat → List Int → Nat → Bool
  | 0, _, _ => true
  | r + 1, s, u => (List.range' 0 n).any fun (x : Nat) => decide (x ≤ u) && (mayB l s s.length (x : Int) && canM l n r (s ++ [(x : Int)]) (max u (x + 1)))
theorem canM_iff (l : List Int) (n : Nat) : ∀ (r : Nat) (s : List Int) (u : Nat), (∀ y ∈ s, y < u) → (canM l n r s u = true ↔ leaves l n r s ≠ [])
  | 0, s, u, h => by simp [canM, leaves]
  | r + 1, s, u, h => by
    have hnext : ∀ x : Nat, (canM l n r (s ++ [(x : Int)]) (max u (x + 1)) = true ↔ leaves l n r (s ++ [(x : Int)]) ≠ []) := fun x => canM_iff l n r _ _ (fun y hy => by
      rcases List.mem_append.1 hy with hy | hy
      · have := h y hy; omega
      · rw [List.mem_singleton] at hy; omega)
    rw [canM, List.any_eq_true]
    simp only [Bool.and_eq_true, decide_eq_true_eq, hnext, List.mem_range'_1]
    constructor
    · rintro ⟨x, hx, _, hm, h2⟩
      exact leaves_ne.2 ⟨x, by omega, hm, h2⟩
    · intro hL
      obtain ⟨x, hx, hm, h2⟩ := leaves_ne.1 hL
      by_cases hu : x ≤ u
      · exact ⟨x, by omega, hu, hm, h2⟩
      · have hs : s.map (swapI x u) = s := by
          conv => rhs; rw [← List.map_id s]
          apply List.map_congr_left
          intro y hy
          have := h y hy
          unfold swapI
          rw [if_neg (by omega), if_neg (by omega)]
          rfl
        have e : swapI x u x = u := by simp [swapI]
        refine ⟨u, by omega, Nat.le_refl _, ?_, ?_⟩
        · have := mayB_map (l := l) (s := s) (swapI_inj x u) x
          rw [hs, e] at this
          rw [this]; exact hm
        · have := leaves_map (l := l) (n := n) (swapI_inj x u) (fun z hz => by
            by_cases h1 : z = x
            · exact ⟨u, by omega, by subst h1; exact e⟩
            · by_cases h2 : z = u
              · exact ⟨x, hx, by subst h2; unfold swapI; rw [if_neg (by omega), if_pos rfl]⟩
              · exact ⟨z, hz, by unfold swapI; rw [if_neg (by omega), if_neg (by omega)]⟩) r _ h2
          rw [List.map_append, hs, List.map_cons, List.map_nil, e] at this
          exact this
theorem leaves_own {l : List Int} {n : Nat} : ∀ (r : Nat) (s : List Int), s.length + r ≤ n → (∀ y ∈ s, y < s.length) → leaves l n r s ≠ []
  | 0, s, _, _ => by simp [leaves]
  | r + 1, s, h, hs => by
    refine leaves_ne.2 ⟨s.length, by omega, ?_, leaves_own r _ (by simp; omega) (fun y hy => ?_)⟩
    · unfold mayB
      refine (allFrom_iff _ _ _).2 fun i _ hi => ?_
      have h1 := hs (nth s i) (by rw [nth_lt _ _ (by omega)]; exact List.getElem_mem _)
      have h2 : ¬ nth s i = (s.length : Int) := by omega
      simp [h2]
    · rw [List.length_append, List.length_singleton]
      rcases List.mem_append.1 hy with hy | hy
      · have := hs y hy; omega
      · rw [List.mem_singleton] at hy; omega
def hasL (l : List Int) (n : Nat) : Bool := !(leaves l n l.length []).isEmpty
theorem hasL_iff {l : List Int} {n : Nat} : hasL l n = true ↔ leaves l n l.length [] ≠ [] := by
  unfold hasL
  cases leaves l n l.length [] <;> simp
theorem hasL_7 {l : List Int} (h : l.length ≤ 7) : hasL l 7 = true := hasL_iff.2 (leaves_own _ _ (by simp; omega) (by simp))
theorem canM_hasL (l : List Int) (n : Nat) : canM l n l.length [] 0 = hasL l n := Bool.eq_iff_iff.2 ((canM_iff l n l.length [] 0 (by simp)).trans hasL_iff.symm)
theorem l1Most_is (a b : Nat) : spec_l1Most.f a b = some ((max a b : Nat) : Int) := by
  unfold spec_l1Most.f
  by_cases h : (a : Int) > b
  · rw [if_pos h]; congr 1; omega
  · rw [if_neg h]; congr 1; omega
theorem any_none {u : Nat} (p : Nat → Bool) : ∀ (d x : Nat), u < x → (List.range' x d).any (fun y => decide (y ≤ u) && p y) = false
  | 0, x, _ => rfl
  | d + 1, x, h => by
    rw [List.range'_succ, List.any_cons, any_none p d (x + 1) (by omega)]
    have : ¬ x ≤ u := by omega
    simp [this]
theorem l7Can_l (l : List Int) (ho : isOrd l = true) (n : Nat) (hn : n ≤ 7) (r : Nat) (s : List Int) (u : Nat) (hu : u ≤ 7) (hs : l.length = s.length + (r + 1)) (hf : fits l s = true)
    (ih : ∀ (s : List Int) (u : Nat), u ≤ 7 → l.length = s.length + r → fits l s = true → Ev (fun k => spec_l7Can.f k l s (u : Int) (n : Int)) (canM l n r s u)) :
    ∀ (d x : Nat), n = x + d → Ev (fun k => spec_l7Can.l0 k l s (u : Int) (n : Int) (x : Int)) ((List.range' x d).any fun (x : Nat) => decide (x ≤ u) && (mayB l s s.length (x : Int) && canM l n r (s ++ [(x : Int)]) (max u (x + 1))))
  | 0, x, h => by
    refine Ev.step (fun k => by rw [spec_l7Can.l0]) ?_
    have e : decide ((x : Int) < n) = false := decide_eq_false (by omega)
    simp only [e]
    refine Ev.ite (fun _ => ?_) (fun _ => ?_)
    · refine Ev.step (fun k => by rw [spec_l7Can.j1]) ?_
      exact Ev.neg (by simp) (Ev.val rfl)
    · refine Ev.step (fun k => by rw [spec_l7Can.j1]) ?_
      exact Ev.neg (by simp) (Ev.val rfl)
  | d + 1, x, h => by
    have hl := isOrd_len ho
    refine Ev.step (fun k => by rw [spec_l7Can.l0]) ?_
    by_cases hxu : x ≤ u
    · have e : decide ((x : Int) < n) = true := decide_eq_true (by omega)
      simp only [e]
      refine Ev.pos (by omega) ?_
      refine Ev.step (fun k => by rw [spec_l7Can.j1]) ?_
      have e1 : wrap64 ((x : Int) + 1) = ((x + 1 : Nat) : Int) := wup x (by omega)
      simp only [e1, l1Own_is s (by omega), Option.bind_some, l1Most_is]
      refine Ev.pos trivial (Ev.pos (by omega) ?_)
      have hnext := l7Can_l l ho n hn r s u hu hs hf ih d (x + 1) (by omega)
      rw [List.range'_succ, List.any_cons, decide_eq_true hxu, Bool.true_and]
      by_cases hm : mayB l s s.length (x : Int) = true
      · rw [hm, Bool.true_and]
        refine Ev.bind (ih (s ++ [(x : Int)]) (max u (x + 1)) (by omega) (by simp; omega) (by rw [fits_snoc, hf, hm]; rfl)) (Ev.ite (fun hc => Ev.val ?_) (fun hc => ?_))
        · rw [hc]; rfl
        · rw [Bool.not_eq_true] at hc
          rw [hc, Bool.false_or]
          exact hnext
      · rw [Bool.not_eq_true] at hm
        rw [hm, Bool.false_and, Bool.false_or]
        refine Ev.bind (?_ : Ev _ false) (Ev.neg (by simp) hnext)
        refine Ev.step (fun k => by rw [spec_l7Can.f]) ?_
        refine Ev.bind (l7Fits_ev l (s ++ [(x : Int)]) ho (by simp; omega)) (Ev.neg ?_ (Ev.val rfl))
        rw [fits_snoc, hf, hm]
        simp
    · refine Ev.neg (by omega) ?_
      refine Ev.step (fun k => by rw [spec_l7Can.j1]) ?_
      refine Ev.neg (by simp) (Ev.val ?_)
      exact (any_none (fun (x : Nat) => mayB l s s.length (x : Int) && canM l n r (s ++ [(x : Int)]) (max u (x + 1))) (d + 1) x (by omega)).symm
theorem l7Can_ev (l : List Int) (ho : isOrd l = true) (n : Nat) (hn : n ≤ 7) : ∀ (r : Nat) (s : List Int) (u : Nat), u ≤ 7 → l.length = s.length + r → fits l s = true → Ev (fun k => spec_l7Can.f k l s (u : Int) (n : Int)) (canM l n r s u)
  | 0, s, u, hu, hs, hf => by
    refine Ev.step (fun k => by rw [spec_l7Can.f]) ?_
    exact Ev.bind (l7Fits_ev l s ho (by omega)) (Ev.pos hf (Ev.pos (by omega) (Ev.val rfl)))
  | r + 1, s, u, hu, hs, hf => by
    refine Ev.step (fun k => by rw [spec_l7Can.f]) ?_
    refine Ev.bind (l7Fits_ev l s ho (by omega)) (Ev.pos hf (Ev.neg (by omega) ?_))
    exact l7Can_l l ho n hn r s u hu hs hf (fun s u hu hs hf => l7Can_ev l ho n hn r s u hu hs hf) n 0 (by omega)
theorem can_ev (l : List Int) (ho : isOrd l = true) (n : Nat) (hn : n ≤ 7) : Ev (fun k => spec_l7Can.f k l [] 0 (n : Int)) (hasL l n) :=
  (l7Can_ev l ho n hn l.length [] 0 (by omega) (by simp) rfl).to (canM_hasL l n)
def few (l : List Int) : Nat → Nat → Nat
  | 0, k => k
  | d + 1, k => if hasL l k = true then k else few l d (k + 1)
theorem few_ok (l : List Int) (h7 : hasL l 7 = true) : ∀ d k, k + d = 7 → k ≤ few l d k ∧ few l d k ≤ 7 ∧ hasL l (few l d k) = true ∧ ∀ j, k ≤ j → j < few l d k → hasL l j = false
  | 0, k, h => by
    obtain rfl : k = 7 := by omega
    exact ⟨Nat.le_refl _, Nat.le_refl _, h7, fun j h1 h2 => by simp only [few] at h2; omega⟩
  | d + 1, k, h => by
    rw [few]
    by_cases hk : hasL l k = true
    · rw [if_pos hk]
      exact ⟨Nat.le_refl _, by omega, hk, fun j h1 h2 => by omega⟩
    · rw [if_neg hk]
      have := few_ok l h7 d (k + 1) (by omega)
      refine ⟨by omega, this.2.1, this.2.2.1, fun j h1 h2 => ?_⟩
      by_cases e : j = k
      · subst e; simpa using hk
      · exact this.2.2.2 j (by omega) h2
theorem l7Fewest_l (l : List Int) (ho : isOrd l = true) (h7 : hasL l 7 = true) : ∀ (d c : Nat), c + d = 7 → Ev (fun k => spec_l7Fewest.l0 k l (c : Int)) ((few l d c : Nat) : Int)
  | 0, c, h => by
    obtain rfl : c = 7 := by omega
    refine Ev.step (fun k => by rw [spec_l7Fewest.l0]) ?_
    exact Ev.bind (can_ev l ho 7 (by omega)) (Ev.pos h7 (Ev.val rfl))
  | d + 1, c, h => by
    refine Ev.step (fun k => by rw [spec_l7Fewest.l0]) ?_
    have e1 : wrap64 ((c : Int) + 1) = ((c + 1 : Nat) : Int) := wup c (by omega)
    simp only [e1]
    rw [few]
    refine Ev.bind (can_ev l ho c (by omega)) (Ev.ite (fun hc => ?_) (fun hc => ?_))
    · rw [if_pos hc]; exact Ev.val rfl
    · rw [if_neg hc]; exact l7Fewest_l l ho h7 d (c + 1) (by omega)
theorem l7Fewest_ev (l : List Int) (ho : isOrd l = true) : Ev (fun k => spec_l7Fewest.f k l) ((few l 6 1 : Nat) : Int) := by
  unfold spec_l7Fewest.f
  exact l7Fewest_l l ho (hasL_7 (isOrd_len ho).2) 6 1 (by omega)
def resFirstSharing (l : List Int) : List Int := if isOrd l = true then (if few l 6 1 ≤ 4 then (leaves l (few l 6 1) l.length []).headD [] else []) else []
def okFirstSharing (l : List Int) : Bool := isOrd l && decide (few l 6 1 ≤ 4)
theorem leaves_len (l : List Int) (n : Nat) : ∀ (r : Nat) (s : List Int), ∀ x ∈ leaves l n r s, x.length = s.length + r
  | 0, s, x, h => by
    simp only [leaves, List.mem_singleton] at h
    subst h; rfl
  | r + 1, s, x, h => by
    rw [leaves_succ, List.mem_flatMap] at h
    obtain ⟨y, _, h⟩ := h
    unfold stepL at h
    split at h
    · have := leaves_len l n r _ x h
      simp at this
      omega
    · simp at h
theorem resFirstSharing_length (l : List Int) : (resFirstSharing l).length ≤ 1000 := by
  unfold resFirstSharing
  split
  · rename_i h
    have := isOrd_len h
    split
    · cases e : leaves l (few l 6 1) l.length [] with
      | nil => simp
      | cons y L =>
        have := leaves_len l (few l 6 1) l.length [] y (by rw [e]; simp)
        simp at this
        simp
        omega
    · simp
  · simp
theorem specFirstSharing_ev (l : List Int) (hn : l.length ≤ 17592186044415) : Ev (fun k => spec_FirstSharing.f k l) (resFirstSharing l, okFirstSharing l) := by
  unfold spec_FirstSharing.f
  refine Ev.bind (l2Order_ev l (by omega)) (Ev.ite (fun ho => ?_) (fun ho => Ev.val ?_))
  · have h := few_ok l (hasL_7 (isOrd_len ho).2) 6 1 (by omega)
    refine Ev.bind (l7Fewest_ev l ho) (Ev.ite (fun hc => Ev.val ?_) (fun hc => ?_))
    · have : ¬ few l 6 1 ≤ 4 := by omega
      simp [resFirstSharing, okFirstSharing, ho, this]
    · have : few l 6 1 ≤ 4 := by omega
      exact Ev.bind (l7Go_ev l ho (few l 6 1) (by omega) l.length [] (by simp) rfl) (Ev.val (by simp [resFirstSharing, okFirstSharing, ho, this]))
  · simp [resFirstSharing, okFirstSharing, ho]
def tot (s : Pl) : Nat := (s.x 0).length + (s.x 1).length + (s.x 2).length + (s.x 3).length
def nf : Nat → Pl → Pl
  | 0, s => s
  | n + 1, s => if s.hit 0 then nf n (s.pop 0) else if s.hit 1 then nf n (s.pop 1) else if s.hit 2 then nf n (s.pop 2) else if s.hit 3 then nf n (s.pop 3) else s
def NF (s : Pl) : Pl := nf (tot s) s
theorem four (j : Nat) (hj : j < 4) : j = 0 ∨ j = 1 ∨ j = 2 ∨ j = 3 := by omega
theorem pop_x4 (s : Pl) (j : Nat) (hj : j < 4) : (s.pop j).x 4 = s.x 4 ++ [lastOf (s.x j)] := by
  unfold Pl.pop
  dsimp only
  rw [upd_ne _ _ (by omega), upd_same]
theorem pop_same (s : Pl) (j : Nat) (hj : j < 4) : (s.pop j).x j = (s.x j).take ((s.x j).length - 1) := by
  unfold Pl.pop
  dsimp only
  rw [upd_same]
theorem pop_ne (s : Pl) (j a : Nat) (hj : j < 4) (ha : a < 4) (h : a ≠ j) : (s.pop j).x a = s.x a := by
  unfold Pl.pop
  dsimp only
  rw [upd_ne _ _ h, upd_ne _ _ (by omega)]
theorem tot_upd (x : Nat → List Int) (j : Nat) (hj : j < 4) (l : List Int) : tot ⟨upd x j l, [], fun _ => 0⟩ + (x j).length = tot ⟨x, [], fun _ => 0⟩ + l.length := by
  unfold tot
  rcases four j hj with rfl | rfl | rfl | rfl <;> simp [upd] <;> omega
theorem tot_pop (s : Pl) (j : Nat) (hj : j < 4) (h : 0 < (s.x j).length) : tot (s.pop j) + 1 = tot s := by
  have h1 := pop_same s j hj
  have e : ∀ a, a < 4 → a ≠ j → (s.pop j).x a = s.x a := fun a ha hne => pop_ne s j a hj ha hne
  unfold tot
  rcases four j hj with rfl | rfl | rfl | rfl
  · rw [h1, e 1 (by omega) (by omega), e 2 (by omega) (by omega), e 3 (by omega) (by omega)]; simp; omega
  · rw [h1, e 0 (by omega) (by omega), e 2 (by omega) (by omega), e 3 (by omega) (by omega)]; simp; omega
  · rw [h1, e 1 (by omega) (by omega), e 0 (by omega) (by omega), e 3 (by omega) (by omega)]; simp; omega
  · rw [h1, e 1 (by omega) (by omega), e 2 (by omega) (by omega), e 0 (by omega) (by omega)]; simp; omega
structure PInv (o : List Int) (i : Nat) (s : Pl) : Prop where
  D : ∀ a b, a < 4 → b < 4 → ∀ v, v ∈ s.x a → v ∈ s.x b → a = b
  M : ∀ a, a < 4 → ∀ v, v ∈ s.x a → v ∈ o.take i
  T : tot s + (s.x 4).length = i
  V : s.mv.length = i + (s.x 4).length
theorem lastOf_mem (l : List Int) (h : 0 < l.length) : lastOf l ∈ l := by
  unfold lastOf
  rw [show ((l.length : Int) - 1) = ((l.length - 1 : Nat) : Int) by omega, rd_nat, nth_lt l _ (by omega)]
  exact List.getElem_mem _
theorem PInv.pop {o : List Int} {i : Nat} {s : Pl} (h : PInv o i s) (j : Nat) (hj : j < 4) (hh : 0 < (s.x j).length) : PInv o i (s.pop j) := by
  have sub : ∀ a, a < 4 → ∀ v, v ∈ (s.pop j).x a → v ∈ s.x a := by
    intro a ha v hv
    by_cases e : a = j
    · subst e
      rw [pop_same s a hj] at hv
      exact List.mem_of_mem_take hv
    · rw [pop_ne s j a hj ha e] at hv
      exact hv
  refine ⟨fun a b ha hb v h1 h2 => h.D a b ha hb v (sub a ha v h1) (sub b hb v h2), fun a ha v hv => h.M a ha v (sub a ha v hv), ?_, ?_⟩
  · have h1 := tot_pop s j hj hh
    have h2 := h.T
    rw [pop_x4 s j hj, List.length_append, List.length_singleton]
    omega
  · have h2 := h.V
    rw [pop_x4 s j hj, List.length_append, List.length_singleton]
    show (s.mv ++ [97 + (j : Int)]).length = _
    rw [List.length_append, List.length_singleton]
    omega
theorem PInv.uniq {o : List Int} {i : Nat} {s : Pl} (h : PInv o i s) {a b : Nat} (ha : a < 4) (hb : b < 4) (h1 : s.hit a) (h2 : s.hit b) : a = b := by
  refine h.D a b ha hb (lastOf (s.x a)) (lastOf_mem _ h1.1) ?_
  rw [h1.2, ← h2.2]
  exact lastOf_mem _ h2.1
theorem PInv.ok {o : List Int} {i : Nat} {s : Pl} (h : PInv o i s) (hi : i ≤ 7) : s.ok := by
  have h1 := h.T
  have h2 := h.V
  unfold tot at h1
  refine ⟨⟨by omega, by omega⟩, fun j hj => ?_⟩
  rcases four j hj with rfl | rfl | rfl | rfl <;> omega
theorem NF_pop {o : List Int} {i : Nat} {s : Pl} (h : PInv o i s) (j : Nat) (hj : j < 4) (hh : s.hit j) : NF s = NF (s.pop j) := by
  have ht := tot_pop s j hj hh.1
  unfold NF
  rw [← ht, nf]
  have hn : ∀ a, a < 4 → a ≠ j → ¬ s.hit a := fun a ha hne hk => hne (h.uniq ha hj hk hh)
  rcases four j hj with rfl | rfl | rfl | rfl
  · rw [if_pos hh]
  · rw [if_neg (hn 0 (by omega) (by omega)), if_pos hh]
  · rw [if_neg (hn 0 (by omega) (by omega)), if_neg (hn 1 (by omega) (by omega)), if_pos hh]
  · rw [if_neg (hn 0 (by omega) (by omega)), if_neg (hn 1 (by omega) (by omega)), if_neg (hn 2 (by omega) (by omega)), if_pos hh]
theorem NF_none (s : Pl) (h : ∀ j, j < 4 → ¬ s.hit j) : NF s = s := by
  unfold NF
  cases tot s with
  | zero => rfl
  | succ n => rw [nf, if_neg (h 0 (by omega)), if_neg (h 1 (by omega)), if_neg (h 2 (by omega)), if_neg (h 3 (by omega))]
theorem NF_inv {o : List Int} {i : Nat} : ∀ (n : Nat) (s : Pl), PInv o i s → tot s = n → PInv o i (NF s)
  | n, s, h, hn => by
    by_cases hx : ∃ j, j < 4 ∧ s.hit j
    · obtain ⟨j, hj, hh⟩ := hx
      rw [NF_pop h j hj hh]
      have ht := tot_pop s j hj hh.1
      match n, hn with
      | 0, hn => omega
      | n + 1, hn => exact NF_inv n (s.pop j) (h.pop j hj hh.1) (by omega)
    · rw [NF_none s (fun j hj hh => hx ⟨j, hj, hh⟩)]
      exact h
theorem popGo_ev {o : List Int} {i : Nat} (hi : i ≤ 7) : ∀ (n d j : Nat) (s : Pl), PInv o i s → tot s = n → j + d = 4 → (∀ a, a < j → ¬ s.hit a) → Ev (fun k => popGo k j s) (NF s)
  | n, 0, j, s, h, hn, hj, hno => by
    refine Ev.step (fun k => by rw [popGo]) ?_
    refine Ev.neg (by omega) (Ev.val ?_)
    exact (NF_none s (fun a ha => hno a (by omega))).symm
  | 0, d + 1, j, s, h, hn, hj, hno => by
    have hk : ¬ s.hit j := fun hh => by have := tot_pop s j (by omega) hh.1; omega
    refine Ev.step (fun k => by rw [popGo]) ?_
    refine Ev.pos (by omega) (Ev.pos (h.ok hi) (Ev.neg hk ?_))
    refine popGo_ev hi 0 d (j + 1) s h hn (by omega) (fun a ha => ?_)
    by_cases e : a = j
    · subst e; exact hk
    · exact hno a (by omega)
  | n + 1, d + 1, j, s, h, hn, hj, hno => by
    refine Ev.step (fun k => by rw [popGo]) ?_
    refine Ev.pos (by omega) (Ev.pos (h.ok hi) (Ev.ite (fun hh => ?_) (fun hk => ?_)))
    · have ht := tot_pop s j (by omega) hh.1
      rw [NF_pop h j (by omega) hh]
      exact popGo_ev hi n 4 0 (s.pop j) (h.pop j (by omega) hh.1) (by omega) (by omega) (fun a ha => by omega)
    · refine popGo_ev hi (n + 1) d (j + 1) s h hn (by omega) (fun a ha => ?_)
      by_cases e : a = j
      · subst e; exact hk
      · exact hno a (by omega)
  termination_by n d => (n, d)
theorem pass_is {o : List Int} {i : Nat} (hi : i ≤ 7) : ∀ (n j : Nat) (s : Pl) (p : Bool), j + n = 4 → PInv o i s →
    ∃ s' p', playPass n j s p = some (s', p') ∧ NF s' = NF s ∧ PInv o i s' ∧ tot s' ≤ tot s ∧ (p' = true → p = true ∨ tot s' < tot s) ∧ (p' = false → s' = s ∧ p = false ∧ ∀ a, j ≤ a → a < 4 → ¬ s.hit a)
  | 0, j, s, p, hj, h => ⟨s, p, rfl, rfl, h, Nat.le_refl _, fun e => .inl e, fun e => ⟨rfl, e, fun a h1 h2 => by omega⟩⟩
  | n + 1, j, s, p, hj, h => by
    by_cases hh : s.hit j
    · have ht := tot_pop s j (by omega) hh.1
      obtain ⟨s', p', h1, h2, h3, h4, h5, h6⟩ := pass_is hi n (j + 1) (s.pop j) true (by omega) (h.pop j (by omega) hh.1)
      refine ⟨s', p', by rw [playPass, if_pos hh, if_pos (h.ok hi), h1], by rw [h2, NF_pop h j (by omega) hh], h3, by omega, fun e => .inr (by omega), fun e => ?_⟩
      have := (h6 e).2.1
      cases this
    · obtain ⟨s', p', h1, h2, h3, h4, h5, h6⟩ := pass_is hi n (j + 1) s p (by omega) h
      refine ⟨s', p', by rw [playPass, if_neg hh, if_pos (h.ok hi), h1], h2, h3, h4, h5, fun e => ⟨(h6 e).1, (h6 e).2.1, fun a ha1 ha2 => ?_⟩⟩
      by_cases e2 : a = j
      · subst e2; exact hh
      · exact (h6 e).2.2 a (by omega) ha2
theorem playAll_ev {o : List Int} {i : Nat} (hi : i ≤ 7) : ∀ (n : Nat) (s : Pl), tot s ≤ n → PInv o i s → Ev (fun k => playAll k s) (NF s)
  | 0, s, hn, h => by
    obtain ⟨s', p', h1, h2, h3, h4, h5, h6⟩ := pass_is hi 4 0 s false (by omega) h
    refine Ev.step (fun k => by rw [playAll, h1, Option.bind_some]) ?_
    refine Ev.neg (fun e => ?_) (Ev.val ?_)
    · rcases h5 e with e2 | e2
      · cases e2
      · omega
    · cases p' with
      | true => rcases h5 rfl with e2 | e2
                · cases e2
                · omega
      | false =>
        obtain ⟨rfl, _, h7⟩ := h6 rfl
        exact (NF_none _ (fun a ha => h7 a (by omega) ha)).symm
  | n + 1, s, hn, h => by
    obtain ⟨s', p', h1, h2, h3, h4, h5, h6⟩ := pass_is hi 4 0 s false (by omega) h
    refine Ev.step (fun k => by rw [playAll, h1, Option.bind_some]) ?_
    refine Ev.ite (fun e => ?_) (fun e => Ev.val ?_)
    · rcases h5 e with e2 | e2
      · cases e2
      · rw [← h2]
        exact playAll_ev hi n s' (by omega) h3
    · cases p' with
      | true => exact absurd rfl e
      | false =>
        obtain ⟨rfl, _, h7⟩ := h6 rfl
        exact (NF_none _ (fun a ha => h7 a (by omega) ha)).symm
def stepP (o sh : List Int) (i : Nat) (s : Pl) : Pl := NF (s.push (nth sh i).toNat (nth o i))
def goP (o sh : List Int) : Nat → Nat → Pl → Pl
  | 0, _, s => s
  | r + 1, i, s => goP o sh r (i + 1) (stepP o sh i s)
def playM (o sh : List Int) : Pl := goP o sh o.length 0 Pl.zero
theorem zero_inv (o : List Int) : PInv o 0 Pl.zero := by
  refine ⟨fun a b _ _ v h => ?_, fun a _ v h => ?_, rfl, rfl⟩
  · cases h
  · cases h
theorem push_inv {o : List Int} (ho : isOrd o = true) {i : Nat} (hi : i < o.length) {s : Pl} (h : PInv o i s) (own : Nat) (hown : own < 4) : PInv o (i + 1) (s.push own (nth o i)) := by
  have hfresh := (isOrd_at ho i hi).2.2
  have hx : ∀ a, a < 4 → ∀ v, v ∈ (s.push own (nth o i)).x a → (v ∈ s.x a) ∨ (a = own ∧ v = nth o i) := by
    intro a ha v hv
    unfold Pl.push at hv
    by_cases e : a = own
    · subst e
      simp only [upd_same, List.mem_append, List.mem_singleton] at hv
      rcases hv with hv | hv
      · exact .inl hv
      · exact .inr ⟨rfl, hv⟩
    · simp only [upd_ne _ _ e] at hv
      exact .inl hv
  have h4 : (s.push own (nth o i)).x 4 = s.x 4 := by
    unfold Pl.push
    simp only [upd_ne s.x _ (show 4 ≠ own by omega)]
  refine ⟨fun a b ha hb v h1 h2 => ?_, fun a ha v hv => ?_, ?_, ?_⟩
  · rcases hx a ha v h1 with k1 | ⟨e1, e2⟩
    · rcases hx b hb v h2 with k2 | ⟨e3, e4⟩
      · exact h.D a b ha hb v k1 k2
      · exact absurd (e4 ▸ h.M a ha _ k1) hfresh
    · rcases hx b hb v h2 with k2 | ⟨e3, e4⟩
      · exact absurd (e2 ▸ h.M b hb _ k2) hfresh
      · rw [e1, e3]
  · rw [take_step o i hi, List.mem_append, List.mem_singleton]
    rcases hx a ha v hv with hv | ⟨_, hv⟩
    · exact .inl (h.M a ha v hv)
    · exact .inr hv
  · rw [h4]
    have h1 := tot_upd s.x own hown (s.x own ++ [nth o i])
    rw [List.length_append, List.length_singleton] at h1
    have h2 := h.T
    have h3 : tot (s.push own (nth o i)) = tot ⟨upd s.x own (s.x own ++ [nth o i]), [], fun _ => 0⟩ := rfl
    have h5 : tot s = tot ⟨s.x, [], fun _ => 0⟩ := rfl
    omega
  · rw [h4]
    have h2 := h.V
    show (s.mv ++ [65 + (own : Int)]).length = _
    rw [List.length_append, List.length_singleton]
    omega
theorem playGo_ev {o sh : List Int} (ho : isOrd o = true) (hl : sh.length = o.length) (hsh : ∀ j, j < sh.length → 0 ≤ nth sh j ∧ nth sh j < 4) : ∀ (r i : Nat) (s : Pl), i + r = o.length → PInv o i s →
    Ev (fun k => playGo k o sh r i s) (goP o sh r i s) ∧ Ev (fun k => movesGo k o sh r i s) (goP o sh r i s) ∧ PInv o o.length (goP o sh r i s)
  | 0, i, s, hi, h => by
    obtain rfl : i = o.length := by omega
    exact ⟨Ev.val rfl, Ev.val rfl, h⟩
  | r + 1, i, s, hi, h => by
    have hl7 := (isOrd_len ho).2
    have hs := hsh i (by omega)
    have hp := push_inv ho (show i < o.length by omega) h (nth sh i).toNat (by omega)
    have hs' : PInv o (i + 1) (stepP o sh i s) := NF_inv _ _ hp rfl
    obtain ⟨h1, h2, h3⟩ := playGo_ev ho hl hsh r (i + 1) (stepP o sh i s) (by omega) hs'
    refine ⟨?_, ?_, h3⟩
    · simp only [playGo, rd_nat]
      exact Ev.pos ⟨hs, h.ok (by omega)⟩ (Ev.bind (playAll_ev (by omega) _ _ (Nat.le_refl _) hp) h1)
    · simp only [movesGo, rd_nat]
      exact Ev.pos ⟨hs, h.ok (by omega)⟩ (Ev.bind (popGo_ev (by omega) _ 4 0 _ hp rfl (by omega) (fun a ha => by omega)) h2)
theorem isShar_all {o sh : List Int} (h : isShar o sh = true) : isOrd o = true ∧ sh.length = o.length ∧ ∀ j, j < sh.length → 0 ≤ nth sh j ∧ nth sh j < 4 := by
  simp only [isShar, Bool.and_eq_true, decide_eq_true_eq, Bool.not_eq_true', List.any_eq_false] at h
  refine ⟨h.1, h.2.1, fun j hj => ?_⟩
  have := h.2.2 (nth sh j) (by rw [nth_lt sh j hj]; exact List.getElem_mem _)
  simp [badStack] at this
  exact this
theorem play_ev {o sh : List Int} (h : isShar o sh = true) : Ev (fun k => impl_play.f k o sh) (playM o sh) := by
  obtain ⟨ho, hl, hsh⟩ := isShar_all h
  unfold impl_play.f
  exact Ev.pos ⟨hl, by have := isOrd_len ho; omega⟩ (playGo_ev ho hl hsh o.length 0 Pl.zero (by omega) (zero_inv o)).1
theorem l7Moves_ev {o sh : List Int} (h : isShar o sh = true) : Ev (fun k => spec_l7Moves.f k o sh) (playM o sh) := by
  obtain ⟨ho, hl, hsh⟩ := isShar_all h
  unfold spec_l7Moves.f
  exact Ev.pos ⟨hl, by have := isOrd_len ho; omega⟩ (playGo_ev ho hl hsh o.length 0 Pl.zero (by omega) (zero_inv o)).2.1
theorem playM_inv {o sh : List Int} (h : isShar o sh = true) : PInv o o.length (playM o sh) := by
  obtain ⟨ho, hl, hsh⟩ := isShar_all h
  exact (playGo_ev ho hl hsh o.length 0 Pl.zero (by omega) (zero_inv o)).2.2
def resMovesOf (l s : List Int) : ByteArray × Bool := if isShar l s then (strOfNums (playM l s).mv, true) else (⟨#[]⟩, false)
theorem specMovesOf_ev (l s : List Int) (hn : l.length ≤ 17592186044415) (hs : s.length ≤ 17592186044415) : Ev (fun k => spec_MovesOf.f k l s) (resMovesOf l s) := by
  unfold spec_MovesOf.f
  refine Ev.bind (specIsSharing_ev l s hn hs) (Ev.ite (fun hc => ?_) (fun hc => Ev.val ?_))
  · exact Ev.bind (l7Moves_ev hc) (Ev.val (by simp [resMovesOf, hc]))
  · simp [resMovesOf, hc]
theorem implMovesOf_ev (l s : List Int) (hn : l.length ≤ 17592186044415) (hs : s.length ≤ 17592186044415) : Ev (fun k => impl_MovesOf.f k l s) (resMovesOf l s) := by
  unfold impl_MovesOf.f
  refine Ev.bind (implIsSharing_ev l s hn hs) (Ev.ite (fun hc => ?_) (fun hc => Ev.val ?_))
  · exact Ev.bind (play_ev hc) (Ev.val (by simp [resMovesOf, hc]))
  · simp [resMovesOf, hc]
def resDepthsOf (l s : List Int) : Int × Int × Int × Int × Bool := if isShar l s then ((playM l s).d 0, (playM l s).d 1, (playM l s).d 2, (playM l s).d 3, true) else (0, 0, 0, 0, false)
theorem specDepthsOf_ev (l s : List Int) (hn : l.length ≤ 17592186044415) (hs : s.length ≤ 17592186044415) : Ev (fun k => spec_DepthsOf.f k l s) (resDepthsOf l s) := by
  unfold spec_DepthsOf.f
  refine Ev.bind (specIsSharing_ev l s hn hs) (Ev.ite (fun hc => ?_) (fun hc => Ev.val ?_))
  · exact Ev.bind (l7Moves_ev hc) (Ev.val (by simp [resDepthsOf, hc]))
  · simp [resDepthsOf, hc]
theorem implDepthsOf_ev (l s : List Int) (hn : l.length ≤ 17592186044415) (hs : s.length ≤ 17592186044415) : Ev (fun k => impl_DepthsOf.f k l s) (resDepthsOf l s) := by
  unfold impl_DepthsOf.f
  refine Ev.bind (implIsSharing_ev l s hn hs) (Ev.ite (fun hc => ?_) (fun hc => Ev.val ?_))
  · exact Ev.bind (play_ev hc) (Ev.val (by simp [resDepthsOf, hc]))
  · simp [resDepthsOf, hc]
def resComesOut (l s : List Int) : List Int := if isShar l s then (playM l s).x 4 else []
theorem resComesOut_length (l s : List Int) : (resComesOut l s).length ≤ 1000 := by
  unfold resComesOut
  split
  · rename_i h
    have h1 := (playM_inv h).T
    have h2 := isOrd_len (isShar_all h).1
    omega
  · simp
theorem specComesOut_ev (l s : List Int) (hn : l.length ≤ 17592186044415) (hs : s.length ≤ 17592186044415) : Ev (fun k => spec_ComesOut.f k l s) (resComesOut l s, isShar l s) := by
  unfold spec_ComesOut.f
  refine Ev.bind (specIsSharing_ev l s hn hs) (Ev.ite (fun hc => ?_) (fun hc => Ev.val ?_))
  · exact Ev.bind (l7Moves_ev hc) (Ev.val (by simp [resComesOut, hc]))
  · simp [resComesOut, hc]
theorem implComesOut_ev (l s : List Int) (hn : l.length ≤ 17592186044415) (hs : s.length ≤ 17592186044415) : Ev (fun k => impl_ComesOut.f k l s) (resComesOut l s, isShar l s) := by
  unfold impl_ComesOut.f
  refine Ev.bind (implIsSharing_ev l s hn hs) (Ev.ite (fun hc => ?_) (fun hc => Ev.val ?_))
  · exact Ev.bind (play_ev hc) (Ev.val (by simp [resComesOut, hc]))
  · simp [resComesOut, hc]
def cJ (l : List Int) (i : Nat) : Nat → Nat → List S41 → List S41
  | 0, _, A => A
  | d + 1, j, A => cJ l i d (j + 1) (if conf l i j = true then A ++ [⟨(i : Int), (j : Int)⟩] else A)
def cI (l : List Int) : Nat → Nat → List S41 → List S41
  | 0, _, A => A
  | d + 1, i, A => cI l d (i + 1) (cJ l i d (i + 1) A)
theorem cJ_len (l : List Int) (i : Nat) : ∀ (d j : Nat) (A : List S41), (cJ l i d j A).length ≤ A.length + d
  | 0, _, A => Nat.le_refl _
  | d + 1, j, A => by
    rw [cJ]
    split
    · have := cJ_len l i d (j + 1) (A ++ [⟨(i : Int), (j : Int)⟩])
      simp at this ⊢
      omega
    · have := cJ_len l i d (j + 1) A
      omega
theorem cI_len (l : List Int) : ∀ (d i : Nat) (A : List S41), (cI l d i A).length ≤ A.length + d * d
  | 0, _, A => by simp [cI]
  | d + 1, i, A => by
    rw [cI]
    have h1 := cI_len l d (i + 1) (cJ l i d (i + 1) A)
    have h2 := cJ_len l i d (i + 1) A
    have h3 : (d + 1) * (d + 1) = d * d + 2 * d + 1 := by rw [Nat.add_mul, Nat.mul_add]; omega
    omega
theorem specC_l1 (l : List Int) (ho : isOrd l = true) (i : Nat) (hi : i < l.length) (R : List S41 → List S41) (hR : ∀ A, A.length ≤ 7 * (i + 1) → Ev (fun k => spec_l7Conflicts.l0 k l A ((i + 1 : Nat) : Int)) (R A)) : ∀ (d j : Nat) (A : List S41), l.length = j + d → i < j → A.length ≤ 7 * i + j → Ev (fun k => spec_l7Conflicts.l1 k l A (i : Int) (j : Int)) (R (cJ l i d j A))
  | 0, j, A, h, hj, hA => by
    have hl := isOrd_len ho
    have e : wrap64 ((i : Int) + 1) = ((i + 1 : Nat) : Int) := wup i (by omega)
    refine Ev.step (fun k => by rw [spec_l7Conflicts.l1]) ?_
    simp only [e]
    exact Ev.neg (by omega) (hR A (by omega))
  | d + 1, j, A, h, hj, hA => by
    have hl := isOrd_len ho
    have e : wrap64 ((j : Int) + 1) = ((j + 1 : Nat) : Int) := wup j (by omega)
    refine Ev.step (fun k => by rw [spec_l7Conflicts.l1]) ?_
    simp only [e]
    rw [cJ]
    refine Ev.pos (by omega) (Ev.bind (specConflict_ev l ho i j hj (by omega)) (Ev.ite (fun hc => Ev.pos (by omega) ?_) (fun hc => ?_)))
    · rw [if_pos hc]; exact specC_l1 l ho i hi R hR d (j + 1) _ (by omega) (by omega) (by simp; omega)
    · rw [if_neg hc]; exact specC_l1 l ho i hi R hR d (j + 1) _ (by omega) (by omega) (by omega)
theorem specC_l0 (l : List Int) (ho : isOrd l = true) : ∀ (d i : Nat) (A : List S41), l.length = i + d → A.length ≤ 7 * i → Ev (fun k => spec_l7Conflicts.l0 k l A (i : Int)) (cI l d i A)
  | 0, i, A, h, hA => by
    refine Ev.step (fun k => by rw [spec_l7Conflicts.l0]) ?_
    exact Ev.neg (by omega) (Ev.val rfl)
  | d + 1, i, A, h, hA => by
    have hl := isOrd_len ho
    have e : wrap64 ((i : Int) + 1) = ((i + 1 : Nat) : Int) := wup i (by omega)
    refine Ev.step (fun k => by rw [spec_l7Conflicts.l0]) ?_
    simp only [e]
    rw [cI]
    exact Ev.pos (by omega) (specC_l1 l ho i (by omega) (fun A => cI l d (i + 1) A) (fun A hA => specC_l0 l ho d (i + 1) A (by omega) hA) d (i + 1) A (by omega) (by omega) (by omega))
theorem implC_l1 (l : List Int) (ho : isOrd l = true) (i : Nat) (hi : i < l.length) (R : List S41 → List S41 × Bool) (hR : ∀ A, A.length ≤ 7 * (i + 1) → Ev (fun k => impl_ConflictsOf.l0 k l A (l.length : Int) ((i + 1 : Nat) : Int)) (R A)) : ∀ (d j : Nat) (A : List S41), l.length = j + d → i < j → A.length ≤ 7 * i + j → Ev (fun k => impl_ConflictsOf.l1 k l A (i : Int) (j : Int) (l.length : Int) (i : Int)) (R (cJ l i d j A))
  | 0, j, A, h, hj, hA => by
    have hl := isOrd_len ho
    have e : wrap64 ((i : Int) + 1) = ((i + 1 : Nat) : Int) := wup i (by omega)
    refine Ev.step (fun k => by rw [impl_ConflictsOf.l1]) ?_
    simp only [e]
    exact Ev.neg (by omega) (hR A (by omega))
  | d + 1, j, A, h, hj, hA => by
    have hl := isOrd_len ho
    have e : wrap64 ((j : Int) + 1) = ((j + 1 : Nat) : Int) := wup j (by omega)
    refine Ev.step (fun k => by rw [impl_ConflictsOf.l1]) ?_
    simp only [e]
    rw [cJ]
    refine Ev.pos (by omega) (Ev.bind (implConflict_ev l ho i j hj (by omega)) (Ev.ite (fun hc => Ev.pos (by omega) ?_) (fun hc => ?_)))
    · rw [if_pos hc]; exact implC_l1 l ho i hi R hR d (j + 1) _ (by omega) (by omega) (by simp; omega)
    · rw [if_neg hc]; exact implC_l1 l ho i hi R hR d (j + 1) _ (by omega) (by omega) (by omega)
theorem implC_l0 (l : List Int) (ho : isOrd l = true) : ∀ (d i : Nat) (A : List S41), l.length = i + d → A.length ≤ 7 * i → Ev (fun k => impl_ConflictsOf.l0 k l A (l.length : Int) (i : Int)) (cI l d i A, true)
  | 0, i, A, h, hA => by
    refine Ev.step (fun k => by rw [impl_ConflictsOf.l0]) ?_
    exact Ev.neg (by omega) (Ev.val rfl)
  | d + 1, i, A, h, hA => by
    have hl := isOrd_len ho
    have e : wrap64 ((i : Int) + 1) = ((i + 1 : Nat) : Int) := wup i (by omega)
    refine Ev.step (fun k => by rw [impl_ConflictsOf.l0]) ?_
    simp only [e]
    rw [cI]
    exact Ev.pos (by omega) (implC_l1 l ho i (by omega) (fun A => (cI l d (i + 1) A, true)) (fun A hA => implC_l0 l ho d (i + 1) A (by omega) hA) d (i + 1) A (by omega) (by omega) (by omega))
def resConflictsOf (l : List Int) : List S41 := if isOrd l = true then cI l l.length 0 [] else []
theorem resConflictsOf_length (l : List Int) : (resConflictsOf l).length ≤ 1000 := by
  unfold resConflictsOf
  split
  · rename_i h
    have h1 := isOrd_len h
    have h2 := cI_len l l.length 0 []
    have h3 : l.length * l.length ≤ 7 * 7 := Nat.mul_le_mul h1.2 h1.2
    simp at h2
    omega
  · simp
theorem specConflictsOf_ev (l : List Int) (hn : l.length ≤ 17592186044415) : Ev (fun k => spec_ConflictsOf.f k l) (resConflictsOf l, isOrd l) := by
  unfold spec_ConflictsOf.f resConflictsOf
  refine Ev.bind (l2Order_ev l (by omega)) (Ev.ite (fun hc => ?_) (fun hc => Ev.val ?_))
  · rw [if_pos hc, hc]
    unfold spec_l7Conflicts.f
    exact Ev.bind (specC_l0 l hc l.length 0 [] (by omega) (by simp)) (Ev.val rfl)
  · rw [if_neg hc]; rw [Bool.not_eq_true] at hc; rw [hc]
theorem implConflictsOf_ev (l : List Int) (hn : l.length ≤ 17592186044415) : Ev (fun k => impl_ConflictsOf.f k l) (resConflictsOf l, isOrd l) := by
  unfold impl_ConflictsOf.f resConflictsOf
  refine Ev.bind (isOrder_ev l (by omega)) (Ev.ite (fun hc => ?_) (fun hc => Ev.val ?_))
  · rw [if_pos hc, hc]
    exact implC_l0 l hc l.length 0 [] (by omega) (by simp)
  · rw [if_neg hc]; rw [Bool.not_eq_true] at hc; rw [hc]
theorem NF_ind (Pr : Pl → Prop) (hp : ∀ s j, j < 4 → s.hit j → Pr s → Pr (s.pop j)) : ∀ (n : Nat) (s : Pl), Pr s → Pr (nf n s)
  | 0, s, h => h
  | n + 1, s, h => by
    rw [nf]
    split
    · rename_i hh; exact NF_ind Pr hp n _ (hp s 0 (by omega) hh h)
    · split
      · rename_i hh; exact NF_ind Pr hp n _ (hp s 1 (by omega) hh h)
      · split
        · rename_i hh; exact NF_ind Pr hp n _ (hp s 2 (by omega) hh h)
        · split
          · rename_i hh; exact NF_ind Pr hp n _ (hp s 3 (by omega) hh h)
          · exact h
theorem NF_done {o : List Int} {i : Nat} : ∀ (n : Nat) (s : Pl), PInv o i s → tot s = n → ∀ j, j < 4 → ¬ (NF s).hit j
  | n, s, h, hn => by
    by_cases hx : ∃ j, j < 4 ∧ s.hit j
    · obtain ⟨j, hj, hh⟩ := hx
      rw [NF_pop h j hj hh]
      have ht := tot_pop s j hj hh.1
      match n, hn with
      | 0, hn => omega
      | n + 1, hn => exact NF_done n (s.pop j) (h.pop j hj hh.1) (by omega)
    · rw [NF_none s (fun j hj hh => hx ⟨j, hj, hh⟩)]
      exact fun j hj hh => hx ⟨j, hj, hh⟩
theorem nth_left (l r : List Int) (k : Nat) (h : k < l.length) : nth (l ++ r) k = nth l k := by
  unfold nth
  rw [List.getD_eq_getElem?_getD, List.getD_eq_getElem?_getD, List.getElem?_append_left h]
theorem last_split (l : List Int) (h : 0 < l.length) : l = l.take (l.length - 1) ++ [lastOf l] := by
  have h1 := take_step l (l.length - 1) (by omega)
  rw [show l.length - 1 + 1 = l.length by omega, List.take_length] at h1
  unfold lastOf
  rw [show ((l.length : Int) - 1) = ((l.length - 1 : Nat) : Int) by omega, rd_nat]
  exact h1
theorem last_snoc (t : List Int) (z : Int) : lastOf (t ++ [z]) = z := by
  unfold lastOf
  rw [show (((t ++ [z]).length : Int) - 1) = (t.length : Int) by simp, rd_nat]
  exact nth_snoc t z
theorem take_snoc (t : List Int) (z : Int) : (t ++ [z]).take ((t ++ [z]).length - 1) = t := by simp
def cnt (sh : List Int) (a i : Nat) : Nat := (sh.take i).countP (fun x => decide (x = (a : Int)))
theorem cnt_step (sh : List Int) (a i : Nat) (hi : i < sh.length) : cnt sh a (i + 1) = cnt sh a i + (if nth sh i = (a : Int) then 1 else 0) := by
  unfold cnt
  rw [take_step _ _ hi, List.countP_append]
  congr 1
  by_cases h : nth sh i = (a : Int) <;> simp [h]
theorem cnt_all (sh : List Int) (hsh : ∀ j, j < sh.length → 0 ≤ nth sh j ∧ nth sh j < 4) : ∀ i, i ≤ sh.length → cnt sh 0 i + cnt sh 1 i + cnt sh 2 i + cnt sh 3 i = i
  | 0, _ => by simp [cnt]
  | i + 1, h => by
    have h1 := cnt_all sh hsh i (by omega)
    have h2 := hsh i (by omega)
    rw [cnt_step _ _ _ (by omega), cnt_step _ _ _ (by omega), cnt_step _ _ _ (by omega), cnt_step _ _ _ (by omega)]
    have : nth sh i = 0 ∨ nth sh i = 1 ∨ nth sh i = 2 ∨ nth sh i = 3 := by omega
    rcases this with e | e | e | e <;> simp [e] <;> omega
structure QInv (o sh : List Int) (i : Nat) (s : Pl) : Prop where
  P : PInv o i s
  O : ∀ k, k < (s.x 4).length → nth (s.x 4) k = (k : Int) + 1
  E : ∀ v, v ∈ s.x 4 → v ∈ o.take i
  C : ∀ v, v ∈ o.take i → v ∈ s.x 4 ∨ ∃ a, a < 4 ∧ v ∈ s.x a
  U : ∀ a, a < 4 → (s.x a).Nodup
  N : ∀ a, a < 4 → ∀ v, v ∈ s.x a → ((s.x 4).length : Int) < v
  W : ∀ a, a < 4 → ∀ v, v ∈ s.x a → ∃ p, p < i ∧ nth o p = v ∧ nth sh p = (a : Int)
  L : ∀ a, a < 4 → (s.x a).length ≤ cnt sh a i
  G : ∀ a, a < 4 → 0 ≤ s.d a ∧ s.d a ≤ (cnt sh a i : Int) ∧ (0 < cnt sh a i → 0 < s.d a)
theorem pop_sub (s : Pl) (j : Nat) (hj : j < 4) (a : Nat) (ha : a < 4) (v : Int) (hv : v ∈ (s.pop j).x a) : v ∈ s.x a := by
  by_cases e : a = j
  · subst e
    rw [pop_same s a hj] at hv
    exact List.mem_of_mem_take hv
  · rw [pop_ne s j a hj ha e] at hv
    exact hv
theorem QInv.pop {o sh : List Int} {i : Nat} {s : Pl} (h : QInv o sh i s) (j : Nat) (hj : j < 4) (hh : s.hit j) : QInv o sh i (s.pop j) := by
  have e4 := pop_x4 s j hj
  have ej := pop_same s j hj
  have hs := last_split (s.x j) hh.1
  have hv := hh.2
  have hm := lastOf_mem (s.x j) hh.1
  refine ⟨h.P.pop j hj hh.1, ?_, ?_, ?_, ?_, ?_, ?_, ?_, h.G⟩
  · intro k hk
    rw [e4] at hk ⊢
    rw [List.length_append, List.length_singleton] at hk
    by_cases hk2 : k < (s.x 4).length
    · rw [nth_left _ _ _ hk2]; exact h.O k hk2
    · obtain rfl : k = (s.x 4).length := by omega
      rw [nth_snoc]; exact hv
  · intro v h1
    rw [e4, List.mem_append, List.mem_singleton] at h1
    rcases h1 with h1 | rfl
    · exact h.E v h1
    · exact h.P.M j hj _ hm
  · intro v h1
    rcases h.C v h1 with h2 | ⟨a, ha, h2⟩
    · exact .inl (by rw [e4]; exact List.mem_append_left _ h2)
    · by_cases e : a = j
      · subst e
        rw [hs, List.mem_append, List.mem_singleton] at h2
        rcases h2 with h2 | rfl
        · exact .inr ⟨a, ha, by rw [ej]; exact h2⟩
        · exact .inl (by rw [e4]; simp)
      · exact .inr ⟨a, ha, by rw [pop_ne s j a hj ha e]; exact h2⟩
  · intro a ha
    by_cases e : a = j
    · subst e; rw [ej]; exact (h.U a ha).sublist (List.take_sublist _ _)
    · rw [pop_ne s j a hj ha e]; exact h.U a ha
  · intro a ha v h1
    have h2 := pop_sub s j hj a ha v h1
    have h3 := h.N a ha v h2
    have h4 : v ≠ lastOf (s.x j) := by
      intro e
      by_cases ea : a = j
      · subst ea
        rw [ej] at h1
        have hn := h.U a ha
        rw [hs, List.nodup_append] at hn
        exact hn.2.2 v h1 (lastOf (s.x a)) (by simp) e
      · exact ea (h.P.D a j ha hj v h2 (by rw [e]; exact hm))
    rw [e4, List.length_append, List.length_singleton]
    omega
  · intro a ha v h1
    exact h.W a ha v (pop_sub s j hj a ha v h1)
  · intro a ha
    have := h.L a ha
    by_cases e : a = j
    · subst e; rw [ej, List.length_take]; omega
    · rw [pop_ne s j a hj ha e]; exact this
theorem push_x4 (s : Pl) (own : Nat) (n : Int) (hown : own < 4) : (s.push own n).x 4 = s.x 4 := by
  unfold Pl.push
  simp only [upd_ne s.x _ (show 4 ≠ own by omega)]
theorem push_own (s : Pl) (own : Nat) (n : Int) : (s.push own n).x own = s.x own ++ [n] := by
  unfold Pl.push
  simp only [upd_same]
theorem push_ne (s : Pl) (own a : Nat) (n : Int) (h : a ≠ own) : (s.push own n).x a = s.x a := by
  unfold Pl.push
  simp only [upd_ne _ _ h]
theorem QInv.small {o sh : List Int} {i : Nat} {s : Pl} (h : QInv o sh i s) (v : Int) (h1 : 1 ≤ v) (h2 : v ≤ ((s.x 4).length : Int)) : v ∈ s.x 4 := by
  have h3 := h.O (v - 1).toNat (by omega)
  rw [nth_lt _ _ (by omega)] at h3
  rw [show v = (((v - 1).toNat : Nat) : Int) + 1 by omega, ← h3]
  exact List.getElem_mem _
theorem QInv.out {o sh : List Int} {i : Nat} {s : Pl} (h : QInv o sh i s) (v : Int) (hv : v ∈ s.x 4) : 1 ≤ v ∧ v ≤ ((s.x 4).length : Int) := by
  obtain ⟨k, hk, e⟩ := List.mem_iff_getElem.1 hv
  have := h.O k hk
  rw [nth_lt _ _ hk, e] at this
  omega
theorem QInv.push {o sh : List Int} (ho : isOrd o = true) (hl : sh.length = o.length) {i : Nat} (hi : i < o.length) {s : Pl} (h : QInv o sh i s) (own : Nat) (hown : own < 4) (hsh : nth sh i = (own : Int)) : QInv o sh (i + 1) (s.push own (nth o i)) := by
  have hfresh := (isOrd_at ho i hi).2.2
  have hrng := isOrd_at ho i hi
  have e4 := push_x4 s own (nth o i) hown
  have hx : ∀ a, a < 4 → ∀ v, v ∈ (s.push own (nth o i)).x a → (v ∈ s.x a) ∨ (a = own ∧ v = nth o i) := by
    intro a ha v hv
    by_cases e : a = own
    · subst e
      rw [push_own, List.mem_append, List.mem_singleton] at hv
      rcases hv with hv | hv
      · exact .inl hv
      · exact .inr ⟨rfl, hv⟩
    · rw [push_ne _ _ _ _ e] at hv
      exact .inl hv
  have hup : ∀ v, v ∈ o.take i → v ∈ o.take (i + 1) := fun v hv => by rw [take_step o i hi]; exact List.mem_append_left _ hv
  refine ⟨push_inv ho hi h.P own hown, ?_, ?_, ?_, ?_, ?_, ?_, ?_, ?_⟩
  · rw [e4]; exact h.O
  · rw [e4]; exact fun v hv => hup v (h.E v hv)
  · intro v hv
    rw [take_step o i hi, List.mem_append, List.mem_singleton] at hv
    rw [e4]
    rcases hv with hv | rfl
    · rcases h.C v hv with h2 | ⟨a, ha, h2⟩
      · exact .inl h2
      · refine .inr ⟨a, ha, ?_⟩
        by_cases e : a = own
        · subst e; rw [push_own]; exact List.mem_append_left _ h2
        · rw [push_ne _ _ _ _ e]; exact h2
    · exact .inr ⟨own, hown, by rw [push_own]; simp⟩
  · intro a ha
    by_cases e : a = own
    · subst e
      rw [push_own, List.nodup_append]
      refine ⟨h.U a ha, by simp, fun x hx y hy e2 => ?_⟩
      rw [List.mem_singleton] at hy
      subst hy
      subst e2
      exact hfresh (h.P.M a ha _ hx)
    · rw [push_ne _ _ _ _ e]; exact h.U a ha
  · intro a ha v hv
    rw [e4]
    rcases hx a ha v hv with h1 | ⟨_, rfl⟩
    · exact h.N a ha v h1
    · refine Int.not_le.1 fun hle => hfresh (h.E _ (h.small _ hrng.1 hle))
  · intro a ha v hv
    rcases hx a ha v hv with h1 | ⟨rfl, rfl⟩
    · obtain ⟨p, h2, h3, h4⟩ := h.W a ha v h1
      exact ⟨p, by omega, h3, h4⟩
    · exact ⟨i, by omega, rfl, hsh⟩
  · intro a ha
    have h1 := h.L a ha
    rw [cnt_step sh a i (by omega), hsh]
    by_cases e : a = own
    · subst e; rw [push_own, List.length_append, List.length_singleton, if_pos rfl]; omega
    · rw [push_ne _ _ _ _ e]; omega
  · intro a ha
    have h1 := h.L a ha
    have h2 := h.G a ha
    rw [cnt_step sh a i (by omega), hsh]
    by_cases e : a = own
    · subst e
      rw [if_pos rfl]
      have hd : (s.push a (nth o i)).d a = mx (s.d a) (((s.x a).length : Int) + 1) := by unfold Pl.push; simp only [upd_same]
      have hmx : mx (s.d a) (((s.x a).length : Int) + 1) = if s.d a < ((s.x a).length : Int) + 1 then ((s.x a).length : Int) + 1 else s.d a := rfl
      rw [hd, hmx]
      refine ⟨?_, ?_, ?_⟩ <;> split <;> omega
    · rw [if_neg (by omega)]
      have hd : (s.push own (nth o i)).d a = s.d a := by unfold Pl.push; simp only [upd_ne _ _ e]
      rw [hd]
      exact h2
theorem goP_ind {o sh : List Int} (Pr : Nat → Pl → Prop) (hstep : ∀ i s, i < o.length → Pr i s → Pr (i + 1) (stepP o sh i s)) : ∀ (r i : Nat) (s : Pl), i + r = o.length → Pr i s → Pr o.length (goP o sh r i s)
  | 0, i, s, h, hp => by obtain rfl : i = o.length := by omega
                         exact hp
  | r + 1, i, s, h, hp => goP_ind Pr hstep r (i + 1) _ (by omega) (hstep i s (by omega) hp)
theorem min_top (l : List Int) (hd : l.Pairwise (fun u v => v < u)) (b : Int) (hb : ∀ v ∈ l, b ≤ v) (hm : b ∈ l) : 0 < l.length ∧ lastOf l = b := by
  have h0 : 0 < l.length := List.length_pos_of_mem hm
  refine ⟨h0, ?_⟩
  have hs := last_split l h0
  rw [hs, List.mem_append, List.mem_singleton] at hm
  rcases hm with hm | hm
  · rw [hs, List.pairwise_append] at hd
    have h1 := hd.2.2 b hm (lastOf l) (by simp)
    have h2 := hb _ (lastOf_mem l h0)
    omega
  · exact hm.symm
def NoHit (s : Pl) : Prop := ∀ j, j < 4 → ¬ s.hit j
def Desc (s : Pl) : Prop := ∀ a, a < 4 → (s.x a).Pairwise (fun u v => v < u)
theorem zero_Q (o sh : List Int) : QInv o sh 0 Pl.zero := by
  refine ⟨zero_inv o, fun k hk => ?_, fun v hv => ?_, fun v hv => ?_, fun a _ => List.nodup_nil, fun a _ v hv => ?_, fun a _ v hv => ?_, fun a _ => Nat.zero_le _, fun a _ => ?_⟩
  · exact absurd hk (Nat.not_lt_zero _)
  · cases hv
  · simp at hv
  · cases hv
  · cases hv
  · refine ⟨Int.le_refl _, by simp [cnt, Pl.zero], fun h => ?_⟩
    simp [cnt] at h
theorem zero_nohit : NoHit Pl.zero := fun j _ h => absurd h.1 (Nat.not_lt_zero _)
theorem step_Q {o sh : List Int} (ho : isOrd o = true) (hl : sh.length = o.length) (hsh : ∀ j, j < sh.length → 0 ≤ nth sh j ∧ nth sh j < 4) {i : Nat} (hi : i < o.length) {s : Pl} (h : QInv o sh i s) : QInv o sh (i + 1) (s.push (nth sh i).toNat (nth o i)) := by
  have h1 := hsh i (by omega)
  exact h.push ho hl hi (nth sh i).toNat (by omega) (by omega)
theorem step_done {o sh : List Int} (ho : isOrd o = true) (hl : sh.length = o.length) (hsh : ∀ j, j < sh.length → 0 ≤ nth sh j ∧ nth sh j < 4) {i : Nat} (hi : i < o.length) {s : Pl} (h : QInv o sh i s) : QInv o sh (i + 1) (stepP o sh i s) ∧ NoHit (stepP o sh i s) :=
  ⟨NF_ind (fun s => QInv o sh (i + 1) s) (fun s j hj hh h => h.pop j hj hh) _ _ (step_Q ho hl hsh hi h), NF_done _ _ (step_Q ho hl hsh hi h).P rfl⟩
theorem playM_Q {o sh : List Int} (h : isShar o sh = true) : QInv o sh o.length (playM o sh) ∧ NoHit (playM o sh) := by
  obtain ⟨ho, hl, hsh⟩ := isShar_all h
  exact goP_ind (fun i s => QInv o sh i s ∧ NoHit s) (fun i s hi hp => step_done ho hl hsh hi hp.1) o.length 0 Pl.zero (by omega) ⟨zero_Q o sh, zero_nohit⟩
theorem fits_iff (l s : List Int) : fits l s = true ↔ ∀ j i, j < s.length → i < j → nth s i = nth s j → conf l i j = false := by
  unfold fits mayB
  rw [allFrom_iff]
  constructor
  · intro h j i hj hi e
    have h1 := (allFrom_iff _ _ _).1 (h j (by omega) (by omega)) i (by omega) (by omega)
    simpa [e] using h1
  · intro h j _ hj
    rw [allFrom_iff]
    intro i _ hi
    have h1 := h j i (by omega) (by omega)
    by_cases e : nth s i = nth s j
    · simp [e, h1 e]
    · simp [e]
theorem conf_iff (l : List Int) (i j : Nat) : conf l i j = true ↔ nth l i < nth l j ∧ ∃ q, j < q ∧ q < l.length ∧ nth l q < nth l i := by
  unfold conf
  rw [Bool.and_eq_true, decide_eq_true_eq, List.any_eq_true]
  refine and_congr_right fun _ => ⟨?_, ?_⟩
  · rintro ⟨x, hx, h⟩
    obtain ⟨q, hq, e⟩ := List.mem_iff_getElem.1 hx
    simp only [List.length_drop] at hq
    rw [List.getElem_drop] at e
    refine ⟨j + 1 + q, by omega, by omega, ?_⟩
    rw [nth_lt _ _ (by omega), e]
    simpa [lessThan] using h
  · rintro ⟨q, h1, h2, h3⟩
    refine ⟨nth l q, ?_, by simpa [lessThan] using h3⟩
    rw [List.mem_iff_getElem]
    refine ⟨q - (j + 1), by simp only [List.length_drop]; omega, ?_⟩
    rw [List.getElem_drop, nth_lt l q h2]
    congr 1
    omega
theorem next_top {o sh : List Int} {i : Nat} {s : Pl} (h : QInv o sh i s) (hd : Desc s) (hm : ((s.x 4).length : Int) + 1 ∈ o.take i) : ∃ a, a < 4 ∧ s.hit a := by
  rcases h.C _ hm with h1 | ⟨a, ha, h1⟩
  · have := (h.out _ h1).2; omega
  · exact ⟨a, ha, min_top (s.x a) (hd a ha) _ (fun v hv => by have := h.N a ha v hv; omega) h1⟩
theorem mem_nth {l : List Int} {x : Int} (h : x ∈ l) : ∃ i : Nat, i < l.length ∧ nth l i = x := by
  obtain ⟨i, hi, e⟩ := List.mem_iff_getElem.1 h
  exact ⟨i, hi, by rw [nth_lt _ _ hi]; exact e⟩
theorem nth_mem_take {l : List Int} {p i : Nat} (hp : p < i) (hi : i ≤ l.length) : nth l p ∈ l.take i := by
  rw [nth_lt l p (by omega)]
  exact List.mem_take_iff_getElem.2 ⟨p, by omega, rfl⟩
theorem push_desc {o sh : List Int} (ho : isOrd o = true) (hl : sh.length = o.length) (hsh : ∀ j, j < sh.length → 0 ≤ nth sh j ∧ nth sh j < 4) (hf : fits o sh = true) {i : Nat} (hi : i < o.length) {s : Pl} (h : QInv o sh i s) (hn : NoHit s) (hd : Desc s) : Desc (s.push (nth sh i).toNat (nth o i)) := by
  have h1 := hsh i (by omega)
  intro a ha
  by_cases e : a = (nth sh i).toNat
  · subst e
    rw [push_own, List.pairwise_append]
    refine ⟨hd _ ha, by simp, fun u hu v hv => ?_⟩
    rw [List.mem_singleton] at hv
    subst hv
    refine Int.not_le.1 fun hle => ?_
    have hne : u ≠ nth o i := fun e2 => (isOrd_at ho i hi).2.2 (e2 ▸ h.P.M _ ha u hu)
    have hlt : u < nth o i := by omega
    obtain ⟨p, hp, hpu, hps⟩ := h.W _ ha u hu
    have hN := h.N _ ha u hu
    have hir := isOrd_at ho i hi
    have hm1 := isOrd_all ho (((s.x 4).length : Int) + 1) (by omega) (by omega)
    obtain ⟨q, hq, e3⟩ := mem_nth hm1
    have hnd := isOrd_nodup ho
    by_cases hqi : q < i
    · obtain ⟨b, hb, hb2⟩ := next_top h hd (by rw [← e3]; exact nth_mem_take hqi (by omega))
      exact hn b hb hb2
    · have hq2 : q ≠ i := fun e4 => by subst e4; omega
      have hqp : nth o q ≠ nth o p := fun e4 => by have := nodup_nth hnd q p hq (by omega) e4; omega
      have hc : conf o p i = true := (conf_iff o p i).2 ⟨by omega, q, by omega, hq, by omega⟩
      have := (fits_iff o sh).1 hf i p (by omega) hp (by rw [hps]; omega)
      rw [hc] at this
      cases this
  · rw [push_ne _ _ _ _ e]; exact hd a ha
theorem pop_desc {s : Pl} (hd : Desc s) (j : Nat) (hj : j < 4) : Desc (s.pop j) := by
  intro a ha
  by_cases e : a = j
  · subst e; rw [pop_same s a hj]; exact (hd a ha).sublist (List.take_sublist _ _)
  · rw [pop_ne s j a hj ha e]; exact hd a ha
theorem fits_all {o sh : List Int} (h : isShar o sh = true) (hf : fits o sh = true) : ((playM o sh).x 4).length = o.length := by
  obtain ⟨ho, hl, hsh⟩ := isShar_all h
  have hz : Desc Pl.zero := fun a _ => List.Pairwise.nil
  obtain ⟨h1, h2, h3⟩ := goP_ind (o := o) (sh := sh) (fun i s => QInv o sh i s ∧ NoHit s ∧ Desc s) (fun i s hi hp => by
    obtain ⟨g1, g2⟩ := step_done ho hl hsh hi hp.1
    refine ⟨g1, g2, ?_⟩
    exact NF_ind Desc (fun s j hj _ hd => pop_desc hd j hj) _ _ (push_desc ho hl hsh hf hi hp.1 hp.2.1 hp.2.2)) o.length 0 Pl.zero (by omega) ⟨zero_Q o sh, zero_nohit, hz⟩
  have hT := h1.P.T
  refine Nat.le_antisymm (show ((playM o sh).x 4).length ≤ o.length from by unfold playM; omega) (Nat.not_lt.1 fun hlt => ?_)
  have hlt' : ((goP o sh o.length 0 Pl.zero).x 4).length < o.length := hlt
  obtain ⟨a, ha, hh⟩ := next_top h1 h3 (by rw [List.take_length]; exact isOrd_all ho _ (by omega) (by omega))
  exact h2 a ha hh
def Stuck (u v : Int) (l : List Int) : Prop := ∃ A B : List Int, l = A ++ u :: B ∧ v ∈ B
theorem pop_stuck {o sh : List Int} {i : Nat} {s : Pl} (h : QInv o sh i s) {u v : Int} (huv : u < v) {a : Nat} (ha : a < 4) (hs : Stuck u v (s.x a)) (j : Nat) (hj : j < 4) (hh : s.hit j) : Stuck u v ((s.pop j).x a) := by
  by_cases e : a = j
  · subst e
    obtain ⟨A, B, h1, h2⟩ := hs
    have hB := last_split B (List.length_pos_of_mem h2)
    generalize B.take (B.length - 1) = B' at hB
    generalize lastOf B = z at hB
    subst hB
    have h3 : s.x a = (A ++ u :: B') ++ [z] := by rw [h1]; simp
    rw [pop_same s a hj, h3, take_snoc]
    refine ⟨A, B', rfl, ?_⟩
    rcases List.mem_append.1 h2 with h2 | h2
    · exact h2
    · rw [List.mem_singleton] at h2
      subst h2
      have h4 := hh.2
      rw [h3, last_snoc] at h4
      have h5 := h.N a ha u (by rw [h1]; simp)
      omega
  · rw [pop_ne s j a hj ha e]; exact hs
theorem stuck_mem {u v : Int} {l : List Int} (h : Stuck u v l) : u ∈ l := by
  obtain ⟨A, B, rfl, _⟩ := h
  simp
theorem fits_none {o sh : List Int} (h : isShar o sh = true) (hf : fits o sh = false) : ((playM o sh).x 4).length ≠ o.length := by
  obtain ⟨ho, hl, hsh⟩ := isShar_all h
  have hnd := isOrd_nodup ho
  have hx : ∃ j i, j < sh.length ∧ i < j ∧ nth sh i = nth sh j ∧ conf o i j = true := by
    refine Classical.byContradiction fun hc => ?_
    have : fits o sh = true := (fits_iff o sh).2 fun j i hj hi e => by
      cases hb : conf o i j
      · rfl
      · exact absurd ⟨j, i, hj, hi, e, hb⟩ hc
    rw [hf] at this
    cases this
  obtain ⟨t, p, ht, hp, e, hc⟩ := hx
  obtain ⟨huv, q, hq1, hq2, hq3⟩ := (conf_iff o p t).1 hc
  have hst := hsh t ht
  have ha : (nth sh t).toNat < 4 := by omega
  obtain ⟨h1, h2, h3⟩ := goP_ind (o := o) (sh := sh) (fun i s => QInv o sh i s ∧ NoHit s ∧ (t < i → Stuck (nth o p) (nth o t) (s.x (nth sh t).toNat))) (fun i s hi hp' => by
    obtain ⟨g1, g2⟩ := step_done ho hl hsh hi hp'.1
    refine ⟨g1, g2, fun hti => ?_⟩
    have hpu : QInv o sh (i + 1) (s.push (nth sh i).toNat (nth o i)) ∧ Stuck (nth o p) (nth o t) ((s.push (nth sh i).toNat (nth o i)).x (nth sh t).toNat) := by
      refine ⟨step_Q ho hl hsh hi hp'.1, ?_⟩
      by_cases eti : t = i
      · subst eti
        rw [push_own]
        have hu : nth o p ∈ s.x (nth sh t).toNat := by
          rcases hp'.1.C _ (nth_mem_take hp (by omega)) with g | ⟨b, hb, g⟩
          · have g3 := (hp'.1.out _ g).2
            have g4 := hp'.1.E _ (hp'.1.small (nth o q) (isOrd_at ho q hq2).1 (by omega))
            obtain ⟨r, hr, er⟩ := List.mem_take_iff_getElem.1 g4
            have := nodup_nth hnd r q (by omega) hq2 (by rw [nth_lt _ _ (by omega)]; exact er)
            omega
          · obtain ⟨p', h5, h6, h7⟩ := hp'.1.W b hb _ g
            have := nodup_nth hnd p' p (by omega) (by omega) h6
            subst this
            rw [show (nth sh t).toNat = b by omega]
            exact g
        obtain ⟨A, B, eAB⟩ := List.append_of_mem hu
        exact ⟨A, B ++ [nth o t], by rw [eAB]; simp, by simp⟩
      · obtain ⟨A, B, e1, e2⟩ := hp'.2.2 (by omega)
        by_cases eo : (nth sh t).toNat = (nth sh i).toNat
        · rw [eo, push_own, ← eo, e1]
          exact ⟨A, B ++ [nth o i], by simp, List.mem_append_left _ e2⟩
        · rw [push_ne _ _ _ _ eo]; exact ⟨A, B, e1, e2⟩
    exact (NF_ind (fun s => QInv o sh (i + 1) s ∧ Stuck (nth o p) (nth o t) (s.x (nth sh t).toNat)) (fun s j hj hh g => ⟨g.1.pop j hj hh, pop_stuck g.1 huv ha g.2 j hj hh⟩) _ _ hpu).2) o.length 0 Pl.zero (by omega) ⟨zero_Q o sh, zero_nohit, fun hlt => absurd hlt (Nat.not_lt_zero _)⟩
  have hT := h1.P.T
  have hm := stuck_mem (h3 (by omega))
  intro hlen
  have hlen' : ((goP o sh o.length 0 Pl.zero).x 4).length = o.length := hlen
  have h0 : 0 < ((goP o sh o.length 0 Pl.zero).x (nth sh t).toNat).length := List.length_pos_of_mem hm
  have : tot (goP o sh o.length 0 Pl.zero) = 0 := by omega
  unfold tot at this
  rcases four _ ha with e4 | e4 | e4 | e4 <;> rw [e4] at h0 <;> omega
theorem play_fits {o sh : List Int} (h : isShar o sh = true) : decide (((playM o sh).x 4).length = o.length) = fits o sh := by
  cases hf : fits o sh
  · exact decide_eq_false (fits_none h hf)
  · exact decide_eq_true (fits_all h hf)
def chK : List Int → List Int → Nat → List (List Int)
  | own, _, 0 => [own]
  | _, [], _ + 1 => []
  | own, y :: t, j + 1 => chK (own ++ [y]) t j ++ chK own t (j + 1)
theorem at_l (l d : List Int) (hd : ∀ x ∈ d, 0 ≤ x ∧ x < (l.length : Int)) (hn : d.length ≤ 1000) : ∀ (m i : Nat) (out : List Int), d.length = i + m → out.length ≤ i → Ev (fun k => impl_at.l0 k l out d (d.length : Int) (i : Int)) (out ++ (d.drop i).map (rd l))
  | 0, i, out, h, ho => by
    refine Ev.step (fun k => by rw [impl_at.l0]) (Ev.neg (by omega) (Ev.val ?_))
    rw [List.drop_eq_nil_of_le (by omega)]; simp
  | m + 1, i, out, h, ho => by
    have e : wrap64 ((i : Int) + 1) = ((i + 1 : Nat) : Int) := by rw [w64 (by omega)]; omega
    have hz := hd (nth d i) (by rw [nth_lt d i (by omega)]; exact List.getElem_mem _)
    refine Ev.step (fun k => by rw [impl_at.l0]) ?_
    simp only [e, rd_nat]
    refine Ev.pos (by omega) (Ev.pos (by omega) (Ev.pos (by omega) (Ev.pos hz.1 (Ev.pos hz.2 (Ev.pos (by omega) ?_)))))
    refine (at_l l d hd hn m (i + 1) _ (by omega) (by simp; omega)).to ?_
    rw [drop_step d i (by omega)]; simp
theorem at_ev (l d : List Int) (hd : ∀ x ∈ d, 0 ≤ x ∧ x < (l.length : Int)) (hn : d.length ≤ 1000) : Ev (fun k => impl_at.f k l d) (d.map (rd l)) := by
  unfold impl_at.f
  exact (at_l l d hd hn d.length 0 [] (by omega) (by simp)).to (by simp)
def lessN (n : Int) : List Int → Int → Int
  | [], c => c
  | m :: t, c => lessN n t (if m < n then c + 1 else c)
def shapeM (l : List Int) : List Int := l.map fun n => lessN n l 1
theorem shape_l1 (l : List Int) (hl : l.length ≤ 1000) (i : Nat) (hi : i < l.length) (out : List Int) (ho : out.length ≤ 1000) (n : Int) (r : List Int) : ∀ (d j : Nat) (c : Int), l.length = j + d → 0 ≤ c → c + d ≤ 10000 →
    Ev (fun k => impl_shape.l0 k l (out ++ [lessN n (l.drop j) c]) l (l.length : Int) ((i + 1 : Nat) : Int)) r → Ev (fun k => impl_shape.l1 k l out n c l (l.length : Int) (i : Int) l (l.length : Int) (j : Int)) r
  | 0, j, c, h, h0, h1, hr => by
    refine Ev.step (fun k => by rw [impl_shape.l1]) ?_
    have e : wrap64 ((i : Int) + 1) = ((i + 1 : Nat) : Int) := wup i (by omega)
    simp only [e]
    rw [List.drop_of_length_le (by omega)] at hr
    exact Ev.neg (by omega) (Ev.pos (by omega) hr)
  | d + 1, j, c, h, h0, h1, hr => by
    refine Ev.step (fun k => by rw [impl_shape.l1]) ?_
    have e : wrap64 ((j : Int) + 1) = ((j + 1 : Nat) : Int) := wup j (by omega)
    have e2 : wrap64 (c + 1) = c + 1 := w64 (by omega)
    simp only [e, e2, rd_nat]
    rw [drop_step l j (by omega)] at hr
    refine Ev.pos (by omega) (Ev.pos (by omega) (Ev.pos (by omega) (Ev.ite (fun hc => ?_) (fun hc => ?_))))
    · refine shape_l1 l hl i hi out ho n r d (j + 1) (c + 1) (by omega) (by omega) (by omega) ?_
      rw [lessN, if_pos hc] at hr; exact hr
    · refine shape_l1 l hl i hi out ho n r d (j + 1) c (by omega) (by omega) (by omega) ?_
      rw [lessN, if_neg hc] at hr; exact hr
theorem shape_l0 (l : List Int) (hl : l.length ≤ 1000) : ∀ (d i : Nat) (out : List Int), l.length = i + d → out.length = i → Ev (fun k => impl_shape.l0 k l out l (l.length : Int) (i : Int)) (out ++ (l.drop i).map fun n => lessN n l 1)
  | 0, i, out, h, ho => by
    refine Ev.step (fun k => by rw [impl_shape.l0]) (Ev.neg (by omega) (Ev.val ?_))
    rw [List.drop_of_length_le (by omega)]; simp
  | d + 1, i, out, h, ho => by
    refine Ev.step (fun k => by rw [impl_shape.l0]) ?_
    simp only [rd_nat]
    refine Ev.pos (by omega) (Ev.pos (by omega) (Ev.pos (by omega) ?_))
    refine shape_l1 l hl i (by omega) out (by omega) (nth l i) _ l.length 0 1 (by omega) (by omega) (by omega) ?_
    rw [List.drop_zero]
    refine (shape_l0 l hl d (i + 1) _ (by omega) (by simp; omega)).to ?_
    rw [drop_step l i (by omega)]; simp
theorem shape_ev (l : List Int) (hl : l.length ≤ 1000) : Ev (fun k => impl_shape.f k l) (shapeM l) := by
  unfold impl_shape.f
  exact (shape_l0 l hl l.length 0 [] (by omega) rfl).to (by simp [shapeM])
def mt (pat x : List Int) : Bool := decide (shapeM x = pat)
theorem fp1_ev (l pat d : List Int) (s : Bool) (hd : ∀ x ∈ d, 0 ≤ x ∧ x < (l.length : Int)) (hn : d.length ≤ 1000) (hp : pat.length ≤ 1000) : Ev (fun k => impl_firstPlaces_1.f l pat k s d) (mt pat (d.map (rd l)), mt pat (d.map (rd l))) := by
  unfold impl_firstPlaces_1.f
  exact Ev.bind (at_ev l d hd hn) (Ev.bind (shape_ev _ (by simpa using hn)) (Ev.bind (Equal_ev _ _ (by simp [shapeM]; omega)) (Ev.val rfl)))
theorem cont_l (l pat : List Int) (m : Nat) (hl : l.length ≤ 7) (hm : 1 ≤ m ∧ m ≤ 7) (hp : pat.length ≤ 1000) :
    ∀ (d i : Nat) (dn : List Int), l.length = i + d → dn.length < m → (∀ x ∈ dn, 0 ≤ x ∧ x < (l.length : Int)) →
      Ev (fun k => impl_choose_1.l0 (impl_firstPlaces_1.f l pat) k (l.length : Int) (m : Int) false dn (i : Int)) ((chK (dn.map (rd l)) (l.drop i) (m - dn.length)).any (mt pat), (chK (dn.map (rd l)) (l.drop i) (m - dn.length)).any (mt pat))
  | 0, i, dn, h, hd, hv => by
    refine Ev.step (fun k => by rw [impl_choose_1.l0]) (Ev.neg (by omega) (Ev.val ?_))
    obtain ⟨j, hj⟩ : ∃ j, m - dn.length = j + 1 := ⟨m - dn.length - 1, by omega⟩
    rw [List.drop_eq_nil_of_le (by omega), hj]; simp [chK]
  | d + 1, i, dn, h, hd, hv => by
    have e : wrap64 ((i : Int) + 1) = ((i + 1 : Nat) : Int) := wup i (by omega)
    obtain ⟨j, hj⟩ : ∃ j, m - dn.length = j + 1 := ⟨m - dn.length - 1, by omega⟩
    have hmap : (dn ++ [(i : Int)]).map (rd l) = dn.map (rd l) ++ [nth l i] := by simp [rd_nat]
    have hv' : ∀ x ∈ dn ++ [(i : Int)], 0 ≤ x ∧ x < (l.length : Int) := fun x hx => by
      rcases List.mem_append.1 hx with hx | hx
      · exact hv x hx
      · rw [List.mem_singleton.1 hx]; omega
    rw [drop_step l i (by omega), hj, chK, List.any_append]
    refine Ev.step (fun k => by rw [impl_choose_1.l0]) (Ev.pos (by omega) (Ev.pos (by omega) ?_))
    simp only [e]
    refine Ev.bind (a := ((chK (dn.map (rd l) ++ [nth l i]) (l.drop (i + 1)) j).any (mt pat), (chK (dn.map (rd l) ++ [nth l i]) (l.drop (i + 1)) j).any (mt pat))) ?_ ?_
    · refine Ev.step (fun k => by rw [impl_choose_1.f]) (Ev.ite (fun hc => ?_) (fun hc => ?_))
      · have hlen : dn.length + 1 = m := by simp at hc; omega
        have hj0 : j = 0 := by omega
        subst hj0
        refine (fp1_ev l pat (dn ++ [(i : Int)]) false hv' (by simp; omega) hp).to ?_
        rw [hmap]; simp [chK]
      · have hlen : dn.length + 1 < m := by simp at hc; omega
        have h2 := cont_l l pat m hl hm hp d (i + 1) (dn ++ [(i : Int)]) (by omega) (by simp; omega) hv'
        rw [hmap, show m - (dn ++ [(i : Int)]).length = j by simp; omega] at h2
        exact h2
    · cases hb : (chK (dn.map (rd l) ++ [nth l i]) (l.drop (i + 1)) j).any (mt pat) with
      | true => exact Ev.pos rfl (Ev.val (by simp))
      | false =>
        have h2 := cont_l l pat m hl hm hp d (i + 1) dn (by omega) hd hv
        rw [hj] at h2
        exact Ev.neg (by simp) (h2.to (by simp))
theorem contains_ev (l pat : List Int) (hl : l.length ≤ 7) (hp : 1 ≤ pat.length ∧ pat.length ≤ 7) : Ev (fun k => impl_contains.f k l pat) ((chK [] l pat.length).any (mt pat)) := by
  unfold impl_contains.f impl_firstPlaces.f impl_choose.f
  refine Ev.bind (a := ((chK [] l pat.length).any (mt pat), (chK [] l pat.length).any (mt pat))) ?_ (Ev.val rfl)
  refine Ev.step (fun k => by rw [impl_choose_1.f]) (Ev.neg (by simp; omega) ?_)
  exact (cont_l l pat pat.length hl hp (by omega) l.length 0 [] (by omega) (by simp; omega) (by simp)).to (by simp)
def contOk (l : List Int) : Bool := ((chK [] l 3).any (mt [2, 3, 1])) == decide (0 < (cI l l.length 0 []).length)
theorem and_255 (E : Int) (h0 : 0 ≤ E) (h1 : E ≤ 18446744073709551615) : bits BinOp.and IntKind.u64 E 255 = E % 256 := by
  have h := bits_and_u64_nat E.toNat 255 (by omega) (by omega)
  have h3 : E.toNat &&& 255 = E.toNat % 256 := Nat.and_two_pow_sub_one_eq_mod E.toNat 8
  rw [h3, Int.toNat_of_nonneg h0] at h
  exact h.trans (by omega)
def CodeB (s : List Int) : Prop := s.length ≤ 1000000 ∧ ∀ x ∈ s, 0 ≤ x ∧ x ≤ 255
theorem u64_range (n : Int) : 0 ≤ IntKind.u64.wrap n ∧ IntKind.u64.wrap n ≤ 18446744073709551615 := by
  have h : IntKind.u64.wrap n = n % 18446744073709551616 := by simp [IntKind.wrap, IntKind.signed, IntKind.bits]
  omega
theorem next_ok {s : List Int} (hs : CodeB s) (p st : Int) (hp : 0 ≤ p ∧ p ≤ 10000000) : ∃ x st' : Int, spec_l1Cur_next.f s p st = some (x, p + 1, st') ∧ 0 ≤ x ∧ x ≤ 255 := by
  have e : wrap64 (p + 1) = p + 1 := w64 (by omega)
  have hb : ∀ n : Int, 0 ≤ wrap64 (bits .and .u64 (IntKind.u64.wrap n / 1099511627776) 255) ∧ wrap64 (bits .and .u64 (IntKind.u64.wrap n / 1099511627776) 255) ≤ 255 := fun n => by
    have h := u64_range n
    rw [and_255 _ (by omega) (by omega), w64 (by omega)]; omega
  unfold spec_l1Cur_next.f
  rw [e]
  by_cases h1 : p < (s.length : Int)
  · have hx : 0 ≤ rd s p ∧ rd s p ≤ 255 := by
      obtain ⟨i, rfl⟩ := Int.eq_ofNat_of_zero_le hp.1
      have hi : i < s.length := by omega
      rw [show rd s (i : Int) = nth s i from rfl, nth_lt s i hi]
      exact hs.2 _ (List.getElem_mem hi)
    rw [if_pos h1, if_pos hp.1, if_pos (by omega), w64 (by omega)]
    exact ⟨_, _, rfl, hx.1, hx.2⟩
  · rw [if_neg h1, if_neg (by omega)]
    exact ⟨_, _, rfl, (hb _).1, (hb _).2⟩
theorem pick_ok {s : List Int} (hs : CodeB s) (p st n : Int) (hp : 0 ≤ p ∧ p ≤ 10000000) (hn : n ≤ 200) : ∃ x p' st' : Int, spec_l1Cur_pick.f s p st n = some (x, p', st') ∧ 0 ≤ x ∧ (x < n ∨ n < 1) ∧ 0 ≤ p' ∧ p' ≤ p + 1 := by
  unfold spec_l1Cur_pick.f
  by_cases h1 : n ≤ 1
  · rw [if_pos h1]; exact ⟨0, p, st, rfl, by omega, by omega, by omega, by omega⟩
  · obtain ⟨x, st', h, hx⟩ := next_ok hs p st hp
    rw [if_neg h1, h, Option.bind_some, if_neg (by omega), if_neg (by omega)]
    refine ⟨_, _, _, rfl, Int.tmod_nonneg _ hx.1, .inl (Int.tmod_lt_of_pos _ (by omega)), by simp only []; omega, by simp only []; omega⟩
theorem among_ok {s : List Int} (hs : CodeB s) (p st : Int) (l : List Int) (hp : 0 ≤ p ∧ p ≤ 10000000) (hl : 1 ≤ l.length ∧ l.length ≤ 200) : ∃ x p' st' : Int, spec_l1Cur_among.f s p st l = some (x, p', st') ∧ x ∈ l ∧ 0 ≤ p' ∧ p' ≤ p + 1 := by
  unfold spec_l1Cur_among.f
  obtain ⟨x, p', st', h, hx, h2, h3⟩ := pick_ok hs p st (l.length : Int) hp (by omega)
  rw [h, Option.bind_some, if_pos hx, if_pos (by omega)]
  obtain ⟨i, rfl⟩ := Int.eq_ofNat_of_zero_le hx
  refine ⟨_, _, _, rfl, ?_, h3⟩
  rw [show rd l (i : Int) = nth l i from rfl, nth_lt l i (by omega)]
  exact List.getElem_mem _
theorem order_l0_ok {s : List Int} (hs : CodeB s) : ∀ (d : Nat) (o : List Int) (p st : Int), 0 ≤ p → p + d ≤ 10000000 → o.length + d ≤ 100 → ∃ (r : List Int) (p' st' : Int), spec_l1Cur_order.l0 s d o p st = some (r, p', st') ∧ r.length = o.length + d ∧ 0 ≤ p' ∧ p' ≤ p + d
  | 0, o, p, st, h0, h1, h2 => ⟨o, p, st, rfl, by simp, h0, by omega⟩
  | d + 1, o, p, st, h0, h1, h2 => by
    obtain ⟨x, p', st', h, hx, h3, h4⟩ := pick_ok hs p st ((o.length : Int) + 1) ⟨h0, by omega⟩ (by omega)
    rw [spec_l1Cur_order.l0, h, Option.bind_some, if_pos ⟨⟨hx, by simp only []; omega⟩, by omega⟩]
    have hlen : (o.take x.toNat ++ [(o.length : Int) + 1] ++ o.drop x.toNat).length = o.length + 1 := by simp; omega
    obtain ⟨r, p2, st2, g, g1, g2⟩ := order_l0_ok hs d (o.take x.toNat ++ [(o.length : Int) + 1] ++ o.drop x.toNat) p' st' h4.1 (by omega) (by omega)
    exact ⟨r, p2, st2, g, by omega, g2.1, by omega⟩
theorem order_ok {s : List Int} (hs : CodeB s) (p st : Int) (hp : 0 ≤ p ∧ p ≤ 1000) : ∃ (r : List Int) (p' st' : Int), spec_l1Cur_order.f s p st = some (r, p', st') ∧ r.length ≤ 8 ∧ 0 ≤ p' ∧ p' ≤ p + 20 := by
  unfold spec_l1Cur_order.f
  obtain ⟨n, p1, st1, h1, hn, g1⟩ := among_ok hs p st [4, 5, 3, 6, 2, 7, 1, 4] ⟨hp.1, by omega⟩ (by simp)
  have hn' : 1 ≤ n ∧ n ≤ 7 := by simp at hn; omega
  obtain ⟨o, p2, st2, h2, ho, g2⟩ := order_l0_ok hs n.toNat [] p1 st1 g1.1 (by omega) (by simp; omega)
  obtain ⟨q, p3, st3, h3, hq, g3⟩ := pick_ok hs p2 st2 40 ⟨g2.1, by omega⟩ (by omega)
  rw [h1, Option.bind_some, if_pos (by omega), h2, Option.bind_some, h3, Option.bind_some]
  simp only [List.length_nil] at ho
  by_cases q0 : q = 0
  · rw [if_pos q0]; exact ⟨_, _, _, rfl, by simp, g3.2.1, by simp only []; omega⟩
  rw [if_neg q0]
  by_cases q1 : q = 1
  · rw [if_pos q1]
    obtain ⟨k, p4, st4, h4, hk, g4⟩ := pick_ok hs p3 st3 (o.length : Int) ⟨g3.2.1, by omega⟩ (by omega)
    obtain ⟨x, p5, st5, h5, hx, g5⟩ := among_ok hs p4 st4 [0, 1, 8, -1] ⟨g4.2.1, by omega⟩ (by simp)
    rw [h4, Option.bind_some, h5, Option.bind_some, if_pos ⟨hk, by simp only []; omega⟩]
    exact ⟨_, _, _, rfl, by simp; omega, g5.1, by simp only []; omega⟩
  rw [if_neg q1]
  by_cases q2 : q = 2
  · rw [if_pos q2]; exact ⟨_, _, _, rfl, by simp, g3.2.1, by simp only []; omega⟩
  · rw [if_neg q2]; exact ⟨_, _, _, rfl, by simp only []; omega, g3.2.1, by simp only []; omega⟩
theorem hard7_ok {s : List Int} (hs : CodeB s) (p st : Int) (hp : 0 ≤ p ∧ p ≤ 100) : ∃ (r : List Int) (p' st' : Int), spec_l1Cur_hard7.f s p st = some (r, p', st') ∧ r.length ≤ 8 ∧ 0 ≤ p' ∧ p' ≤ p + 30 := by
  unfold spec_l1Cur_hard7.f spec_l1Cur_one.f
  obtain ⟨x, p1, st1, h1, _, _, g1⟩ := pick_ok hs p st 3 ⟨hp.1, by omega⟩ (by omega)
  simp only [h1, Option.bind_some]
  by_cases hx : (x == 0) = true
  · rw [if_pos hx]
    obtain ⟨i, p2, st2, h2, hi, hi2, g2⟩ := pick_ok hs p1 st1 7 ⟨g1.1, by omega⟩ (by omega)
    refine Exists.imp (fun r h_ => h_) (?_ : ∃ r p' st', (spec_l1Cur_pick.f s p1 st1 7).bind _ = some (r, p', st') ∧ _)
    rw [h2, Option.bind_some]
    simp only []
    rw [if_pos hi, if_pos (by simp only [List.length_cons, List.length_nil]; omega)]
    have : i = 0 ∨ i = 1 ∨ i = 2 ∨ i = 3 ∨ i = 4 ∨ i = 5 ∨ i = 6 := by omega
    rcases this with rfl | rfl | rfl | rfl | rfl | rfl | rfl <;> exact ⟨_, _, _, rfl, by decide, g2.1, by omega⟩
  · rw [if_neg hx]
    obtain ⟨r, p2, st2, h2, hr, g2⟩ := order_ok hs p1 st1 ⟨g1.1, by omega⟩
    rw [h2, Option.bind_some]
    exact ⟨_, _, _, rfl, hr, g2.1, by simp only []; omega⟩
theorem cf_all_6 : ∀ n ∈ [1, 2, 3, 4, 5, 6], allO (intsTo n) contOk n [] = true := by decide +kernel
end Go.Proofs.Ytmgekfoiamjijaa.Pure
