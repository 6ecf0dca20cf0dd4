/- Cuts undo themselves, are told by ranks, and do what their words do. -/
import Derived.Test.YtbnieikbjmfhgaaPFnCutsx0
import Derived.Test.YtbnieikbjmfhgaaPFnCutsx1
import Derived.Test.YtbnieikbjmfhgaaPFnCutsx2
import Derived.Test.YtbnieikbjmfhgaaPFnCutsx3
import Derived.Test.YtbnieikbjmfhgaaPFnCutsx4
import Derived.Test.YtbnieikbjmfhgaaPFnCutsx5
import Derived.Test.YtbnieikbjmfhgaaPFnCutsx6
import Derived.Test.YtbnieikbjmfhgaaPFnCutsx7
import Derived.Test.YtbnieikbjmfhgaaPFnCutsx8
import Derived.Test.YtbnieikbjmfhgaaPFnCutsx9
import Derived.Test.YtbnieikbjmfhgaaPFnCutsx10
import Derived.Test.YtbnieikbjmfhgaaPFnCutsx11
import Derived.Test.YtbnieikbjmfhgaaPFnCutsx12
import Derived.Test.YtbnieikbjmfhgaaPFnCutsx13
import Derived.Test.YtbnieikbjmfhgaaPFnCutsx14
import Derived.Test.YtbnieikbjmfhgaaPFnCutsx15
import Derived.Test.YtbnieikbjmfhgaaPFnCutsx16
import Derived.Test.YtbnieikbjmfhgaaPFnCutsx17
import Derived.Test.YtbnieikbjmfhgaaPFnCutsx18
import Derived.WalkSmall
import Derived.Test.YtbnieikbjmfhgaaK
set_option linter.unusedVariables false
set_option linter.unusedSimpArgs false
namespace Go.Proofs.Ytbnieikbjmfhgaa.Pure
open Go.RowKit Go.Proofs.Ytbnieikbjmfhgaa.PFnCuts Go.Proofs.YtbnieikbjmfhgaaW.PrintWords Go.Proofs.YtbnieikbjmfhgaaW.PrintLast Go.Proofs.YtbnieikbjmfhgaaW.PrintMore
theorem l1In_is (a b c : Int) : spec_l1In.f a b c = some (decide (b ≤ a ∧ a ≤ c)) := by
  unfold spec_l1In.f
  by_cases h : a ≥ b
  · rw [if_pos h]; simp [h]
  · rw [if_neg h]; simp; omega
theorem l1Has_l (l : List Int) (x : Int) (hn : l.length ≤ 17592186044416) : ∀ (d i : Nat), l.length = i + d → Ev (fun k => spec_l1Has.l0 k l x i) ((l.drop i).contains x)
  | 0, i, h => by
    refine Ev.step (fun k => by rw [spec_l1Has.l0]) ?_
    refine Ev.neg (by omega) (Ev.val ?_)
    rw [List.drop_of_length_le (by omega)]
    simp
  | d + 1, i, h => by
    refine Ev.step (fun k => by rw [spec_l1Has.l0]) ?_
    have e : wrap64 ((i : Int) + 1) = ((i + 1 : Nat) : Int) := by rw [w64 (by omega)]; omega
    simp only [e]
    rw [drop_step l i (by omega)]
    refine Ev.pos (by omega) (Ev.pos (by omega) (Ev.ite (fun hc => Ev.val ?_) (fun hc => ?_)))
    · have hc' : nth l i = x := hc
      rw [hc']; simp
    · have hc' : ¬ nth l i = x := hc
      refine (l1Has_l l x hn d (i + 1) (by omega)).to ?_
      have : ¬ x = nth l i := fun h => hc' h.symm
      rw [List.contains_cons]
      simp [this]
theorem l1Has_ev (l : List Int) (x : Int) (hn : l.length ≤ 17592186044416) : Ev (fun k => spec_l1Has.f k l x) (l.contains x) := by
  unfold spec_l1Has.f
  exact (l1Has_l l x hn l.length 0 (by omega)).to (by simp)
theorem l2Order_l (l : List Int) (hn : l.length ≤ 17592186044416) : ∀ (d i : Nat), l.length = i + d → Ev (fun k => spec_l2Order.l0 k l i) (allFrom (ordAt l) d i)
  | 0, i, h => by
    refine Ev.step (fun k => by rw [spec_l2Order.l0]) ?_
    exact Ev.neg (by omega) (Ev.val rfl)
  | d + 1, i, h => by
    refine Ev.step (fun k => by rw [spec_l2Order.l0]) ?_
    have e : wrap64 ((i : Int) + 1) = ((i + 1 : Nat) : Int) := by rw [w64 (by omega)]; omega
    simp only [e, l1In_is, Option.bind_some, rd_nat, Int.toNat_natCast, decide_eq_true_eq]
    refine Ev.pos (by omega) (Ev.pos (by omega) (Ev.ite (fun hc => Ev.pos (by omega) ?_) (fun hc => Ev.val ?_)))
    · refine Ev.bind (l1Has_ev _ _ (by simp; omega)) ?_
      refine Ev.ite (fun hb => Ev.val ?_) (fun hb => (l2Order_l l hn d (i + 1) (by omega)).to ?_)
      · rw [allFrom, ordAt, hb]; simp
      · rw [Bool.not_eq_true] at hb
        rw [allFrom, ordAt, hb]; simp [hc]
    · rw [allFrom, ordAt]
      by_cases h1 : 1 ≤ nth l i
      · have : ¬ nth l i ≤ l.length := fun h2 => hc ⟨h1, h2⟩
        simp [this]
      · simp [h1]
theorem l2Order_ev (l : List Int) (hn : l.length ≤ 17592186044416) : Ev (fun k => spec_l2Order.f k l) (isOrd l) := by
  unfold spec_l2Order.f
  simp only [l1In_is, Option.bind_some, decide_eq_true_eq]
  refine Ev.ite (fun hc => (l2Order_l l hn l.length 0 (by omega)).to ?_) (fun hc => Ev.val ?_)
  · have h1 : 1 ≤ l.length := by omega
    have h2 : l.length ≤ 7 := by omega
    simp [isOrd, h1, h2]
  · rw [isOrd]
    by_cases h1 : 1 ≤ l.length
    · have : ¬ l.length ≤ 7 := by omega
      simp [this]
    · simp [h1]
theorem Index_l (l : List Int) (x : Int) (hn : l.length ≤ 17592186044416) : ∀ (d i : Nat), l.length = i + d → (∀ j, j < i → nth l j ≠ x) → Ev (fun k => slices_Index_int_int.l0 k l x (l.length : Int) i) (idx l x)
  | 0, i, h, hq => by
    refine Ev.step (fun k => by rw [slices_Index_int_int.l0]) ?_
    refine Ev.neg (by omega) (Ev.val ?_)
    exact (idx_none l x fun j hj => hq j (by omega)).symm
  | d + 1, i, h, hq => by
    refine Ev.step (fun k => by rw [slices_Index_int_int.l0]) ?_
    have e : wrap64 ((i : Int) + 1) = ((i + 1 : Nat) : Int) := by rw [w64 (by omega)]; omega
    simp only [e]
    refine Ev.pos (by omega) (Ev.pos (by omega) (Ev.pos (by omega) (Ev.ite (fun hc => Ev.val ?_) (fun hc => ?_))))
    · exact (idx_some l x i (by omega) (by rw [hc]; rfl) hq).symm
    · refine Index_l l x hn d (i + 1) (by omega) (fun j hj => ?_)
      by_cases e : j = i
      · subst e; exact fun h => hc h.symm
      · exact hq j (by omega)
theorem Index_ev (l : List Int) (x : Int) (hn : l.length ≤ 17592186044416) : Ev (fun k => slices_Index_int_int.f k l x) (idx l x) := by
  unfold slices_Index_int_int.f
  exact Index_l l x hn l.length 0 (by omega) (fun j hj => by omega)
theorem Contains_ev (l : List Int) (x : Int) (hn : l.length ≤ 17592186044416) : Ev (fun k => slices_Contains_int_int.f k l x) (l.contains x) := by
  unfold slices_Contains_int_int.f
  exact Ev.bind (Index_ev l x hn) (Ev.val (idx_contains l x))
theorem isOrder_l (l : List Int) (hn : l.length ≤ 17592186044416) : ∀ (d i : Nat), l.length = i + d → Ev (fun k => impl_isOrder.l0 k l l (l.length : Int) i) (allFrom (ordAt l) d i)
  | 0, i, h => by
    refine Ev.step (fun k => by rw [impl_isOrder.l0]) ?_
    exact Ev.neg (by omega) (Ev.val rfl)
  | d + 1, i, h => by
    refine Ev.step (fun k => by rw [impl_isOrder.l0]) ?_
    have e : wrap64 ((i : Int) + 1) = ((i + 1 : Nat) : Int) := by rw [w64 (by omega)]; omega
    simp only [e, rd_nat, Int.toNat_natCast]
    refine Ev.pos (by omega) (Ev.pos (by omega) (Ev.pos (by omega) (Ev.ite (fun hc => Ev.val ?_) (fun hc => Ev.ite (fun hd => Ev.val ?_) (fun hd => Ev.pos (by omega) ?_)))))
    · have : ¬ 1 ≤ nth l i := by omega
      rw [allFrom, ordAt]; simp [this]
    · have : ¬ nth l i ≤ l.length := by omega
      rw [allFrom, ordAt]; simp [this]
    · refine Ev.bind (Contains_ev _ _ (by simp; omega)) ?_
      refine Ev.ite (fun hb => Ev.val ?_) (fun hb => (isOrder_l l hn d (i + 1) (by omega)).to ?_)
      · rw [allFrom, ordAt, hb]; simp
      · rw [Bool.not_eq_true] at hb
        have h1 : 1 ≤ nth l i := by omega
        have h2 : nth l i ≤ l.length := by omega
        rw [allFrom, ordAt, hb]; simp [h1, h2]
theorem isOrder_ev (l : List Int) (hn : l.length ≤ 17592186044416) : Ev (fun k => impl_isOrder.f k l) (isOrd l) := by
  unfold impl_isOrder.f
  refine Ev.ite (fun hc => ?_) (fun hc => ?_)
  · refine Ev.step (fun k => by rw [impl_isOrder.j0]) ?_
    refine Ev.pos rfl (Ev.val ?_)
    have : ¬ 1 ≤ l.length := by omega
    simp [isOrd, this]
  · refine Ev.step (fun k => by rw [impl_isOrder.j0]) ?_
    simp only [decide_eq_true_eq]
    refine Ev.ite (fun hd => Ev.val ?_) (fun hd => (isOrder_l l hn l.length 0 (by omega)).to ?_)
    · have : ¬ l.length ≤ 7 := by omega
      simp [isOrd, this]
    · have h1 : 1 ≤ l.length := by omega
      have h2 : l.length ≤ 7 := by omega
      simp [isOrd, h1, h2]
theorem isSize_is (a : Int) : impl_isSize.f a = some (decide (1 ≤ a ∧ a ≤ 7)) := by
  unfold impl_isSize.f
  by_cases h : a ≥ 1
  · rw [if_pos h]; simp [h]
  · rw [if_neg h]; simp; omega
def allO (ns : List Int) (p : List Int → Bool) : Nat → List Int → Bool
  | 0, q => p q
  | d + 1, q => ns.all fun c => q.contains c || allO ns p d (c :: q)
theorem isOrd_drop {l : List Int} (h : isOrd l = true) (i : Nat) (hi : i < l.length) : nth l i ∉ l.drop (i + 1) := by
  intro hm
  obtain ⟨j, hj, e⟩ := List.mem_iff_getElem.1 hm
  rw [List.getElem_drop] at e
  simp only [List.length_drop] at hj
  refine (isOrd_at h (i + 1 + j) (by omega)).2.2 ?_
  rw [nth_lt l (i + 1 + j) (by omega), e, nth_lt l i hi, List.mem_take_iff_getElem]
  exact ⟨i, by omega, rfl⟩
theorem allO_mem {l : List Int} (h : isOrd l = true) (ns : List Int) (hns : ∀ x : Int, 1 ≤ x → x ≤ l.length → x ∈ ns) (p : List Int → Bool) : ∀ i, i ≤ l.length → allO ns p i (l.drop i) = true → p l = true
  | 0, _, hp => by simpa [allO] using hp
  | i + 1, hi, hp => by
    rw [allO, List.all_eq_true] at hp
    have ha := isOrd_at h i (by omega)
    have h1 := hp (nth l i) (hns _ ha.1 ha.2.1)
    have h2 : (l.drop (i + 1)).contains (nth l i) = false := by
      have := isOrd_drop h i (by omega)
      simpa using this
    rw [h2, Bool.false_or, ← drop_step l i (by omega)] at h1
    exact allO_mem h ns hns p i (by omega) h1
def intsTo (n : Nat) : List Int := ([1, 2, 3, 4, 5, 6, 7] : List Int).take n
theorem intsTo_mem : ∀ n : Nat, n ≤ 7 → ∀ x : Int, 1 ≤ x → x ≤ n → x ∈ intsTo n := by
  intro n hn x h1 h2
  have hx : x = 1 ∨ x = 2 ∨ x = 3 ∨ x = 4 ∨ x = 5 ∨ x = 6 ∨ x = 7 := by omega
  have hn' : n = 0 ∨ n = 1 ∨ n = 2 ∨ n = 3 ∨ n = 4 ∨ n = 5 ∨ n = 6 ∨ n = 7 := by omega
  rcases hn' with rfl | rfl | rfl | rfl | rfl | rfl | rfl | rfl <;> rcases hx with rfl | rfl | rfl | rfl | rfl | rfl | rfl <;> first | (exfalso; omega) | simp [intsTo]
theorem orders_all {l : List Int} (h : isOrd l = true) (p : List Int → Bool) (hp : ∀ n ∈ [1, 2, 3, 4, 5, 6, 7], allO (intsTo n) p n [] = true) : p l = true := by
  have hl := isOrd_len h
  have hm : l.length ∈ [1, 2, 3, 4, 5, 6, 7] := by
    have : l.length = 1 ∨ l.length = 2 ∨ l.length = 3 ∨ l.length = 4 ∨ l.length = 5 ∨ l.length = 6 ∨ l.length = 7 := by omega
    simp [this]
  refine allO_mem h (intsTo l.length) (fun x h1 h2 => intsTo_mem l.length hl.2 x h1 h2) p l.length (Nat.le_refl _) ?_
  rw [List.drop_length]
  exact hp _ hm
theorem isOrd_of {l : List Int} (h1 : 1 ≤ l.length) (h2 : l.length ≤ 7) (hd : l.Nodup) (hm : ∀ x ∈ l, 1 ≤ x ∧ x ≤ l.length) : isOrd l = true := by
  simp only [isOrd, Bool.and_eq_true, decide_eq_true_eq]
  refine ⟨h1, h2, (allFrom_iff _ _ _).2 fun j _ hj => ?_⟩
  have hj' : j < l.length := by omega
  have := hm (nth l j) (by rw [nth_lt _ _ hj']; exact List.getElem_mem hj')
  have hn : nth l j ∉ l.take j := by
    intro hc
    obtain ⟨i, hi, e⟩ := List.mem_take_iff_getElem.1 hc
    rw [nth_lt _ _ hj'] at e
    have := (List.getElem_inj hd).1 e
    omega
  simp [ordAt, this.1, this.2, hn]
theorem isOrd_nodup {l : List Int} (h : isOrd l = true) : l.Nodup := by
  refine List.pairwise_iff_getElem.2 fun i j hi hj hij e => (isOrd_at h j hj).2.2 ?_
  rw [nth_lt _ _ hj, ← e]
  exact List.mem_take_iff_getElem.2 ⟨i, by omega, rfl⟩
theorem isOrd_all_ : ∀ n ∈ [1, 2, 3, 4, 5, 6, 7], allO (intsTo n) (fun l => (intsTo l.length).all fun x => l.contains x) n [] = true := by decide +kernel
theorem isOrd_all {l : List Int} (h : isOrd l = true) (x : Int) (h1 : 1 ≤ x) (h2 : x ≤ l.length) : x ∈ l := by
  have := orders_all h _ isOrd_all_
  rw [List.all_eq_true] at this
  simpa using this x (intsTo_mem l.length (isOrd_len h).2 x h1 h2)
theorem isOrd_mem {l : List Int} (h : isOrd l = true) (x : Int) (hx : x ∈ l) : 1 ≤ x ∧ x ≤ l.length := by
  obtain ⟨i, hi, e⟩ := List.mem_iff_getElem.1 hx
  have := isOrd_at h i hi
  rw [nth_lt _ _ hi, e] at this
  exact ⟨this.1, this.2.1⟩
structure Twin (o t : List Int) : Prop where
  len : o.length = t.length
  ndo : o.Nodup
  ndt : t.Nodup
  fwd : ∀ x ∈ o, x ∈ t
  bwd : ∀ x ∈ t, x ∈ o
theorem Twin.ord {l s : List Int} (hl : isOrd l = true) (hs : isOrd s = true) (h : l.length = s.length) : Twin l s :=
  ⟨h, isOrd_nodup hl, isOrd_nodup hs, fun x hx => isOrd_all hs x (isOrd_mem hl x hx).1 (by have := (isOrd_mem hl x hx).2; omega), fun x hx => isOrd_all hl x (isOrd_mem hs x hx).1 (by have := (isOrd_mem hs x hx).2; omega)⟩
theorem nodup_nth {l : List Int} (h : l.Nodup) (i j : Nat) (hi : i < l.length) (hj : j < l.length) (e : nth l i = nth l j) : i = j := by
  rw [nth_lt _ _ hi, nth_lt _ _ hj] at e
  exact (List.getElem_inj h).1 e
theorem idx_at {l : List Int} (h : l.Nodup) (i : Nat) (hi : i < l.length) : idx l (nth l i) = i :=
  idx_some l _ i hi rfl fun j hj e => by have := nodup_nth h j i (by omega) hi e; omega
theorem idx_mem {l : List Int} {x : Int} (h : x ∈ l) : ∃ i : Nat, i < l.length ∧ idx l x = i ∧ nth l i = x := by
  induction l with
  | nil => cases h
  | cons y l ih =>
    by_cases e : y = x
    · exact ⟨0, by simp, by simp [idx, e], by simp [nth, e]⟩
    · have hm : x ∈ l := by
        rcases List.mem_cons.1 h with h | h
        · exact absurd h.symm e
        · exact h
      obtain ⟨i, h1, h2, h3⟩ := ih hm
      refine ⟨i + 1, by simpa using h1, ?_, by rw [nth_cons_succ]; exact h3⟩
      rw [idx, if_neg e, h2, if_neg (by omega)]
      omega
theorem nth_take (l : List Int) (c i : Nat) (h : i < c) : nth (l.take c) i = nth l i := by
  unfold nth
  rw [List.getD_eq_getElem?_getD, List.getD_eq_getElem?_getD, List.getElem?_take, if_pos h]
theorem nth_rev (l : List Int) (i : Nat) (h : i < l.length) : nth l.reverse i = nth l (l.length - 1 - i) := by
  unfold nth
  rw [List.getD_eq_getElem?_getD, List.getD_eq_getElem?_getD, List.getElem?_reverse h]
theorem l1Same_l (a b : List Int) (hn : a.length ≤ 17592186044416) (hl : a.length = b.length) : ∀ (d i : Nat), a.length = i + d → Ev (fun k => spec_l1Same.l0 k a b i) (decide (a.drop i = b.drop i))
  | 0, i, h => by
    refine Ev.step (fun k => by rw [spec_l1Same.l0]) (Ev.neg (by omega) (Ev.val ?_))
    rw [List.drop_of_length_le (by omega), List.drop_of_length_le (by omega)]; rfl
  | d + 1, i, h => by
    refine Ev.step (fun k => by rw [spec_l1Same.l0]) ?_
    have e : wrap64 ((i : Int) + 1) = ((i + 1 : Nat) : Int) := by rw [w64 (by omega)]; omega
    simp only [e]
    refine Ev.pos (by omega) (Ev.pos (by omega) (Ev.pos (by omega) (Ev.ite (fun hc => Ev.to (l1Same_l a b hn hl d (i + 1) (by omega)) ?_) (fun hc => Ev.val ?_))))
    · rw [drop_step a i (by omega), drop_step b i (by omega)]
      have hc' : nth a i = nth b i := hc
      simp [hc']
    · rw [drop_step a i (by omega), drop_step b i (by omega)]
      have hc' : ¬ nth a i = nth b i := hc
      simp [hc']
theorem l1Same_ev (a b : List Int) (hn : a.length ≤ 17592186044416) : Ev (fun k => spec_l1Same.f k a b) (decide (a = b)) := by
  unfold spec_l1Same.f
  by_cases hl : a.length = b.length
  · exact Ev.pos (by omega) (Ev.to (l1Same_l a b hn hl a.length 0 (by omega)) (by simp))
  · refine Ev.neg (by omega) (Ev.val ?_)
    have : a ≠ b := fun e => hl (by rw [e])
    simp [this]
theorem Equal_l (a b : List Int) (hn : a.length ≤ 17592186044416) (hl : a.length = b.length) : ∀ (d i : Nat), a.length = i + d → Ev (fun k => slices_Equal_int_int.l0 k a b (a.length : Int) i) (decide (a.drop i = b.drop i))
  | 0, i, h => by
    refine Ev.step (fun k => by rw [slices_Equal_int_int.l0]) (Ev.neg (by omega) (Ev.val ?_))
    rw [List.drop_of_length_le (by omega), List.drop_of_length_le (by omega)]; rfl
  | d + 1, i, h => by
    refine Ev.step (fun k => by rw [slices_Equal_int_int.l0]) ?_
    have e : wrap64 ((i : Int) + 1) = ((i + 1 : Nat) : Int) := by rw [w64 (by omega)]; omega
    simp only [e]
    refine Ev.pos (by omega) (Ev.pos (by omega) (Ev.pos (by omega) (Ev.pos (by omega) (Ev.ite (fun hc => Ev.to (Equal_l a b hn hl d (i + 1) (by omega)) ?_) (fun hc => Ev.val ?_)))))
    · rw [drop_step a i (by omega), drop_step b i (by omega)]
      have hc' : nth a i = nth b i := hc
      simp [hc']
    · rw [drop_step a i (by omega), drop_step b i (by omega)]
      have hc' : ¬ nth a i = nth b i := hc
      simp [hc']
theorem Equal_ev (a b : List Int) (hn : a.length ≤ 17592186044416) : Ev (fun k => slices_Equal_int_int.f k a b) (decide (a = b)) := by
  unfold slices_Equal_int_int.f
  by_cases hl : a.length = b.length
  · exact Ev.pos (by omega) (Ev.to (Equal_l a b hn hl a.length 0 (by omega)) (by simp))
  · refine Ev.neg (by omega) (Ev.val ?_)
    have : a ≠ b := fun e => hl (by rw [e])
    simp [this]
def cutsOk : Int → List Int → Bool
  | n, [] => n == 0
  | n, c :: cs => decide (1 ≤ c) && (decide (c ≤ n) && cutsOk (n - c) cs)
theorem cutsOk_neg (l : List Int) (n : Int) (h : n < 0) : cutsOk n l = false := by
  cases l with
  | nil => simp [cutsOk]; omega
  | cons c cs =>
    by_cases h1 : 1 ≤ c
    · have : ¬ c ≤ n := by omega
      simp [cutsOk, this]
    · simp [cutsOk, h1]
theorem cutsOk_len : ∀ (l : List Int) (n : Int), cutsOk n l = true → (l.length : Int) ≤ n
  | [], n, h => by simp [cutsOk] at h; simp [h]
  | c :: cs, n, h => by
    simp only [cutsOk, Bool.and_eq_true, decide_eq_true_eq] at h
    have := cutsOk_len cs (n - c) h.2.2
    simp only [List.length_cons]
    omega
def isCuts (n : Int) (l : List Int) : Bool := decide (1 ≤ n ∧ n ≤ 7) && cutsOk n l
theorem l6Cuts_l (n : Int) (l : List Int) (hn : l.length ≤ 17592186044416) : ∀ (d i : Nat) (s : Int), l.length = i + d → i ≤ 8 → (i : Int) ≤ s → s ≤ 7 * i → Ev (fun k => spec_l6Cuts.l0 k n l s i) (decide (1 ≤ n ∧ n ≤ 7) && cutsOk (n - s) (l.drop i))
  | 0, i, s, h, h8, hs, hs' => by
    refine Ev.step (fun k => by rw [spec_l6Cuts.l0]) ?_
    refine Ev.neg (by omega) ?_
    refine Ev.step (fun k => by rw [spec_l6Cuts.j1]) ?_
    refine Ev.neg (by simp) ?_
    simp only [l1In_is, Option.bind_some]
    refine Ev.ite (fun hc => Ev.val ?_) (fun hc => Ev.val ?_)
    · rw [hc, List.drop_of_length_le (by omega), cutsOk, Bool.true_and, Bool.eq_iff_iff]
      simp
      omega
    · rw [Bool.not_eq_true] at hc
      rw [hc, Bool.false_and]
  | d + 1, i, s, h, h8, hs, hs' => by
    refine Ev.step (fun k => by rw [spec_l6Cuts.l0]) ?_
    refine Ev.pos (by omega) ?_
    refine Ev.step (fun k => by rw [spec_l6Cuts.j1]) ?_
    rw [drop_step l i (by omega), cutsOk]
    simp only [l1In_is, Option.bind_some, decide_eq_true_eq, rd_nat]
    refine Ev.ite (fun h7 => Ev.pos (by omega) (Ev.pos (by omega) (Ev.ite (fun hc => ?_) (fun hc => Ev.val ?_)))) (fun h7 => Ev.ite (fun hc => Ev.val ?_) (fun hc => Ev.val ?_))
    · have e : wrap64 ((i : Int) + 1) = ((i + 1 : Nat) : Int) := by rw [w64 (by omega)]; omega
      have e1 : wrap64 (s + nth l i) = s + nth l i := w64 (by omega)
      simp only [e, e1]
      refine (l6Cuts_l n l hn d (i + 1) (s + nth l i) (by omega) (by omega) (by omega) (by omega)).to ?_
      rw [show n - (s + nth l i) = n - s - nth l i by omega]
      by_cases hle : nth l i ≤ n - s
      · simp [hle, hc.1]
      · rw [cutsOk_neg _ _ (by omega : n - s - nth l i < 0)]
        simp
    · by_cases h1 : 1 ≤ nth l i
      · by_cases hn7 : 1 ≤ n ∧ n ≤ 7
        · have : ¬ nth l i ≤ n - s := by omega
          simp [this]
        · simp [hn7]
      · simp [h1]
    · have h1 : ¬ (s = n) := by omega
      by_cases h2 : 1 ≤ nth l i
      · have : ¬ nth l i ≤ n - s := by omega
        simp [h1, this]
      · simp [h1, h2]
    · simp [hc]
theorem l6Cuts_ev (n : Int) (l : List Int) (hn : l.length ≤ 17592186044416) : Ev (fun k => spec_l6Cuts.f k n l) (isCuts n l) := by
  unfold spec_l6Cuts.f
  exact (l6Cuts_l n l hn l.length 0 0 (by omega) (by omega) (by omega) (by omega)).to (by simp [isCuts])
theorem areCuts_l (l : List Int) (hn : l.length ≤ 17592186044416) : ∀ (d i : Nat) (n : Int), l.length = i + d → 0 ≤ n → n ≤ 7 → Ev (fun k => impl_areCuts.l0 k n l (l.length : Int) i) (cutsOk n (l.drop i))
  | 0, i, n, h, h0, h7 => by
    refine Ev.step (fun k => by rw [impl_areCuts.l0]) ?_
    refine Ev.neg (by omega) (Ev.val ?_)
    rw [List.drop_of_length_le (by omega), cutsOk]
  | d + 1, i, n, h, h0, h7 => by
    refine Ev.step (fun k => by rw [impl_areCuts.l0]) ?_
    rw [drop_step l i (by omega), cutsOk]
    simp only [rd_nat]
    refine Ev.pos (by omega) (Ev.pos (by omega) (Ev.pos (by omega) (Ev.ite (fun hc => Ev.val ?_) (fun hc => Ev.ite (fun hd => Ev.val ?_) (fun hd => ?_)))))
    · have : ¬ 1 ≤ nth l i := by omega
      simp [this]
    · have : ¬ nth l i ≤ n := by omega
      simp [this]
    · have e : wrap64 ((i : Int) + 1) = ((i + 1 : Nat) : Int) := by rw [w64 (by omega)]; omega
      have e1 : wrap64 (n - nth l i) = n - nth l i := w64 (by omega)
      simp only [e, e1]
      refine (areCuts_l l hn d (i + 1) (n - nth l i) (by omega) (by omega) (by omega)).to ?_
      have h1 : 1 ≤ nth l i := by omega
      have h2 : nth l i ≤ n := by omega
      simp [h1, h2]
theorem areCuts_ev (n : Int) (l : List Int) (hn : l.length ≤ 17592186044416) : Ev (fun k => impl_areCuts.f k n l) (isCuts n l) := by
  unfold impl_areCuts.f
  simp only [isSize_is, Option.bind_some, decide_eq_true_eq]
  refine Ev.ite (fun hc => ?_) (fun hc => ?_)
  · refine Ev.step (fun k => by rw [impl_areCuts.j0]) ?_
    simp only [decide_eq_true_eq]
    refine Ev.ite (fun hd => Ev.val ?_) (fun hd => (areCuts_l l hn l.length 0 n (by omega) (by omega) (by omega)).to ?_)
    · cases h : cutsOk n l with
      | false => simp [isCuts, h]
      | true => have := cutsOk_len l n h; omega
    · simp [isCuts, hc]
  · refine Ev.step (fun k => by rw [impl_areCuts.j0]) ?_
    refine Ev.pos rfl (Ev.val ?_)
    simp [isCuts, hc]
def cutsF : Nat → Nat → List (List Int)
  | 0, _ => [[]]
  | _ + 1, 0 => [[]]
  | f + 1, n + 1 => (List.range (n + 1)).flatMap fun c => (cutsF f (n - c)).map fun r => ((c + 1 : Nat) : Int) :: r
theorem cutsOk_zero (l : List Int) (h : cutsOk 0 l = true) : l = [] := by
  cases l with
  | nil => rfl
  | cons c cs =>
    simp only [cutsOk, Bool.and_eq_true, decide_eq_true_eq] at h
    omega
theorem cutsF_mem : ∀ (f n : Nat) (l : List Int), n ≤ f → cutsOk (n : Int) l = true → l ∈ cutsF f n
  | 0, n, l, hn, h => by
    obtain rfl : n = 0 := by omega
    rw [cutsOk_zero l h]; simp [cutsF]
  | f + 1, 0, l, hn, h => by
    rw [cutsOk_zero l h]; simp [cutsF]
  | f + 1, n + 1, [], hn, h => by simp [cutsOk] at h; omega
  | f + 1, n + 1, c :: cs, hn, h => by
    simp only [cutsOk, Bool.and_eq_true, decide_eq_true_eq] at h
    obtain ⟨m, rfl⟩ : ∃ m : Nat, c = ((m + 1 : Nat) : Int) := ⟨(c - 1).toNat, by omega⟩
    have hm : m ≤ n := by omega
    have hc : cutsOk ((n - m : Nat) : Int) cs = true := by
      have e : ((n + 1 : Nat) : Int) - ((m + 1 : Nat) : Int) = ((n - m : Nat) : Int) := by omega
      rw [← e]; exact h.2.2
    rw [cutsF, List.mem_flatMap]
    exact ⟨m, by simp; omega, List.mem_map.2 ⟨cs, cutsF_mem f (n - m) cs (by omega) hc, rfl⟩⟩
theorem l2Back_l (l : List Int) (hn : l.length ≤ 17592186044415) : ∀ (i : Nat) (acc : List Int), i ≤ l.length → acc.length + i ≤ l.length → Ev (fun k => spec_l2Back.l0 k l acc ((i : Int) - 1)) (acc ++ (l.take i).reverse)
  | 0, acc, hi, ha => by
    refine Ev.step (fun k => by rw [spec_l2Back.l0]) ?_
    exact Ev.neg (by omega) (Ev.val (by simp))
  | i + 1, acc, hi, ha => by
    have e : ((i + 1 : Nat) : Int) - 1 = (i : Int) := by omega
    have e2 : wrap64 ((i : Int) - 1) = (i : Int) - 1 := w64 (by omega)
    simp only [e]
    refine Ev.step (fun k => by rw [spec_l2Back.l0]) ?_
    simp only [e2, rd_nat]
    refine Ev.pos (by omega) (Ev.pos (by omega) (Ev.pos (by omega) (Ev.pos (by omega) ?_)))
    refine (l2Back_l l hn i (acc ++ [nth l i]) (by omega) (by simp; omega)).to ?_
    rw [take_step l i (by omega)]
    simp
theorem l2Back_ev (l : List Int) (hn : l.length ≤ 17592186044415) : Ev (fun k => spec_l2Back.f k l) l.reverse := by
  unfold spec_l2Back.f
  have e : wrap64 ((l.length : Int) - 1) = (l.length : Int) - 1 := w64 (by omega)
  simp only [e]
  refine (l2Back_l l hn l.length [] (Nat.le_refl _) (by simp)).to ?_
  simp
theorem nth_right (A B : List Int) (i : Nat) (h : A.length ≤ i) : nth (A ++ B) i = nth B (i - A.length) := by
  simp [nth, List.getD_eq_getElem?_getD, List.getElem?_append_right h]
theorem Reverse_l : ∀ (n : Nat) (A M B : List Int), M.length = n → (A ++ (M ++ B)).length ≤ 17592186044415 → Ev (fun k => slices_Reverse_int_int.l0 k (A ++ (M ++ B)) (A.length : Int) ((A.length : Int) + (M.length : Int) - 1)) (A ++ (M.reverse ++ B)) := by
  intro n
  induction n using Nat.strongRecOn with
  | _ n ih =>
    intro A M B hM hn
    by_cases h2 : n < 2
    · refine Ev.step (fun k => by rw [slices_Reverse_int_int.l0]) ?_
      refine Ev.neg (by omega) (Ev.val ?_)
      have : M = [] ∨ ∃ a, M = [a] := by
        rcases M with _ | ⟨a, _ | ⟨b, M⟩⟩
        · exact .inl rfl
        · exact .inr ⟨a, rfl⟩
        · simp at hM; omega
      rcases this with rfl | ⟨a, rfl⟩ <;> simp
    · obtain ⟨a, M', b, rfl⟩ : ∃ a M' b, M = a :: (M' ++ [b]) := by
        rcases M with _ | ⟨a, M⟩
        · simp at hM; omega
        · rcases List.eq_nil_or_concat M with rfl | ⟨M', b, rfl⟩
          · simp at hM; omega
          · exact ⟨a, M', b, by simp⟩
      have hl : M'.length + 2 = n := by simp at hM; omega
      have hn' : A.length + (M'.length + 2 + B.length) ≤ 17592186044415 := by simp at hn; omega
      refine Ev.step (fun k => by rw [slices_Reverse_int_int.l0]) ?_
      have e1 : (A.length : Int) + ((a :: (M' ++ [b])).length : Int) - 1 = ((A.length + 1 + M'.length : Nat) : Int) := by simp; omega
      have e2 : wrap64 ((A.length : Int) + 1) = ((A.length + 1 : Nat) : Int) := by rw [w64 (by omega)]; omega
      have e3 : wrap64 (((A.length + 1 + M'.length : Nat) : Int) - 1) = ((A.length + M'.length : Nat) : Int) := by rw [w64 (by omega)]; omega
      have g1 : nth (A ++ (a :: (M' ++ [b]) ++ B)) (A.length + 1 + M'.length) = b := by
        have : A ++ (a :: (M' ++ [b]) ++ B) = (A ++ a :: M') ++ (b :: B) := by simp
        rw [this, nth_right _ _ _ (by simp; omega)]
        have : A.length + 1 + M'.length - (A ++ a :: M').length = 0 := by simp; omega
        rw [this]; rfl
      have g2 : nth (A ++ (a :: (M' ++ [b]) ++ B)) A.length = a := by
        rw [nth_right _ _ _ (Nat.le_refl _)]
        simp [nth]
      have g3 : ((A ++ (a :: (M' ++ [b]) ++ B)).set A.length b).set (A.length + 1 + M'.length) a = (A ++ [b]) ++ (M' ++ (a :: B)) := by
        have h1 : (A ++ (a :: (M' ++ [b]) ++ B)).set A.length b = (A ++ b :: M') ++ (b :: B) := by
          rw [List.set_append_right _ _ (Nat.le_refl _)]; simp
        rw [h1, List.set_append_right _ _ (by simp; omega)]
        have : A.length + 1 + M'.length - (A ++ b :: M').length = 0 := by simp; omega
        rw [this]; simp
      simp only [e1, e2, e3, rd_nat, Int.toNat_natCast, g1, g2, g3]
      have hlen : (A ++ (a :: (M' ++ [b]) ++ B)).length = A.length + (M'.length + 2 + B.length) := by simp; omega
      refine Ev.pos (by omega) (Ev.pos (by omega) (Ev.pos (by rw [hlen]; omega) (Ev.pos (by omega) (Ev.pos (by rw [hlen]; omega) ?_))))
      have := ih M'.length (by omega) (A ++ [b]) M' (a :: B) rfl (by simp; omega)
      have e4 : ((A ++ [b]).length : Int) + (M'.length : Int) - 1 = ((A.length + M'.length : Nat) : Int) := by simp; omega
      have e5 : ((A ++ [b]).length : Int) = ((A.length + 1 : Nat) : Int) := by simp
      rw [e4, e5] at this
      refine this.to ?_
      simp
theorem Reverse_ev (l : List Int) (hn : l.length ≤ 17592186044415) : Ev (fun k => slices_Reverse_int_int.f k l) l.reverse := by
  unfold slices_Reverse_int_int.f
  have e : wrap64 ((l.length : Int) - 1) = (([] : List Int).length : Int) + (l.length : Int) - 1 := by rw [w64 (by omega)]; simp
  have := Reverse_l l.length [] l [] rfl (by simpa using hn)
  simp only [e]
  simpa using this
theorem back_ev (l : List Int) (hn : l.length ≤ 17592186044415) : Ev (fun k => impl_back.f k l) l.reverse := by
  unfold impl_back.f
  refine Ev.bind (a := l) ?_ (Ev.bind (Reverse_ev l hn) (Ev.val rfl))
  unfold slices_Clone_int_int.f
  exact Ev.pos (by omega) (Ev.val rfl)
def runL : List Int → List Int → List Int
  | _, [] => []
  | l, c :: cs => (l.take c.toNat).reverse ++ runL (l.drop c.toNat) cs
theorem runL_length : ∀ (cs l : List Int), (runL l cs).length ≤ l.length
  | [], l => by simp [runL]
  | c :: cs, l => by
    have := runL_length cs (l.drop c.toNat)
    simp [runL] at this ⊢
    omega
theorem l6Run_l (l cs : List Int) (hn : l.length ≤ 17592186044415) (hc : cs.length ≤ 17592186044415) : ∀ (d i f : Nat) (acc : List Int), cs.length = i + d → f ≤ l.length → acc.length = f → cutsOk ((l.length - f : Nat) : Int) (cs.drop i) = true → Ev (fun k => spec_l6Run.l0 k l cs acc f i) (acc ++ runL (l.drop f) (cs.drop i))
  | 0, i, f, acc, h, hf, ha, ho => by
    refine Ev.step (fun k => by rw [spec_l6Run.l0]) ?_
    refine Ev.neg (by omega) (Ev.val ?_)
    rw [List.drop_of_length_le (by omega : cs.length ≤ i)]
    simp [runL]
  | d + 1, i, f, acc, h, hf, ha, ho => by
    refine Ev.step (fun k => by rw [spec_l6Run.l0]) ?_
    rw [drop_step cs i (by omega)] at ho ⊢
    simp only [cutsOk, Bool.and_eq_true, decide_eq_true_eq] at ho
    obtain ⟨m, hm⟩ : ∃ m : Nat, nth cs i = m := ⟨(nth cs i).toNat, by omega⟩
    rw [hm] at ho ⊢
    have e : wrap64 ((i : Int) + 1) = ((i + 1 : Nat) : Int) := by rw [w64 (by omega)]; omega
    have e2 : wrap64 ((f : Int) + (m : Int)) = ((f + m : Nat) : Int) := by rw [w64 (by omega)]; omega
    simp only [rd_nat, hm, e, e2, Int.toNat_natCast]
    clear e e2
    refine Ev.pos (by omega) (Ev.pos (by omega) (Ev.pos (by omega) (Ev.pos (by omega) (Ev.pos (by omega) ?_))))
    have hd : (l.take (f + m)).drop f = (l.drop f).take m := by rw [List.drop_take]; congr 1; omega
    rw [hd]
    refine Ev.bind (l2Back_ev _ (by simp; omega)) (Ev.pos (by simp; omega) ?_)
    refine (l6Run_l l cs hn hc d (i + 1) (f + m) _ (by omega) (by omega) (by simp; omega) ?_).to ?_
    · have : ((l.length - (f + m) : Nat) : Int) = ((l.length - f : Nat) : Int) - (m : Int) := by omega
      rw [this]
      exact ho.2.2
    · simp [runL, List.drop_drop]
theorem l6Run_ev (l cs : List Int) (hn : l.length ≤ 17592186044415) (ho : isCuts (l.length : Int) cs = true) : Ev (fun k => spec_l6Run.f k l cs) (runL l cs) := by
  simp only [isCuts, Bool.and_eq_true, decide_eq_true_eq] at ho
  have := cutsOk_len _ _ ho.2
  unfold spec_l6Run.f
  exact l6Run_l l cs hn (by omega) cs.length 0 0 [] (by omega) (by omega) rfl ho.2
theorem runCuts_l (cs : List Int) (hc : cs.length ≤ 17592186044415) : ∀ (d i : Nat) (l acc : List Int), cs.length = i + d → l.length + acc.length ≤ 17592186044415 → cutsOk (l.length : Int) (cs.drop i) = true → Ev (fun k => impl_runCuts.l0 k l acc cs (cs.length : Int) i) (acc ++ runL l (cs.drop i))
  | 0, i, l, acc, h, hn, ho => by
    refine Ev.step (fun k => by rw [impl_runCuts.l0]) ?_
    refine Ev.neg (by omega) (Ev.val ?_)
    rw [List.drop_of_length_le (by omega : cs.length ≤ i)]
    simp [runL]
  | d + 1, i, l, acc, h, hn, ho => by
    refine Ev.step (fun k => by rw [impl_runCuts.l0]) ?_
    rw [drop_step cs i (by omega)] at ho ⊢
    simp only [cutsOk, Bool.and_eq_true, decide_eq_true_eq] at ho
    obtain ⟨m, hm⟩ : ∃ m : Nat, nth cs i = m := ⟨(nth cs i).toNat, by omega⟩
    rw [hm] at ho ⊢
    have e : wrap64 ((i : Int) + 1) = ((i + 1 : Nat) : Int) := by rw [w64 (by omega)]; omega
    simp only [rd_nat, hm, e, Int.toNat_natCast]
    clear e
    refine Ev.pos (by omega) (Ev.pos (by omega) (Ev.pos (by omega) (Ev.pos (by omega) (Ev.pos (by omega) ?_))))
    refine Ev.bind (back_ev _ (by simp; omega)) (Ev.pos (by simp; omega) ?_)
    refine (runCuts_l cs hc d (i + 1) (l.drop m) _ (by omega) (by simp; omega) ?_).to ?_
    · have : ((l.drop m).length : Int) = (l.length : Int) - (m : Int) := by simp; omega
      rw [this]
      exact ho.2.2
    · simp [runL]
theorem runCuts_ev (l cs : List Int) (hn : l.length ≤ 17592186044415) (ho : isCuts (l.length : Int) cs = true) : Ev (fun k => impl_runCuts.f k l cs) (runL l cs) := by
  simp only [isCuts, Bool.and_eq_true, decide_eq_true_eq] at ho
  have := cutsOk_len _ _ ho.2
  unfold impl_runCuts.f
  exact runCuts_l cs (by omega) cs.length 0 l [] (by omega) (by simpa using hn) ho.2
def resRunCuts (l s : List Int) : List Int := if isOrd l && isCuts (l.length : Int) s then runL l s else []
theorem resRunCuts_length (l s : List Int) : (resRunCuts l s).length ≤ 1000 := by
  unfold resRunCuts
  split
  · rename_i h
    rw [Bool.and_eq_true] at h
    have := isOrd_len h.1
    have := runL_length s l
    omega
  · simp
theorem specRunCuts_ev (l s : List Int) (hn : l.length ≤ 17592186044415) (hs : s.length ≤ 17592186044415) : Ev (fun k => spec_RunCuts.f k l s) (resRunCuts l s, isOrd l && isCuts (l.length : Int) s) := by
  unfold spec_RunCuts.f
  refine Ev.bind (l2Order_ev l (by omega)) (Ev.ite (fun hc => Ev.bind (l6Cuts_ev _ s (by omega)) (Ev.ite (fun hd => Ev.bind (l6Run_ev l s hn hd) (Ev.val ?_)) (fun hd => Ev.val ?_))) (fun hc => Ev.val ?_))
  · simp [resRunCuts, hc, hd]
  · rw [Bool.not_eq_true] at hd; simp [resRunCuts, hd]
  · rw [Bool.not_eq_true] at hc; simp [resRunCuts, hc]
theorem implRunCuts_ev (l s : List Int) (hn : l.length ≤ 17592186044415) (hs : s.length ≤ 17592186044415) : Ev (fun k => impl_RunCuts.f k l s) (resRunCuts l s, isOrd l && isCuts (l.length : Int) s) := by
  unfold impl_RunCuts.f
  refine Ev.bind (isOrder_ev l (by omega)) (Ev.ite (fun hc => Ev.bind (areCuts_ev _ s (by omega)) (Ev.ite (fun hd => Ev.bind (runCuts_ev l s hn hd) (Ev.val ?_)) (fun hd => Ev.val ?_))) (fun hc => Ev.val ?_))
  · simp [resRunCuts, hc, hd]
  · rw [Bool.not_eq_true] at hd; simp [resRunCuts, hd]
  · rw [Bool.not_eq_true] at hc; simp [resRunCuts, hc]
theorem rev_idx {o t : List Int} (h : Twin o t) (c : Nat) (h1 : 1 ≤ c) (h2 : c ≤ o.length) (e : (o.take c).reverse = t.take c) : idx t (nth o 0) = (c : Int) - 1 ∧ idx o (nth t 0) = (c : Int) - 1 := by
  have hl := h.len
  have e1 : nth t (c - 1) = nth o 0 := by
    have this : nth (o.take c).reverse (c - 1) = nth (t.take c) (c - 1) := by rw [e]
    rw [nth_take _ _ _ (by omega), nth_rev _ _ (by rw [List.length_take]; omega), nth_take _ _ _ (by rw [List.length_take]; omega)] at this
    rw [← this, List.length_take, Nat.min_eq_left h2, show c - 1 - (c - 1) = 0 by omega]
  have e2 : nth o (c - 1) = nth t 0 := by
    have this : nth (o.take c).reverse 0 = nth (t.take c) 0 := by rw [e]
    rw [nth_take _ _ _ (by omega), nth_rev _ _ (by rw [List.length_take]; omega), nth_take _ _ _ (by rw [List.length_take]; omega)] at this
    rw [← this, List.length_take, Nat.min_eq_left h2, Nat.sub_zero]
  constructor
  · rw [← e1, idx_at h.ndt _ (by omega)]; omega
  · rw [← e2, idx_at h.ndo _ (by omega)]; omega
theorem Twin.cut {o t : List Int} (h : Twin o t) (c : Nat) (e : (o.take c).reverse = t.take c) : Twin (o.drop c) (t.drop c) := by
  have hno : (o.take c ++ o.drop c).Nodup := by rw [List.take_append_drop]; exact h.ndo
  have hnt : (t.take c ++ t.drop c).Nodup := by rw [List.take_append_drop]; exact h.ndt
  rw [List.nodup_append] at hno hnt
  refine ⟨by simp [h.len], hno.2.1, hnt.2.1, fun x hx => ?_, fun x hx => ?_⟩
  · have := h.fwd x (List.mem_of_mem_drop hx)
    rw [← List.take_append_drop c t, List.mem_append] at this
    rcases this with h3 | h3
    · rw [← e, List.mem_reverse] at h3
      exact absurd rfl (hno.2.2 x h3 x hx)
    · exact h3
  · have := h.bwd x (List.mem_of_mem_drop hx)
    rw [← List.take_append_drop c o, List.mem_append] at this
    rcases this with h3 | h3
    · rw [← List.mem_reverse, e] at h3
      exact absurd rfl (hnt.2.2 x h3 x hx)
    · exact h3
def cutsM : Nat → List Int → List Int → Option (List Int)
  | 0, _, _ => some []
  | d + 1, o, t => if o = [] then some [] else if (o.take (idx t (nth o 0) + 1).toNat).reverse = t.take (idx t (nth o 0) + 1).toNat then (cutsM d (o.drop (idx t (nth o 0) + 1).toNat) (t.drop (idx t (nth o 0) + 1).toNat)).map (fun r => (idx t (nth o 0) + 1) :: r) else none
def cutsR (acc : List Int) (q : Option (List Int)) : List Int × Bool := match q with | some r => (acc ++ r, true) | none => ([], false)
theorem cutsR_cons (acc : List Int) (c : Int) (q : Option (List Int)) : cutsR acc (q.map fun r => c :: r) = cutsR (acc ++ [c]) q := by
  cases q <;> simp [cutsR]
theorem cutsTo_l : ∀ (d : Nat) (o t acc : List Int), o.length ≤ d → acc.length + d ≤ 1000 → o.length ≤ 1000 → Twin o t → Ev (fun k => impl_cutsTo.l0 k o t acc) (cutsR acc (cutsM d o t))
  | 0, o, t, acc, hd, ha, hb, h => by
    refine Ev.step (fun k => by rw [impl_cutsTo.l0]) (Ev.neg (by omega) (Ev.val ?_))
    simp [cutsM, cutsR]
  | d + 1, o, t, acc, hd, ha, hb, h => by
    refine Ev.step (fun k => by rw [impl_cutsTo.l0]) ?_
    have hl := h.len
    by_cases e0 : o = []
    · refine Ev.neg (by simp [e0]) (Ev.val ?_)
      simp [cutsM, cutsR, e0]
    have hp : 0 < o.length := List.length_pos_iff.2 e0
    refine Ev.pos (by omega) (Ev.pos (by omega) (Ev.bind (Index_ev t _ (by omega)) ?_))
    obtain ⟨q, hq, e1, e2⟩ := idx_mem (h.fwd (nth o 0) (by rw [nth_lt _ _ hp]; exact List.getElem_mem hp))
    have e3 : rd o 0 = nth o 0 := rfl
    rw [e3]
    have e4 : wrap64 (idx t (nth o 0) + 1) = ((q + 1 : Nat) : Int) := by rw [e1, w64 (by omega)]; omega
    have e5 : idx t (nth o 0) + 1 = ((q + 1 : Nat) : Int) := by rw [e1]; omega
    simp only [e4]
    clear e4
    refine Ev.pos (by omega) (Ev.pos (by omega) (Ev.bind (back_ev _ (by rw [List.length_take]; omega)) (Ev.pos (by omega) (Ev.bind (Equal_ev _ _ (by rw [List.length_reverse, List.length_take]; omega)) (Ev.ite (fun hc => ?_) (fun hc => Ev.val ?_))))))
    · rw [Int.toNat_natCast] at *
      have hc' : (o.take (q + 1)).reverse = t.take (q + 1) := by simpa using hc
      refine Ev.pos (by omega) ?_
      have := cutsTo_l d (o.drop (q + 1)) (t.drop (q + 1)) (acc ++ [((q + 1 : Nat) : Int)]) (by rw [List.length_drop]; omega) (by simp; omega) (by rw [List.length_drop]; omega) (h.cut (q + 1) hc')
      refine Ev.to this ?_
      rw [cutsM, if_neg e0, e5, Int.toNat_natCast, if_pos hc', cutsR_cons]
    · rw [Int.toNat_natCast] at *
      have hc' : ¬ (o.take (q + 1)).reverse = t.take (q + 1) := by simpa using hc
      rw [cutsM, if_neg e0, e5, Int.toNat_natCast, if_neg hc']
      rfl
theorem cutsTo_ev (l s : List Int) (hl : isOrd l = true) (h : Twin l s) : Ev (fun k => impl_cutsTo.f k l s) (cutsR [] (cutsM 7 l s)) := by
  have := isOrd_len hl
  exact cutsTo_l 7 l s [] (by omega) (by simp) (by omega) h
theorem cut_same {o t : List Int} (h : Twin o t) (hp : 0 < o.length) (p : Nat) (hpl : p < o.length) (e : idx o (nth t 0) = p) :
    ((o.take (p + 1)).reverse = t.take (p + 1) → idx t (nth o 0) = p) ∧ (¬ (o.take (p + 1)).reverse = t.take (p + 1) → ¬ (o.take (idx t (nth o 0) + 1).toNat).reverse = t.take (idx t (nth o 0) + 1).toNat) := by
  have hl := h.len
  constructor
  · intro hc
    have := (rev_idx h (p + 1) (by omega) (by omega) hc).1
    omega
  · intro hc hd
    obtain ⟨q, hq, e1, _⟩ := idx_mem (h.fwd (nth o 0) (by rw [nth_lt _ _ hp]; exact List.getElem_mem hp))
    have e5 : idx t (nth o 0) + 1 = ((q + 1 : Nat) : Int) := by rw [e1]; omega
    rw [e5, Int.toNat_natCast] at hd
    have := (rev_idx h (q + 1) (by omega) (by omega) hd).2
    have : p = q := by omega
    exact hc (this ▸ hd)
theorem cutsM_more : ∀ (d e : Nat) (o t : List Int), o.length ≤ d → Twin o t → cutsM (d + e) o t = cutsM d o t
  | 0, e, o, t, hd, h => by
    obtain rfl : o = [] := List.eq_nil_of_length_eq_zero (by omega)
    cases e <;> simp [cutsM]
  | d + 1, e, o, t, hd, h => by
    rw [show d + 1 + e = d + e + 1 by omega, cutsM, cutsM]
    by_cases e0 : o = []
    · rw [if_pos e0, if_pos e0]
    have hp : 0 < o.length := List.length_pos_iff.2 e0
    obtain ⟨q, hq, e1, _⟩ := idx_mem (h.fwd (nth o 0) (by rw [nth_lt _ _ hp]; exact List.getElem_mem hp))
    have e5 : idx t (nth o 0) + 1 = ((q + 1 : Nat) : Int) := by rw [e1]; omega
    rw [if_neg e0, if_neg e0, e5, Int.toNat_natCast]
    by_cases hc : (o.take (q + 1)).reverse = t.take (q + 1)
    · rw [if_pos hc, if_pos hc, cutsM_more d e _ _ (by rw [List.length_drop]; omega) (h.cut (q + 1) hc)]
    · rw [if_neg hc, if_neg hc]
theorem cutsM_len : ∀ (d : Nat) (o t r : List Int), cutsM d o t = some r → r.length ≤ d
  | 0, o, t, r, h => by simp [cutsM] at h; simp [← h]
  | d + 1, o, t, r, h => by
    rw [cutsM] at h
    split at h
    · injection h with h; simp [← h]
    · split at h
      · obtain ⟨r', h1, h2⟩ := Option.map_eq_some_iff.1 h
        have := cutsM_len d _ _ _ h1
        simp [← h2]; omega
      · cases h
theorem drop_nth (l : List Int) (f i : Nat) : nth (l.drop f) i = nth l (f + i) := by
  unfold nth
  rw [List.getD_eq_getElem?_getD, List.getD_eq_getElem?_getD, List.getElem?_drop]
set_option maxHeartbeats 2000000 in
theorem l6To_l : ∀ (d f : Nat) (l s acc : List Int), l.length = f + d → acc.length + d ≤ 1000 → l.length ≤ 1000 → l.length = s.length → Twin (l.drop f) (s.drop f) → Ev (fun k => spec_l6To.l0 k l s acc f) (cutsR acc (cutsM d (l.drop f) (s.drop f)))
  | 0, f, l, s, acc, hd, ha, hb, hls, h => by
    refine Ev.step (fun k => by rw [spec_l6To.l0]) (Ev.neg (by omega) (Ev.val ?_))
    simp [cutsM, cutsR]
  | d + 1, f, l, s, acc, hd, ha, hb, hls, h => by
    refine Ev.step (fun k => by rw [spec_l6To.l0]) (Ev.pos (by omega) ?_)
    have hp : 0 < (l.drop f).length := by rw [List.length_drop]; omega
    have hps : 0 < (s.drop f).length := by rw [List.length_drop]; omega
    have e0 : l.drop f ≠ [] := List.length_pos_iff.1 hp
    obtain ⟨p, hpl, e1, e2⟩ := idx_mem (h.bwd (nth (s.drop f) 0) (by rw [nth_lt _ _ hps]; exact List.getElem_mem hps))
    rw [List.length_drop] at hpl
    have hs0 : nth (s.drop f) 0 = nth s f := drop_nth s f 0
    have hl0 : nth (l.drop f) p = nth l (f + p) := drop_nth l f p
    have key : Ev (fun k => spec_l6To.j2 k l s acc (f : Int) ((f + p : Nat) : Int)) (cutsR acc (cutsM (d + 1) (l.drop f) (s.drop f))) := by
      refine Ev.step (fun k => by rw [spec_l6To.j2]) (Ev.neg (by omega) ?_)
      have e6 : wrap64 (((f + p : Nat) : Int) + 1) = ((f + (p + 1) : Nat) : Int) := by rw [w64 (by omega)]; omega
      simp only [e6, Int.toNat_natCast]
      clear e6
      have t1 : (l.take (f + (p + 1))).drop f = (l.drop f).take (p + 1) := by rw [List.drop_take, Nat.add_sub_cancel_left]
      have t2 : (s.take (f + (p + 1))).drop f = (s.drop f).take (p + 1) := by rw [List.drop_take, Nat.add_sub_cancel_left]
      rw [t1, t2]
      have hcs := cut_same h hp p (by rw [List.length_drop]; omega) e1
      refine Ev.pos (by omega) (Ev.pos (by omega) (Ev.pos (by omega) (Ev.bind (l2Back_ev _ (by rw [List.length_take, List.length_drop]; omega)) (Ev.pos (by omega) (Ev.bind (l1Same_ev _ _ (by rw [List.length_reverse, List.length_take, List.length_drop]; omega)) (Ev.ite (fun hc => ?_) (fun hc => Ev.val ?_)))))))
      · have hc' : ((l.drop f).take (p + 1)).reverse = (s.drop f).take (p + 1) := by simpa using hc
        have hq := hcs.1 hc'
        have e7 : wrap64 (((f + (p + 1) : Nat) : Int) - (f : Int)) = ((p + 1 : Nat) : Int) := by rw [w64 (by omega)]; omega
        have e8 : idx (s.drop f) (nth (l.drop f) 0) + 1 = ((p + 1 : Nat) : Int) := by rw [hq]; omega
        rw [e7]
        clear e7
        refine Ev.pos (by omega) ?_
        have hcut := h.cut (p + 1) hc'
        rw [List.drop_drop, List.drop_drop] at hcut
        have := l6To_l (d - p) (f + (p + 1)) l s (acc ++ [((p + 1 : Nat) : Int)]) (by omega) (by simp; omega) hb hls hcut
        refine Ev.to this ?_
        rw [cutsM, if_neg e0, e8, Int.toNat_natCast, if_pos hc', cutsR_cons, List.drop_drop, List.drop_drop]
        have hm := cutsM_more (d - p) p (l.drop (f + (p + 1))) (s.drop (f + (p + 1))) (by rw [List.length_drop]; omega) hcut
        rw [show d - p + p = d by omega] at hm
        rw [hm]
      · have hc' : ¬ ((l.drop f).take (p + 1)).reverse = (s.drop f).take (p + 1) := by simpa using hc
        rw [cutsM, if_neg e0, if_neg (hcs.2 hc')]
        rfl
    have srch : ∀ e i : Nat, i + e = p → Ev (fun k => spec_l6To.l1 k l s acc (f : Int) ((f + i : Nat) : Int)) (cutsR acc (cutsM (d + 1) (l.drop f) (s.drop f))) := by
      intro e
      induction e with
      | zero =>
        intro i hi
        obtain rfl : i = p := by omega
        refine Ev.step (fun k => by rw [spec_l6To.l1]) (Ev.pos (by omega) (Ev.pos (by omega) (Ev.pos (by omega) (Ev.pos (by omega) (Ev.pos ?_ key)))))
        rw [rd_nat, rd_nat, ← hl0, e2, hs0]
      | succ e ih =>
        intro i hi
        refine Ev.step (fun k => by rw [spec_l6To.l1]) (Ev.pos (by omega) (Ev.pos (by omega) (Ev.pos (by omega) (Ev.pos (by omega) (Ev.neg ?_ ?_)))))
        · rw [rd_nat, rd_nat, ← hs0, ← drop_nth]
          intro hq
          have := idx_at h.ndo i (by rw [List.length_drop]; omega)
          rw [hq, e1] at this
          omega
        · have e6 : wrap64 (((f + i : Nat) : Int) + 1) = ((f + (i + 1) : Nat) : Int) := by rw [w64 (by omega)]; omega
          simp only [e6]
          clear e6
          exact ih (i + 1) (by omega)
    have hfin := srch p 0 (by omega)
    rw [Nat.add_zero] at hfin
    exact hfin
theorem l6To_ev (l s : List Int) (hl : isOrd l = true) (h : Twin l s) : Ev (fun k => spec_l6To.f k l s) (cutsR [] (cutsM 7 l s)) := by
  have hn := isOrd_len hl
  have := cutsM_more l.length (7 - l.length) l s (Nat.le_refl _) h
  rw [show l.length + (7 - l.length) = 7 by omega] at this
  rw [this]
  have h1 := l6To_l l.length 0 l s [] (by omega) (by simp; omega) (by omega) h.len (by rw [List.drop_zero, List.drop_zero]; exact h)
  rw [List.drop_zero, List.drop_zero] at h1
  exact h1
def okCutsTo (l s : List Int) : Bool := isOrd l && (isOrd s && decide (l.length = s.length))
def resCutsTo (l s : List Int) : List Int := if okCutsTo l s then (cutsR [] (cutsM 7 l s)).1 else []
def flagCutsTo (l s : List Int) : Bool := if okCutsTo l s then (cutsR [] (cutsM 7 l s)).2 else false
theorem resCutsTo_length (l s : List Int) : (resCutsTo l s).length ≤ 1000 := by
  unfold resCutsTo
  split
  · cases e : cutsM 7 l s with
    | none => simp [cutsR]
    | some r => have := cutsM_len 7 l s r e; simp [cutsR]; omega
  · simp
theorem specCutsTo_ev (l s : List Int) (hn : l.length ≤ 17592186044415) (hs : s.length ≤ 17592186044415) : Ev (fun k => spec_CutsTo.f k l s) (resCutsTo l s, flagCutsTo l s) := by
  unfold spec_CutsTo.f
  refine Ev.bind (l2Order_ev l (by omega)) (Ev.ite (fun hc => Ev.bind (l2Order_ev s (by omega)) (Ev.ite (fun hd => Ev.ite (fun he => Ev.bind (l6To_ev l s hc (Twin.ord hc hd (by omega))) (Ev.val ?_)) (fun he => Ev.val ?_)) (fun hd => Ev.val ?_))) (fun hc => Ev.val ?_))
  · have he' : l.length = s.length := by omega
    simp [resCutsTo, flagCutsTo, okCutsTo, hc, hd, he']
  · have he' : ¬ l.length = s.length := by omega
    simp [resCutsTo, flagCutsTo, okCutsTo, he']
  · rw [Bool.not_eq_true] at hd; simp [resCutsTo, flagCutsTo, okCutsTo, hd]
  · rw [Bool.not_eq_true] at hc; simp [resCutsTo, flagCutsTo, okCutsTo, hc]
theorem areOrdersC_ev (l s : List Int) (hn : l.length ≤ 17592186044415) (hs : s.length ≤ 17592186044415) : Ev (fun k => impl_areOrders.f k l s) (okCutsTo l s) := by
  unfold impl_areOrders.f
  refine Ev.bind (isOrder_ev l (by omega)) (Ev.ite (fun hc => Ev.bind (isOrder_ev s (by omega)) (Ev.ite (fun hd => Ev.val ?_) (fun hd => Ev.val ?_))) (fun hc => Ev.val ?_))
  · rw [Bool.eq_iff_iff]
    simp [okCutsTo, hc, hd]
    omega
  · rw [Bool.not_eq_true] at hd; simp [okCutsTo, hd]
  · rw [Bool.not_eq_true] at hc; simp [okCutsTo, hc]
theorem implCutsTo_ev (l s : List Int) (hn : l.length ≤ 17592186044415) (hs : s.length ≤ 17592186044415) : Ev (fun k => impl_CutsTo.f k l s) (resCutsTo l s, flagCutsTo l s) := by
  unfold impl_CutsTo.f
  refine Ev.bind (areOrdersC_ev l s hn hs) (Ev.ite (fun hc => ?_) (fun hc => Ev.val ?_))
  · have hc' := hc
    simp only [okCutsTo, Bool.and_eq_true, decide_eq_true_eq] at hc'
    refine Ev.bind (cutsTo_ev l s hc'.1 (Twin.ord hc'.1 hc'.2.1 hc'.2.2)) (Ev.val ?_)
    simp [resCutsTo, flagCutsTo, hc]
  · rw [Bool.not_eq_true] at hc; simp [resCutsTo, flagCutsTo, hc]
theorem runL_perm : ∀ (cs l : List Int), cutsOk (l.length : Int) cs = true → (runL l cs).Perm l
  | [], l, h => by
    have : l = [] := by
      simp only [cutsOk] at h
      exact List.eq_nil_of_length_eq_zero (by simpa using h)
    subst this
    exact List.Perm.refl _
  | c :: cs, l, h => by
    simp only [cutsOk, Bool.and_eq_true, decide_eq_true_eq] at h
    have ih := runL_perm cs (l.drop c.toNat) (by
      have e : (l.length : Int) - c = ((l.drop c.toNat).length : Int) := by rw [List.length_drop]; omega
      rw [← e]; exact h.2.2)
    rw [runL]
    exact ((List.reverse_perm _).append ih).trans (by rw [List.take_append_drop])
theorem runL_ord {l cs : List Int} (hl : isOrd l = true) (hc : isCuts (l.length : Int) cs = true) : isOrd (runL l cs) = true ∧ (runL l cs).length = l.length := by
  have hp := runL_perm cs l (by simp only [isCuts, Bool.and_eq_true] at hc; exact hc.2)
  have hn := isOrd_len hl
  have e := hp.length_eq
  exact ⟨isOrd_of (by omega) (by omega) (hp.nodup_iff.2 (isOrd_nodup hl)) (fun x hx => by rw [e]; exact isOrd_mem hl x (hp.mem_iff.1 hx)), e⟩
def cutsT (n : Nat) : List (List Int) := match impl_allCuts.f 300 (n : Int) with | some t => t | none => []
set_option maxRecDepth 100000 in
theorem cutsT_ : ∀ n ∈ [1, 2, 3, 4, 5, 6, 7], ((impl_allCuts.f 300 ((n : Nat) : Int) == some (cutsT n)) && (((cutsT n).length == 2 ^ (n - 1)) && ((List.range (2 ^ (n - 1))).all fun (k : Nat) => (spec_l6At.f 300 (n : Int) (k : Int) == some ((cutsT n).getD k [])) && isCuts (n : Int) ((cutsT n).getD k [])))) = true := by decide +kernel
theorem cutsT_at (n : Nat) (h1 : 1 ≤ n) (h7 : n ≤ 7) : impl_allCuts.f 300 (n : Int) = some (cutsT n) ∧ (cutsT n).length = 2 ^ (n - 1) ∧ ∀ k : Nat, k < (cutsT n).length → spec_l6At.f 300 (n : Int) (k : Int) = some ((cutsT n).getD k []) ∧ isCuts (n : Int) ((cutsT n).getD k []) = true := by
  have := cutsT_ n (by simp; omega)
  simp only [Bool.and_eq_true, beq_iff_eq, List.all_eq_true, List.mem_range] at this
  exact ⟨this.1, this.2.1, fun k hk => this.2.2 k (by rw [← this.2.1]; exact hk)⟩
def tcM (l s : List Int) : List (List Int) → List Int × List Int × Bool
  | [] => ([], [], false)
  | c :: cs => if (cutsR [] (cutsM 7 (runL l c) s)).2 = true then (c, (cutsR [] (cutsM 7 (runL l c) s)).1, true) else tcM l s cs
theorem pow_le (n : Nat) (h7 : n ≤ 7) : 2 ^ (n - 1) ≤ 64 := by
  have : n = 0 ∨ n = 1 ∨ n = 2 ∨ n = 3 ∨ n = 4 ∨ n = 5 ∨ n = 6 ∨ n = 7 := by omega
  rcases this with rfl | rfl | rfl | rfl | rfl | rfl | rfl | rfl <;> decide
theorem shl_is (n : Nat) (h1 : 1 ≤ n) (h7 : n ≤ 7) : shl .i64 1 ((n - 1 : Nat) : Int) = ((2 ^ (n - 1) : Nat) : Int) := by
  have : n = 1 ∨ n = 2 ∨ n = 3 ∨ n = 4 ∨ n = 5 ∨ n = 6 ∨ n = 7 := by omega
  rcases this with rfl | rfl | rfl | rfl | rfl | rfl | rfl <;> decide +kernel
theorem drop_stepL (l : List (List Int)) (i : Nat) (h : i < l.length) : l.drop i = l.getD i [] :: l.drop (i + 1) := by
  rw [List.getD_eq_getElem?_getD, List.getElem?_eq_getElem h]; exact List.drop_eq_getElem_cons h
theorem rd_L1_natL (xs : List (List Int)) (i : Nat) : rd_L5 xs (i : Int) = xs.getD i [] := rfl
theorem isCuts_len {n : Int} {cs : List Int} (hn : n ≤ 7) (h : isCuts n cs = true) : cs.length ≤ 7 := by
  have : ∀ (cs : List Int) (n : Int), cutsOk n cs = true → (cs.length : Int) ≤ n := by
    intro cs
    induction cs with
    | nil => intro n h; simp [cutsOk] at h; simp [h]
    | cons c cs ih =>
      intro n h
      simp only [cutsOk, Bool.and_eq_true, decide_eq_true_eq] at h
      have := ih _ h.2.2
      simp only [List.length_cons]
      omega
  simp only [isCuts, Bool.and_eq_true] at h
  have := this cs n h.2
  omega
theorem specTC_l {l s : List Int} (hl : isOrd l = true) (hs : isOrd s = true) (he : l.length = s.length) : ∀ (d i : Nat), (cutsT l.length).length = i + d → Ev (fun k => spec_TwoCuts.l0 k l s (i : Int)) (tcM l s ((cutsT l.length).drop i))
  | 0, i, h => by
    have hn := isOrd_len hl
    obtain ⟨t1, t2, t3⟩ := cutsT_at l.length hn.1 hn.2
    refine Ev.step (fun k => by rw [spec_TwoCuts.l0]) ?_
    have e := shl_is l.length hn.1 hn.2
    rw [← t2] at e
    simp only [wdn l.length (by omega) (by omega), e]
    clear e t2
    refine Ev.pos (by omega) ?_
    refine Ev.neg (by omega) (Ev.val ?_)
    rw [List.drop_of_length_le (by omega), tcM]
  | d + 1, i, h => by
    have hn := isOrd_len hl
    obtain ⟨t1, t2, t3⟩ := cutsT_at l.length hn.1 hn.2
    obtain ⟨t4, t5⟩ := t3 i (by omega)
    have hp := pow_le l.length hn.2
    have ho := runL_ord hl t5
    refine Ev.step (fun k => by rw [spec_TwoCuts.l0]) ?_
    have e := shl_is l.length hn.1 hn.2
    rw [← t2] at e
    rw [← t2] at hp
    simp only [wdn l.length (by omega) (by omega), e, wup i (by omega)]
    clear e t2
    refine Ev.pos (by omega) ?_
    refine Ev.pos (by omega) ?_
    refine Ev.bind (Ev.of (fun k => spec_l6At.mono _ _ k) t4) ?_
    refine Ev.bind (l6Run_ev l _ (by omega) t5) ?_
    refine Ev.bind (l6To_ev _ s ho.1 (Twin.ord ho.1 hs (by omega))) ?_
    rw [drop_stepL _ i (by omega), tcM]
    refine Ev.ite (fun hc => Ev.val ?_) (fun hc => ?_)
    · rw [if_pos hc]
    · rw [if_neg hc]
      exact specTC_l hl hs he d (i + 1) (by omega)
theorem implTC_l {l s : List Int} (hl : isOrd l = true) (hs : isOrd s = true) (he : l.length = s.length) : ∀ (d i : Nat), (cutsT l.length).length = i + d → Ev (fun k => impl_TwoCuts.l0 k l s (cutsT l.length) ((cutsT l.length).length : Int) (i : Int)) (tcM l s ((cutsT l.length).drop i))
  | 0, i, h => by
    have hn := isOrd_len hl
    obtain ⟨t1, t2, t3⟩ := cutsT_at l.length hn.1 hn.2
    refine Ev.step (fun k => by rw [impl_TwoCuts.l0]) ?_
    refine Ev.neg (by omega) (Ev.val ?_)
    rw [List.drop_of_length_le (by omega), tcM]
  | d + 1, i, h => by
    have hn := isOrd_len hl
    obtain ⟨t1, t2, t3⟩ := cutsT_at l.length hn.1 hn.2
    obtain ⟨t4, t5⟩ := t3 i (by omega)
    have hp := pow_le l.length hn.2
    have ho := runL_ord hl t5
    refine Ev.step (fun k => by rw [impl_TwoCuts.l0]) ?_
    rw [← t2] at hp
    clear t2
    simp only [wup i (by omega), rd_L1_natL]
    refine Ev.pos (by omega) ?_
    refine Ev.pos (by omega) ?_
    refine Ev.pos (by omega) ?_
    refine Ev.bind (runCuts_ev l _ (by omega) t5) ?_
    refine Ev.bind (cutsTo_ev _ s ho.1 (Twin.ord ho.1 hs (by omega))) ?_
    rw [drop_stepL _ i (by omega), tcM]
    refine Ev.ite (fun hc => Ev.val ?_) (fun hc => ?_)
    · rw [if_pos hc]
    · rw [if_neg hc]
      exact implTC_l hl hs he d (i + 1) (by omega)
def okTwoCuts (l s : List Int) : Bool := isOrd l && (isOrd s && decide (l.length = s.length))
def resTwoCuts (l s : List Int) : List Int × List Int × Bool := if okTwoCuts l s then tcM l s (cutsT l.length) else ([], [], false)
theorem tcM_len (l s : List Int) : ∀ cs : List (List Int), (∀ c ∈ cs, c.length ≤ 7) → (tcM l s cs).1.length ≤ 7 ∧ (tcM l s cs).2.1.length ≤ 7
  | [], _ => by simp [tcM]
  | c :: cs, h => by
    rw [tcM]
    split
    · refine ⟨h c (by simp), ?_⟩
      cases e : cutsM 7 (runL l c) s with
      | none => simp [cutsR]
      | some r => have := cutsM_len 7 _ _ r e; simp [cutsR]; omega
    · exact tcM_len l s cs fun x hx => h x (by simp [hx])
theorem resTwoCuts_length (l s : List Int) : (resTwoCuts l s).1.length ≤ 1000 ∧ (resTwoCuts l s).2.1.length ≤ 1000 := by
  unfold resTwoCuts
  split
  · rename_i h
    simp only [okTwoCuts, Bool.and_eq_true] at h
    have hn := isOrd_len h.1
    obtain ⟨t1, t2, t3⟩ := cutsT_at l.length hn.1 hn.2
    have := tcM_len l s (cutsT l.length) fun c hc => by
      obtain ⟨i, hi, e⟩ := List.mem_iff_getElem.1 hc
      have h5 := (t3 i hi).2
      rw [List.getD_eq_getElem?_getD, List.getElem?_eq_getElem hi, Option.getD_some, e] at h5
      exact isCuts_len (by omega) h5
    omega
  · simp
theorem areOrders_ev (l s : List Int) (hn : l.length ≤ 17592186044415) (hs : s.length ≤ 17592186044415) : Ev (fun k => impl_areOrders.f k l s) (okTwoCuts l s) := by
  unfold impl_areOrders.f
  refine Ev.bind (isOrder_ev l (by omega)) (Ev.ite (fun hc => Ev.bind (isOrder_ev s (by omega)) (Ev.ite (fun hd => Ev.val ?_) (fun hd => Ev.val ?_))) (fun hc => Ev.val ?_))
  · rw [Bool.eq_iff_iff]
    simp [okTwoCuts, hc, hd]
    omega
  · rw [Bool.not_eq_true] at hd; simp [okTwoCuts, hd]
  · rw [Bool.not_eq_true] at hc; simp [okTwoCuts, hc]
theorem specTwoCuts_ev (l s : List Int) (hn : l.length ≤ 17592186044415) (hs : s.length ≤ 17592186044415) : Ev (fun k => spec_TwoCuts.f k l s) (resTwoCuts l s) := by
  have bad : okTwoCuts l s = false → Ev (fun k => spec_TwoCuts.j0 k l s true) (resTwoCuts l s) := fun h => by
    refine Ev.step (fun k => by rw [spec_TwoCuts.j0]) ?_
    exact Ev.pos rfl (Ev.val (by simp [resTwoCuts, h]))
  unfold spec_TwoCuts.f
  refine Ev.bind (l2Order_ev l (by omega)) (Ev.ite (fun hc => ?_) (fun hc => bad (by rw [Bool.not_eq_true] at hc; simp [okTwoCuts, hc])))
  refine Ev.bind (l2Order_ev s (by omega)) (Ev.ite (fun hd => ?_) (fun hd => bad (by rw [Bool.not_eq_true] at hd; simp [okTwoCuts, hd])))
  by_cases he : l.length = s.length
  · have e : ((l.length : Int) != (s.length : Int)) = false := by simp [he]
    simp only [e]
    refine Ev.step (fun k => by rw [spec_TwoCuts.j0]) ?_
    refine Ev.neg (by simp) ?_
    have := specTC_l hc hd he (cutsT l.length).length 0 (by omega)
    rw [List.drop_zero] at this
    have e2 : resTwoCuts l s = tcM l s (cutsT l.length) := by simp [resTwoCuts, okTwoCuts, hc, hd, he]
    rw [e2]
    exact this
  · have e : ((l.length : Int) != (s.length : Int)) = true := by simp; omega
    simp only [e]
    exact bad (by simp [okTwoCuts, he])
theorem implTwoCuts_ev (l s : List Int) (hn : l.length ≤ 17592186044415) (hs : s.length ≤ 17592186044415) : Ev (fun k => impl_TwoCuts.f k l s) (resTwoCuts l s) := by
  unfold impl_TwoCuts.f
  refine Ev.bind (areOrders_ev l s hn hs) (Ev.ite (fun hc => ?_) (fun hc => Ev.val ?_))
  · have hc' := hc
    simp only [okTwoCuts, Bool.and_eq_true, decide_eq_true_eq] at hc'
    have hn := isOrd_len hc'.1
    obtain ⟨t1, t2, t3⟩ := cutsT_at l.length hn.1 hn.2
    refine Ev.bind (Ev.of (fun k => impl_allCuts.mono _ k) t1) ?_
    have := implTC_l hc'.1 hc'.2.1 hc'.2.2 (cutsT l.length).length 0 (by omega)
    rw [List.drop_zero] at this
    have e2 : resTwoCuts l s = tcM l s (cutsT l.length) := by simp only [resTwoCuts, hc, if_true]
    rw [e2]
    exact this
  · rw [Bool.not_eq_true] at hc; simp [resTwoCuts, hc]
theorem specBad_l (l : List Int) (hn : l.length ≤ 17592186044416) (hb : ∀ n, isCuts n l = false) : ∀ (d i : Nat) (s : Int), l.length = i + d → i ≤ 8 → 0 ≤ s → s ≤ 7 * i → Ev (fun k => spec_RankOfCuts.l0 k l s i) (0, false)
  | 0, i, s, h, h8, h0, h1 => by
    refine Ev.step (fun k => by rw [spec_RankOfCuts.l0]) ?_
    refine Ev.neg (by omega) ?_
    refine Ev.step (fun k => by rw [spec_RankOfCuts.j1]) ?_
    refine Ev.neg (by simp) ?_
    refine Ev.bind (l6Cuts_ev s l hn) ?_
    rw [hb s]
    exact Ev.neg (by simp) (Ev.val rfl)
  | d + 1, i, s, h, h8, h0, h1 => by
    refine Ev.step (fun k => by rw [spec_RankOfCuts.l0]) ?_
    refine Ev.pos (by omega) ?_
    refine Ev.step (fun k => by rw [spec_RankOfCuts.j1]) ?_
    simp only [l1In_is, Option.bind_some, decide_eq_true_eq, rd_nat]
    refine Ev.ite (fun h7 => Ev.pos (by omega) (Ev.pos (by omega) (Ev.ite (fun hc => ?_) (fun hc => Ev.val rfl)))) (fun h7 => ?_)
    · have e : wrap64 ((i : Int) + 1) = ((i + 1 : Nat) : Int) := by rw [w64 (by omega)]; omega
      have e1 : wrap64 (s + nth l i) = s + nth l i := w64 (by omega)
      simp only [e, e1]
      exact specBad_l l hn hb d (i + 1) _ (by omega) (by omega) (by omega) (by omega)
    · refine Ev.bind (l6Cuts_ev s l hn) ?_
      rw [hb s]
      exact Ev.neg (by simp) (Ev.val rfl)
theorem implBad_l (l : List Int) (hn : l.length ≤ 17592186044416) (hb : ∀ n, isCuts n l = false) : ∀ (d i : Nat) (s : Int), l.length = i + d → 0 ≤ s → s ≤ 14 → Ev (fun k => impl_RankOfCuts.l0 k s l (l.length : Int) i l) (0, false)
  | 0, i, s, h, h0, h1 => by
    refine Ev.step (fun k => by rw [impl_RankOfCuts.l0]) ?_
    refine Ev.neg (by omega) ?_
    refine Ev.bind (areCuts_ev s l hn) ?_
    rw [hb s]
    exact Ev.neg (by simp) (Ev.val rfl)
  | d + 1, i, s, h, h0, h1 => by
    refine Ev.step (fun k => by rw [impl_RankOfCuts.l0]) ?_
    simp only [rd_nat]
    refine Ev.pos (by omega) (Ev.pos (by omega) (Ev.pos (by omega) (Ev.ite (fun _ => Ev.val rfl) (fun hc => Ev.ite (fun _ => Ev.val rfl) (fun hd => Ev.ite (fun _ => Ev.val rfl) (fun he => ?_))))))
    have e : wrap64 ((i : Int) + 1) = ((i + 1 : Nat) : Int) := by rw [w64 (by omega)]; omega
    have e1 : wrap64 (s + nth l i) = s + nth l i := w64 (by omega)
    simp only [e, e1]
    exact implBad_l l hn hb d (i + 1) _ (by omega) (by omega) (by omega)
theorem specBadW_l (l : List Int) (hn : l.length ≤ 17592186044416) (hb : ∀ n, isCuts n l = false) : ∀ (d i : Nat) (s : Int), l.length = i + d → i ≤ 8 → 0 ≤ s → s ≤ 7 * i → Ev (fun k => spec_CutsWord.l0 k l s i) ((⟨#[]⟩ : ByteArray), false)
  | 0, i, s, h, h8, h0, h1 => by
    refine Ev.step (fun k => by rw [spec_CutsWord.l0]) ?_
    refine Ev.neg (by omega) ?_
    refine Ev.step (fun k => by rw [spec_CutsWord.j1]) ?_
    refine Ev.neg (by simp) ?_
    refine Ev.bind (l6Cuts_ev s l hn) ?_
    rw [hb s]
    exact Ev.neg (by simp) (Ev.val rfl)
  | d + 1, i, s, h, h8, h0, h1 => by
    refine Ev.step (fun k => by rw [spec_CutsWord.l0]) ?_
    refine Ev.pos (by omega) ?_
    refine Ev.step (fun k => by rw [spec_CutsWord.j1]) ?_
    simp only [l1In_is, Option.bind_some, decide_eq_true_eq, rd_nat]
    refine Ev.ite (fun h7 => Ev.pos (by omega) (Ev.pos (by omega) (Ev.ite (fun hc => ?_) (fun hc => Ev.val rfl)))) (fun h7 => ?_)
    · have e : wrap64 ((i : Int) + 1) = ((i + 1 : Nat) : Int) := by rw [w64 (by omega)]; omega
      have e1 : wrap64 (s + nth l i) = s + nth l i := w64 (by omega)
      simp only [e, e1]
      exact specBadW_l l hn hb d (i + 1) _ (by omega) (by omega) (by omega) (by omega)
    · refine Ev.bind (l6Cuts_ev s l hn) ?_
      rw [hb s]
      exact Ev.neg (by simp) (Ev.val rfl)
theorem and_255 (E : Int) (h0 : 0 ≤ E) (h1 : E ≤ 18446744073709551615) : bits BinOp.and IntKind.u64 E 255 = E % 256 := by
  have h := bits_and_u64_nat E.toNat 255 (by omega) (by omega)
  have h3 : E.toNat &&& 255 = E.toNat % 256 := Nat.and_two_pow_sub_one_eq_mod E.toNat 8
  rw [h3, Int.toNat_of_nonneg h0] at h
  exact h.trans (by omega)
def CodeB (s : List Int) : Prop := s.length ≤ 1000000 ∧ ∀ x ∈ s, 0 ≤ x ∧ x ≤ 255
theorem u64_range (n : Int) : 0 ≤ IntKind.u64.wrap n ∧ IntKind.u64.wrap n ≤ 18446744073709551615 := by
  have h : IntKind.u64.wrap n = n % 18446744073709551616 := by simp [IntKind.wrap, IntKind.signed, IntKind.bits]
  omega
theorem next_ok {s : List Int} (hs : CodeB s) (p st : Int) (hp : 0 ≤ p ∧ p ≤ 10000000) : ∃ x st' : Int, spec_l1Cur_next.f s p st = some (x, p + 1, st') ∧ 0 ≤ x ∧ x ≤ 255 := by
  have e : wrap64 (p + 1) = p + 1 := w64 (by omega)
  have hb : ∀ n : Int, 0 ≤ wrap64 (bits .and .u64 (IntKind.u64.wrap n / 1099511627776) 255) ∧ wrap64 (bits .and .u64 (IntKind.u64.wrap n / 1099511627776) 255) ≤ 255 := fun n => by
    have h := u64_range n
    rw [and_255 _ (by omega) (by omega), w64 (by omega)]; omega
  unfold spec_l1Cur_next.f
  rw [e]
  by_cases h1 : p < (s.length : Int)
  · have hx : 0 ≤ rd s p ∧ rd s p ≤ 255 := by
      obtain ⟨i, rfl⟩ := Int.eq_ofNat_of_zero_le hp.1
      have hi : i < s.length := by omega
      rw [show rd s (i : Int) = nth s i from rfl, nth_lt s i hi]
      exact hs.2 _ (List.getElem_mem hi)
    rw [if_pos h1, if_pos hp.1, if_pos (by omega), w64 (by omega)]
    exact ⟨_, _, rfl, hx.1, hx.2⟩
  · rw [if_neg h1, if_neg (by omega)]
    exact ⟨_, _, rfl, (hb _).1, (hb _).2⟩
theorem pick_ok {s : List Int} (hs : CodeB s) (p st n : Int) (hp : 0 ≤ p ∧ p ≤ 10000000) (hn : n ≤ 200) : ∃ x p' st' : Int, spec_l1Cur_pick.f s p st n = some (x, p', st') ∧ 0 ≤ x ∧ (x < n ∨ n < 1) ∧ 0 ≤ p' ∧ p' ≤ p + 1 := by
  unfold spec_l1Cur_pick.f
  by_cases h1 : n ≤ 1
  · rw [if_pos h1]; exact ⟨0, p, st, rfl, by omega, by omega, by omega, by omega⟩
  · obtain ⟨x, st', h, hx⟩ := next_ok hs p st hp
    rw [if_neg h1, h, Option.bind_some, if_neg (by omega), if_neg (by omega)]
    refine ⟨_, _, _, rfl, Int.tmod_nonneg _ hx.1, .inl (Int.tmod_lt_of_pos _ (by omega)), by simp only []; omega, by simp only []; omega⟩
theorem among_ok {s : List Int} (hs : CodeB s) (p st : Int) (l : List Int) (hp : 0 ≤ p ∧ p ≤ 10000000) (hl : 1 ≤ l.length ∧ l.length ≤ 200) : ∃ x p' st' : Int, spec_l1Cur_among.f s p st l = some (x, p', st') ∧ x ∈ l ∧ 0 ≤ p' ∧ p' ≤ p + 1 := by
  unfold spec_l1Cur_among.f
  obtain ⟨x, p', st', h, hx, h2, h3⟩ := pick_ok hs p st (l.length : Int) hp (by omega)
  rw [h, Option.bind_some, if_pos hx, if_pos (by omega)]
  obtain ⟨i, rfl⟩ := Int.eq_ofNat_of_zero_le hx
  refine ⟨_, _, _, rfl, ?_, h3⟩
  rw [show rd l (i : Int) = nth l i from rfl, nth_lt l i (by omega)]
  exact List.getElem_mem _
theorem order_l0_ok {s : List Int} (hs : CodeB s) : ∀ (d : Nat) (o : List Int) (p st : Int), 0 ≤ p → p + d ≤ 10000000 → o.length + d ≤ 100 → ∃ (r : List Int) (p' st' : Int), spec_l1Cur_order.l0 s d o p st = some (r, p', st') ∧ r.length = o.length + d ∧ 0 ≤ p' ∧ p' ≤ p + d
  | 0, o, p, st, h0, h1, h2 => ⟨o, p, st, rfl, by simp, h0, by omega⟩
  | d + 1, o, p, st, h0, h1, h2 => by
    obtain ⟨x, p', st', h, hx, h3, h4⟩ := pick_ok hs p st ((o.length : Int) + 1) ⟨h0, by omega⟩ (by omega)
    rw [spec_l1Cur_order.l0, h, Option.bind_some, if_pos ⟨⟨hx, by simp only []; omega⟩, by omega⟩]
    have hlen : (o.take x.toNat ++ [(o.length : Int) + 1] ++ o.drop x.toNat).length = o.length + 1 := by simp; omega
    obtain ⟨r, p2, st2, g, g1, g2⟩ := order_l0_ok hs d (o.take x.toNat ++ [(o.length : Int) + 1] ++ o.drop x.toNat) p' st' h4.1 (by omega) (by omega)
    exact ⟨r, p2, st2, g, by omega, g2.1, by omega⟩
theorem order_ok {s : List Int} (hs : CodeB s) (p st : Int) (hp : 0 ≤ p ∧ p ≤ 1000) : ∃ (r : List Int) (p' st' : Int), spec_l1Cur_order.f s p st = some (r, p', st') ∧ r.length ≤ 8 ∧ 0 ≤ p' ∧ p' ≤ p + 20 := by
  unfold spec_l1Cur_order.f
  obtain ⟨n, p1, st1, h1, hn, g1⟩ := among_ok hs p st [4, 5, 3, 6, 2, 7, 1, 4] ⟨hp.1, by omega⟩ (by simp)
  have hn' : 1 ≤ n ∧ n ≤ 7 := by simp at hn; omega
  obtain ⟨o, p2, st2, h2, ho, g2⟩ := order_l0_ok hs n.toNat [] p1 st1 g1.1 (by omega) (by simp; omega)
  obtain ⟨q, p3, st3, h3, hq, g3⟩ := pick_ok hs p2 st2 40 ⟨g2.1, by omega⟩ (by omega)
  rw [h1, Option.bind_some, if_pos (by omega), h2, Option.bind_some, h3, Option.bind_some]
  simp only [List.length_nil] at ho
  by_cases q0 : q = 0
  · rw [if_pos q0]; exact ⟨_, _, _, rfl, by simp, g3.2.1, by simp only []; omega⟩
  rw [if_neg q0]
  by_cases q1 : q = 1
  · rw [if_pos q1]
    obtain ⟨k, p4, st4, h4, hk, g4⟩ := pick_ok hs p3 st3 (o.length : Int) ⟨g3.2.1, by omega⟩ (by omega)
    obtain ⟨x, p5, st5, h5, hx, g5⟩ := among_ok hs p4 st4 [0, 1, 8, -1] ⟨g4.2.1, by omega⟩ (by simp)
    rw [h4, Option.bind_some, h5, Option.bind_some, if_pos ⟨hk, by simp only []; omega⟩]
    exact ⟨_, _, _, rfl, by simp; omega, g5.1, by simp only []; omega⟩
  rw [if_neg q1]
  by_cases q2 : q = 2
  · rw [if_pos q2]; exact ⟨_, _, _, rfl, by simp, g3.2.1, by simp only []; omega⟩
  · rw [if_neg q2]; exact ⟨_, _, _, rfl, by simp only []; omega, g3.2.1, by simp only []; omega⟩
theorem rInts_l (a b : List Int) (hn : a.length ≤ 17592186044416) (hl : a.length = b.length) : ∀ (d i : Nat), a.length = i + d → Ev (fun k => laws_rInts.l0 k a b i) (decide (a.drop i = b.drop i))
  | 0, i, h => by
    refine Ev.step (fun k => by rw [laws_rInts.l0]) ?_
    refine Ev.neg (by omega) (Ev.val ?_)
    rw [List.drop_of_length_le (by omega), List.drop_of_length_le (by omega)]
    simp
  | d + 1, i, h => by
    refine Ev.step (fun k => by rw [laws_rInts.l0]) ?_
    refine Ev.pos (by omega) (Ev.pos (by omega) (Ev.pos (by omega) ?_))
    have e : wrap64 ((i : Int) + 1) = ((i + 1 : Nat) : Int) := by rw [w64 (by omega)]; omega
    simp only [e]
    rw [drop_step a i (by omega), drop_step b i (by omega)]
    refine Ev.ite (fun hc => ?_) (fun hc => Ev.val ?_)
    · have hc' : nth a i = nth b i := hc
      refine (rInts_l a b hn hl d (i + 1) (by omega)).to ?_
      rw [hc']
      simp
    · have hc' : ¬ nth a i = nth b i := hc
      simp [hc']
theorem rInts_ev (a b : List Int) (hn : a.length ≤ 17592186044416) : Ev (fun k => laws_rInts.f k a b) (decide (a = b)) := by
  unfold laws_rInts.f
  refine Ev.ite (fun hc => ?_) (fun hc => Ev.val ?_)
  · exact (rInts_l a b hn (by omega) a.length 0 (by omega)).to (by simp)
  · have : ¬ a = b := fun h => hc (by rw [h])
    simp [this]
theorem runL_back : ∀ (cs l : List Int), cutsOk (l.length : Int) cs = true → runL (runL l cs) cs = l
  | [], l, h => by
    have : l = [] := by
      simp only [cutsOk] at h
      exact List.eq_nil_of_length_eq_zero (by simpa using h)
    rw [this]; rfl
  | c :: cs, l, h => by
    simp only [cutsOk, Bool.and_eq_true, decide_eq_true_eq] at h
    have ih := runL_back cs (l.drop c.toNat) (by
      have e : (l.length : Int) - c = ((l.drop c.toNat).length : Int) := by rw [List.length_drop]; omega
      rw [← e]; exact h.2.2)
    have hlen : (l.take c.toNat).reverse.length = c.toNat := by rw [List.length_reverse, List.length_take]; omega
    rw [runL, runL, List.take_append_of_le_length (by omega), List.drop_append_of_le_length (by omega)]
    rw [List.take_of_length_le (by omega), List.drop_of_length_le (by omega), List.nil_append, List.reverse_reverse, ih, List.take_append_drop]
theorem runL_map (f : Int → Int) : ∀ (cs l : List Int), runL (l.map f) cs = (runL l cs).map f
  | [], l => rfl
  | c :: cs, l => by
    rw [runL, runL, List.map_append, ← runL_map f cs, List.map_reverse, List.map_take, List.map_drop]
theorem cutsM_run : ∀ (d : Nat) (o t r : List Int), o.length ≤ d → Twin o t → cutsM d o t = some r → runL o r = t ∧ cutsOk (o.length : Int) r = true
  | 0, o, t, r, hd, h, e => by
    obtain rfl : o = [] := List.eq_nil_of_length_eq_zero (by omega)
    have : t = [] := List.eq_nil_of_length_eq_zero (by have := h.len; simp at this; omega)
    simp only [cutsM, Option.some.injEq] at e
    subst e this
    exact ⟨rfl, rfl⟩
  | d + 1, o, t, r, hd, h, e => by
    rw [cutsM] at e
    by_cases e0 : o = []
    · subst e0
      have : t = [] := List.eq_nil_of_length_eq_zero (by have := h.len; simp at this; omega)
      rw [if_pos rfl] at e
      obtain rfl := Option.some.inj e
      subst this
      exact ⟨rfl, rfl⟩
    rw [if_neg e0] at e
    have hp : 0 < o.length := List.length_pos_iff.2 e0
    obtain ⟨q, hq, e1, _⟩ := idx_mem (h.fwd (nth o 0) (by rw [nth_lt _ _ hp]; exact List.getElem_mem hp))
    have e5 : idx t (nth o 0) + 1 = ((q + 1 : Nat) : Int) := by rw [e1]; omega
    have hl := h.len
    rw [e5, Int.toNat_natCast] at e
    by_cases hc : (o.take (q + 1)).reverse = t.take (q + 1)
    · rw [if_pos hc] at e
      obtain ⟨r', h1, h2⟩ := Option.map_eq_some_iff.1 e
      subst h2
      obtain ⟨g1, g2⟩ := cutsM_run d _ _ _ (by rw [List.length_drop]; omega) (h.cut (q + 1) hc) h1
      refine ⟨?_, ?_⟩
      · rw [runL, Int.toNat_natCast, hc, g1, List.take_append_drop]
      · simp only [cutsOk, Bool.and_eq_true, decide_eq_true_eq]
        refine ⟨by omega, by omega, ?_⟩
        rw [show (o.length : Int) - ((q + 1 : Nat) : Int) = ((o.drop (q + 1)).length : Int) by rw [List.length_drop]; omega]
        exact g2
    · rw [if_neg hc] at e; cases e
theorem rd_map (f : Int → Int) (l : List Int) (i : Int) (h0 : 0 ≤ i) (h1 : i < (l.length : Int)) : rd (l.map f) i = f (rd l i) := by
  obtain ⟨j, rfl⟩ := Int.eq_ofNat_of_zero_le h0
  rw [rd_nat, rd_nat, nth_lt _ _ (by rw [List.length_map]; omega), nth_lt _ _ (by omega), List.getElem_map]
theorem runWord_map (f : Int → Int) : ∀ (k : Nat) (o : List Int) (w : ByteArray) (st out : List Int) (n i : Int) (r : List Int), impl_runWord.l0 k o w st out n i = some r → impl_runWord.l0 k (o.map f) w (st.map f) (out.map f) n i = some (r.map f)
  | 0, o, w, st, out, n, i, r, h => by simp [impl_runWord.l0] at h
  | k + 1, o, w, st, out, n, i, r, h => by
    rw [impl_runWord.l0] at h ⊢
    simp only [List.length_map]
    by_cases c1 : i < n
    · rw [if_pos c1] at h ⊢
      by_cases c2 : 0 ≤ i
      · rw [if_pos c2] at h ⊢
        by_cases c3 : i < (w.size : Int)
        · rw [if_pos c3] at h ⊢
          by_cases c4 : bt w i = 73
          · rw [if_pos c4] at h ⊢
            by_cases c5 : 0 < (o.length : Int)
            · rw [if_pos c5] at h ⊢
              by_cases c6 : st.length < 17592186044416
              · rw [if_pos c6] at h ⊢
                by_cases c7 : 1 ≤ (o.length : Int)
                · rw [if_pos c7] at h ⊢
                  have := runWord_map f k _ w _ _ n _ r h
                  rw [List.map_drop, List.map_append, List.map_singleton, ← rd_map f o 0 (by omega) c5] at this
                  exact this
                · rw [if_neg c7] at h; cases h
              · rw [if_neg c6] at h; cases h
            · rw [if_neg c5] at h; cases h
          · rw [if_neg c4] at h ⊢
            by_cases c5 : 0 ≤ wrap64 ((st.length : Int) - 1)
            · rw [if_pos c5] at h ⊢
              by_cases c6 : wrap64 ((st.length : Int) - 1) < (st.length : Int)
              · rw [if_pos c6] at h ⊢
                by_cases c7 : out.length < 17592186044416
                · rw [if_pos c7] at h ⊢
                  by_cases c8 : wrap64 ((st.length : Int) - 1) ≤ (st.length : Int)
                  · rw [if_pos c8] at h ⊢
                    have := runWord_map f k _ w _ _ n _ r h
                    rw [List.map_take, List.map_append, List.map_singleton, ← rd_map f st _ c5 c6] at this
                    exact this
                  · rw [if_neg c8] at h; cases h
                · rw [if_neg c7] at h; cases h
              · rw [if_neg c6] at h; cases h
            · rw [if_neg c5] at h; cases h
        · rw [if_neg c3] at h; cases h
      · rw [if_neg c2] at h; cases h
    · rw [if_neg c1] at h ⊢
      obtain rfl := Option.some.inj h
      rfl
theorem ord_map {o : List Int} (h : o.length ≤ 7) : o = (intsTo o.length).map (fun x => nth o (x - 1).toNat) := by
  refine List.ext_getElem ?_ (fun i h1 h2 => ?_)
  · simp [intsTo]; omega
  · have hi : i < o.length := h1
    have hg : (intsTo o.length)[i]'(by simp [intsTo]; omega) = (i : Int) + 1 := by
      simp only [intsTo, List.getElem_take]
      have : i = 0 ∨ i = 1 ∨ i = 2 ∨ i = 3 ∨ i = 4 ∨ i = 5 ∨ i = 6 := by omega
      rcases this with rfl | rfl | rfl | rfl | rfl | rfl | rfl <;> rfl
    rw [List.getElem_map, hg, show ((i : Int) + 1 - 1).toNat = i by omega, nth_lt o i hi]
def rcOk (m : Nat) (l : List Int) : Bool := match impl_RankOfCuts.f 1000 l, spec_RankOfCuts.f 1000 l, impl_CutsWord.f 1000 l, spec_CutsWord.f 1000 l with
  | some (r1, true), some (r2, true), some (w1, true), some (w2, true) => decide (r1 = r2) && (decide (w1 = w2) && ((impl_isWord.f 1000 w1 == some true) && (decide (w1.size = 2 * m) && (impl_runWord.f 1000 (intsTo m) w1 == some (runL (intsTo m) l)))))
  | _, _, _, _ => false
def caOk (n : Nat) (k : Nat) : Bool := match impl_CutsAt.f 300 (n : Int) (k : Int), spec_CutsAt.f 300 (n : Int) (k : Int) with
  | some (a, true), some (b, true) => decide (a = b) && (decide (a.length ≤ 7) && (impl_RankOfCuts.f 1000 a == some ((k : Int), true)))
  | _, _ => false
end Go.Proofs.Ytbnieikbjmfhgaa.Pure
