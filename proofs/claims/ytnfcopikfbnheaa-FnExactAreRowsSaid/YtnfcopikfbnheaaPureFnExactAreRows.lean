/- The program's AreRows returns what the reference's returns, for all arguments. -/
import Derived.Test.YtnfcopikfbnheaaPFnExactAreRowsx6
import Derived.Test.YtnfcopikfbnheaaK
set_option linter.unusedVariables false
set_option linter.unusedSimpArgs false
namespace Go.Proofs.Ytnfcopikfbnheaa.Pure
open Go.RowKit Go.Proofs.Ytnfcopikfbnheaa.PFnExactAreRows Go.Proofs.YtnfcopikfbnheaaW.PrintWords Go.Proofs.YtnfcopikfbnheaaW.PrintLast Go.Proofs.YtnfcopikfbnheaaW.PrintMore

theorem toIntS_l (x0 : List Int) (hn : x0.length ≤ 17592186044416) : ∀ (d i : Nat) (x3 : List Int), x3.length = x0.length → x3.take i = x0.take i → x0.length = i + d → Ev (fun k => laws_toIntS.l0 k x0 x3 i) x0
  | 0, i, x3, h1, h2, h3 => by
    refine Ev.step (fun k => by rw [laws_toIntS.l0]) ?_
    refine Ev.neg (by omega) (Ev.val ?_)
    rw [List.take_of_length_le (by omega), List.take_of_length_le (by omega)] at h2
    exact h2
  | d + 1, i, x3, h1, h2, h3 => by
    refine Ev.step (fun k => by rw [laws_toIntS.l0]) ?_
    refine Ev.pos (by omega) (Ev.pos (by omega) (Ev.pos (by omega) ?_))
    have e : wrap64 ((i : Int) + 1) = ((i + 1 : Nat) : Int) := by rw [w64 (by omega)]; omega
    simp only [e, Int.toNat_natCast]
    exact toIntS_l x0 hn d (i + 1) _ (by simpa using h1) (by rw [take_set_succ _ _ _ (by omega), h2, take_step _ _ (by omega), rd_nat]) (by omega)
theorem toIntS_ev (l : List Int) (hn : l.length ≤ 17592186044416) : Ev (fun k => laws_toIntS.f k l) l := by
  unfold laws_toIntS.f
  refine Ev.pos (by omega) (Ev.pos (by omega) ?_)
  exact toIntS_l l hn l.length 0 _ (by simp) (by simp) (by omega)

theorem eqIntS_l (a b : List Int) (hn : a.length ≤ 17592186044416) (hl : a.length = b.length) : ∀ (d i : Nat), a.length = i + d → Ev (fun k => laws_eqIntS.l0 k a b i) (decide (a.drop i = b.drop i))
  | 0, i, h => by
    refine Ev.step (fun k => by rw [laws_eqIntS.l0]) ?_
    refine Ev.neg (by omega) (Ev.val ?_)
    rw [List.drop_of_length_le (by omega), List.drop_of_length_le (by omega)]
    simp
  | d + 1, i, h => by
    refine Ev.step (fun k => by rw [laws_eqIntS.l0]) ?_
    refine Ev.pos (by omega) (Ev.pos (by omega) (Ev.pos (by omega) ?_))
    have e : wrap64 ((i : Int) + 1) = ((i + 1 : Nat) : Int) := by rw [w64 (by omega)]; omega
    simp only [e]
    rw [drop_step a i (by omega), drop_step b i (by omega)]
    refine Ev.ite (fun hc => ?_) (fun hc => Ev.val ?_)
    · have hc' : nth a i = nth b i := hc
      refine (eqIntS_l a b hn hl d (i + 1) (by omega)).to ?_
      rw [hc']
      simp
    · have hc' : ¬ nth a i = nth b i := hc
      simp [hc']
theorem eqIntS_ev (a b : List Int) (hn : a.length ≤ 17592186044416) : Ev (fun k => laws_eqIntS.f k a b) (decide (a = b)) := by
  unfold laws_eqIntS.f
  refine Ev.ite (fun hc => ?_) (fun hc => Ev.val ?_)
  · exact (eqIntS_l a b hn (by omega) a.length 0 (by omega)).to (by simp)
  · have : ¬ a = b := fun h => hc (by rw [h])
    simp [this]

theorem l1In_is (a b c : Int) : spec_l1In.f a b c = some (decide (b ≤ a ∧ a ≤ c)) := by
  unfold spec_l1In.f
  by_cases h : a ≥ b
  · rw [if_pos h]; simp [h]
  · rw [if_neg h]; simp; omega

theorem l1Has_l (l : List Int) (x : Int) (hn : l.length ≤ 17592186044416) : ∀ (d i : Nat), l.length = i + d → Ev (fun k => spec_l1Has.l0 k l x i) ((l.drop i).contains x)
  | 0, i, h => by
    refine Ev.step (fun k => by rw [spec_l1Has.l0]) ?_
    refine Ev.neg (by omega) (Ev.val ?_)
    rw [List.drop_of_length_le (by omega)]
    simp
  | d + 1, i, h => by
    refine Ev.step (fun k => by rw [spec_l1Has.l0]) ?_
    have e : wrap64 ((i : Int) + 1) = ((i + 1 : Nat) : Int) := by rw [w64 (by omega)]; omega
    simp only [e]
    rw [drop_step l i (by omega)]
    refine Ev.pos (by omega) (Ev.pos (by omega) (Ev.ite (fun hc => Ev.val ?_) (fun hc => ?_)))
    · have hc' : nth l i = x := hc
      rw [hc']; simp
    · have hc' : ¬ nth l i = x := hc
      refine (l1Has_l l x hn d (i + 1) (by omega)).to ?_
      have : ¬ x = nth l i := fun h => hc' h.symm
      rw [List.contains_cons]
      simp [this]
theorem l1Has_ev (l : List Int) (x : Int) (hn : l.length ≤ 17592186044416) : Ev (fun k => spec_l1Has.f k l x) (l.contains x) := by
  unfold spec_l1Has.f
  exact (l1Has_l l x hn l.length 0 (by omega)).to (by simp)

theorem l2Order_l (l : List Int) (hn : l.length ≤ 17592186044416) : ∀ (d i : Nat), l.length = i + d → Ev (fun k => spec_l2Order.l0 k l i) (allFrom (ordAt l) d i)
  | 0, i, h => by
    refine Ev.step (fun k => by rw [spec_l2Order.l0]) ?_
    exact Ev.neg (by omega) (Ev.val rfl)
  | d + 1, i, h => by
    refine Ev.step (fun k => by rw [spec_l2Order.l0]) ?_
    have e : wrap64 ((i : Int) + 1) = ((i + 1 : Nat) : Int) := by rw [w64 (by omega)]; omega
    simp only [e, l1In_is, Option.bind_some, rd_nat, Int.toNat_natCast, decide_eq_true_eq]
    refine Ev.pos (by omega) (Ev.pos (by omega) (Ev.ite (fun hc => Ev.pos (by omega) ?_) (fun hc => Ev.val ?_)))
    · refine Ev.bind (l1Has_ev _ _ (by simp; omega)) ?_
      refine Ev.ite (fun hb => Ev.val ?_) (fun hb => (l2Order_l l hn d (i + 1) (by omega)).to ?_)
      · rw [allFrom, ordAt, hb]; simp
      · rw [Bool.not_eq_true] at hb
        rw [allFrom, ordAt, hb]; simp [hc]
    · rw [allFrom, ordAt]
      by_cases h1 : 1 ≤ nth l i
      · have : ¬ nth l i ≤ l.length := fun h2 => hc ⟨h1, h2⟩
        simp [this]
      · simp [h1]
theorem l2Order_ev (l : List Int) (hn : l.length ≤ 17592186044416) : Ev (fun k => spec_l2Order.f k l) (isOrd l) := by
  unfold spec_l2Order.f
  simp only [l1In_is, Option.bind_some, decide_eq_true_eq]
  refine Ev.ite (fun hc => (l2Order_l l hn l.length 0 (by omega)).to ?_) (fun hc => Ev.val ?_)
  · have h1 : 1 ≤ l.length := by omega
    have h2 : l.length ≤ 7 := by omega
    simp [isOrd, h1, h2]
  · rw [isOrd]
    by_cases h1 : 1 ≤ l.length
    · have : ¬ l.length ≤ 7 := by omega
      simp [this]
    · simp [h1]

theorem Index_l (l : List Int) (x : Int) (hn : l.length ≤ 17592186044416) : ∀ (d i : Nat), l.length = i + d → (∀ j, j < i → nth l j ≠ x) → Ev (fun k => slices_Index_int_int.l0 k l x (l.length : Int) i) (idx l x)
  | 0, i, h, hq => by
    refine Ev.step (fun k => by rw [slices_Index_int_int.l0]) ?_
    refine Ev.neg (by omega) (Ev.val ?_)
    exact (idx_none l x fun j hj => hq j (by omega)).symm
  | d + 1, i, h, hq => by
    refine Ev.step (fun k => by rw [slices_Index_int_int.l0]) ?_
    have e : wrap64 ((i : Int) + 1) = ((i + 1 : Nat) : Int) := by rw [w64 (by omega)]; omega
    simp only [e]
    refine Ev.pos (by omega) (Ev.pos (by omega) (Ev.pos (by omega) (Ev.ite (fun hc => Ev.val ?_) (fun hc => ?_))))
    · exact (idx_some l x i (by omega) (by rw [hc]; rfl) hq).symm
    · refine Index_l l x hn d (i + 1) (by omega) (fun j hj => ?_)
      by_cases e : j = i
      · subst e; exact fun h => hc h.symm
      · exact hq j (by omega)
theorem Index_ev (l : List Int) (x : Int) (hn : l.length ≤ 17592186044416) : Ev (fun k => slices_Index_int_int.f k l x) (idx l x) := by
  unfold slices_Index_int_int.f
  exact Index_l l x hn l.length 0 (by omega) (fun j hj => by omega)

theorem Contains_ev (l : List Int) (x : Int) (hn : l.length ≤ 17592186044416) : Ev (fun k => slices_Contains_int_int.f k l x) (l.contains x) := by
  unfold slices_Contains_int_int.f
  exact Ev.bind (Index_ev l x hn) (Ev.val (idx_contains l x))

theorem isOrder_l (l : List Int) (hn : l.length ≤ 17592186044416) : ∀ (d i : Nat), l.length = i + d → Ev (fun k => impl_isOrder.l0 k l l (l.length : Int) i) (allFrom (ordAt l) d i)
  | 0, i, h => by
    refine Ev.step (fun k => by rw [impl_isOrder.l0]) ?_
    exact Ev.neg (by omega) (Ev.val rfl)
  | d + 1, i, h => by
    refine Ev.step (fun k => by rw [impl_isOrder.l0]) ?_
    have e : wrap64 ((i : Int) + 1) = ((i + 1 : Nat) : Int) := by rw [w64 (by omega)]; omega
    simp only [e, rd_nat, Int.toNat_natCast]
    refine Ev.pos (by omega) (Ev.pos (by omega) (Ev.pos (by omega) (Ev.ite (fun hc => Ev.val ?_) (fun hc => Ev.ite (fun hd => Ev.val ?_) (fun hd => Ev.pos (by omega) ?_)))))
    · have : ¬ 1 ≤ nth l i := by omega
      rw [allFrom, ordAt]; simp [this]
    · have : ¬ nth l i ≤ l.length := by omega
      rw [allFrom, ordAt]; simp [this]
    · refine Ev.bind (Contains_ev _ _ (by simp; omega)) ?_
      refine Ev.ite (fun hb => Ev.val ?_) (fun hb => (isOrder_l l hn d (i + 1) (by omega)).to ?_)
      · rw [allFrom, ordAt, hb]; simp
      · rw [Bool.not_eq_true] at hb
        have h1 : 1 ≤ nth l i := by omega
        have h2 : nth l i ≤ l.length := by omega
        rw [allFrom, ordAt, hb]; simp [h1, h2]
theorem isOrder_ev (l : List Int) (hn : l.length ≤ 17592186044416) : Ev (fun k => impl_isOrder.f k l) (isOrd l) := by
  unfold impl_isOrder.f
  refine Ev.ite (fun hc => ?_) (fun hc => ?_)
  · refine Ev.step (fun k => by rw [impl_isOrder.j0]) ?_
    refine Ev.pos rfl (Ev.val ?_)
    have : ¬ 1 ≤ l.length := by omega
    simp [isOrd, this]
  · refine Ev.step (fun k => by rw [impl_isOrder.j0]) ?_
    simp only [decide_eq_true_eq]
    refine Ev.ite (fun hd => Ev.val ?_) (fun hd => (isOrder_l l hn l.length 0 (by omega)).to ?_)
    · have : ¬ l.length ≤ 7 := by omega
      simp [isOrd, this]
    · have h1 : 1 ≤ l.length := by omega
      have h2 : l.length ≤ 7 := by omega
      simp [isOrd, h1, h2]

/-! sorted lists -/
def sortedB (l : List Int) : Nat → Bool
  | 0 => true
  | i + 1 => if nth l (i + 1) < nth l i then false else sortedB l i
theorem cmpLess_is (a b : Int) : cmp_Less_int.f a b = some (decide (a < b)) := by
  unfold cmp_Less_int.f cmp_isNaN_int.f
  simp
theorem isSorted_l (l : List Int) (hn : l.length ≤ 17592186044416) : ∀ i : Nat, i < l.length → Ev (fun k => slices_IsSorted_int_int.l0 k l i) (sortedB l i)
  | 0, hi => by
    refine Ev.step (fun k => by rw [slices_IsSorted_int_int.l0]) (Ev.neg (by omega) (Ev.val ?_))
    rw [sortedB]
  | i + 1, hi => by
    refine Ev.step (fun k => by rw [slices_IsSorted_int_int.l0]) ?_
    have e : wrap64 (((i + 1 : Nat) : Int) - 1) = (i : Int) := by rw [w64 (by omega)]; omega
    simp only [e]
    clear e
    refine Ev.pos (by omega) (Ev.pos (by omega) (Ev.pos (by omega) (Ev.pos (by omega) (Ev.pos (by omega) ?_))))
    simp only [cmpLess_is, Option.bind_some, rd_nat]
    rw [sortedB]
    refine Ev.ite (fun hc => Ev.val ?_) (fun hc => ?_)
    · rw [decide_eq_true_eq] at hc; rw [if_pos hc]
    · rw [decide_eq_true_eq] at hc; rw [if_neg hc]; exact isSorted_l l hn i (by omega)
theorem isSorted_ev (l : List Int) (hn : l.length ≤ 17592186044416) (h0 : 0 < l.length) : Ev (fun k => impl_isSorted.f k l) (sortedB l (l.length - 1)) := by
  unfold impl_isSorted.f slices_IsSorted_int_int.f
  have e : wrap64 ((l.length : Int) - 1) = ((l.length - 1 : Nat) : Int) := by rw [w64 (by omega)]; omega
  simp only [e]
  exact Ev.bind (isSorted_l l hn _ (by omega)) (Ev.val rfl)

/-! lists as rows that are filled -/
theorem rd_L1_nat0 (xs : List (List Int)) (i : Nat) : rd_L1 xs (i : Int) = xs.getD i [] := rfl
theorem getD_mem0 {xs : List (List Int)} {i : Nat} (h : i < xs.length) : xs.getD i [] ∈ xs := by
  rw [List.getD_eq_getElem?_getD, List.getElem?_eq_getElem h]; exact List.getElem_mem h
theorem dropL (xs : List (List Int)) (i : Nat) (h : i < xs.length) : xs.drop i = xs.getD i [] :: xs.drop (i + 1) := by
  rw [List.drop_eq_getElem_cons h]; simp [List.getD_eq_getElem?_getD, List.getElem?_eq_getElem h]
def good (first : Bool) (p row : List Int) (j : Nat) : Bool := (j == 0 || decide (nth row (j - 1) < nth row j)) && (first || decide (nth p j < nth row j))
def specM (first : Bool) (p acc : List Int) : List (List Int) → Bool
  | [] => isOrd acc
  | row :: rest => if 1 ≤ row.length ∧ acc.length + row.length ≤ 7 ∧ (first = true ∨ row.length ≤ p.length) then (if allFrom (good first p row) row.length 0 = true then specM false row (acc ++ row) rest else false) else false
theorem l5Are_in (L : List (List Int)) (hL : L.length ≤ 17592186044415) (i : Nat) (hi : i < L.length) (p row acc : List Int) (hrow : L.getD i [] = row) (hp : 0 < i → L.getD (i - 1) [] = p) (hlen : 0 < i → row.length ≤ p.length) (ha : acc.length + row.length ≤ 7) (R : Bool)
    (hR : Ev (fun k => spec_l5Are.l0 k L (acc ++ row) ((i + 1 : Nat) : Int)) R) : ∀ d j : Nat, row.length = j + d → Ev (fun k => spec_l5Are.l1 k L (acc ++ row.take j) (i : Int) (j : Int)) (if allFrom (good (i == 0) p row) d j = true then R else false)
  | 0, j, h => by
    refine Ev.step (fun k => by rw [spec_l5Are.l1]) ?_
    simp only [wup i (by omega), rd_L1_nat0, hrow]
    refine Ev.pos (by omega) (Ev.pos (by omega) (Ev.neg (by omega) ?_))
    rw [allFrom, if_pos rfl, List.take_of_length_le (by omega)]
    exact hR
  | d + 1, j, h => by
    have htl : (acc ++ row.take j).length < 17592186044416 := by simp; omega
    have ih := l5Are_in L hL i hi p row acc hrow hp hlen ha R hR d (j + 1) (by omega)
    rw [take_step row j (by omega), ← List.append_assoc] at ih
    refine Ev.step (fun k => by rw [spec_l5Are.l1]) ?_
    simp only [wup j (by omega), rd_L1_nat0, hrow, rd_nat]
    refine Ev.pos (by omega) (Ev.pos (by omega) (Ev.pos (by omega) ?_))
    rw [allFrom]
    have hpart : ∀ b : Bool, good (i == 0) p row j = b → (if (good (i == 0) p row j && allFrom (good (i == 0) p row) d (j + 1)) = true then R else false) = if b = true then (if allFrom (good (i == 0) p row) d (j + 1) = true then R else false) else false := by
      intro b hb
      rw [hb]
      cases b <;> simp
    refine Ev.ite (fun hj => ?_) (fun hj => ?_)
    · have e1 : wrap64 ((j : Int) - 1) = ((j - 1 : Nat) : Int) := wdn j (by omega) (by omega)
      simp only [e1, rd_nat]
      refine Ev.pos (by omega) (Ev.pos (by omega) (Ev.pos (by omega) ?_))
      refine Ev.ite (fun hc => Ev.val ?_) (fun hc => ?_)
      · have : good (i == 0) p row j = false := by
          have h1 : ¬ nth row (j - 1) < nth row j := by omega
          have h2 : ¬ j = 0 := by omega
          simp [good, h1, h2]
        rw [hpart _ this]; simp
      · refine Ev.ite (fun hi0 => ?_) (fun hi0 => ?_)
        · have e2 : wrap64 ((i : Int) - 1) = ((i - 1 : Nat) : Int) := wdn i (by omega) (by omega)
          have hp' := hp (by omega)
          have hl' := hlen (by omega)
          simp only [e2, rd_L1_nat0, hp', rd_nat]
          refine Ev.pos (by omega) (Ev.pos (by omega) (Ev.pos (by omega) ?_))
          refine Ev.ite (fun hd => Ev.val ?_) (fun hd => Ev.pos htl ?_)
          · have : good (i == 0) p row j = false := by
              have h1 : ¬ nth p j < nth row j := by omega
              have h2 : ¬ i = 0 := by omega
              simp [good, h1, h2]
            rw [hpart _ this]; simp
          · have : good (i == 0) p row j = true := by
              have h1 : nth p j < nth row j := by omega
              have h2 : nth row (j - 1) < nth row j := by omega
              simp [good, h1, h2]
            rw [hpart _ this, if_pos rfl]; exact ih
        · refine Ev.pos htl ?_
          have : good (i == 0) p row j = true := by
            have h1 : i = 0 := by omega
            have h2 : nth row (j - 1) < nth row j := by omega
            simp [good, h1, h2]
          rw [hpart _ this, if_pos rfl]; exact ih
    · have hj0 : j = 0 := by omega
      refine Ev.ite (fun hi0 => ?_) (fun hi0 => ?_)
      · have e2 : wrap64 ((i : Int) - 1) = ((i - 1 : Nat) : Int) := wdn i (by omega) (by omega)
        have hp' := hp (by omega)
        have hl' := hlen (by omega)
        simp only [e2, rd_L1_nat0, hp', rd_nat]
        refine Ev.pos (by omega) (Ev.pos (by omega) (Ev.pos (by omega) (Ev.pos (by omega) ?_)))
        refine Ev.ite (fun hd => Ev.val ?_) (fun hd => Ev.pos htl ?_)
        · have : good (i == 0) p row j = false := by
            have h1 : ¬ nth p j < nth row j := by omega
            have h2 : ¬ i = 0 := by omega
            simp [good, h1, h2]
          rw [hpart _ this]; simp
        · have : good (i == 0) p row j = true := by
            have h1 : nth p j < nth row j := by omega
            simp [good, h1, hj0] <;> (rw [hj0] at h1; exact .inr h1)
          rw [hpart _ this, if_pos rfl]; exact ih
      · refine Ev.pos (by omega) (Ev.pos htl ?_)
        have : good (i == 0) p row j = true := by
          have h1 : i = 0 := by omega
          simp [good, h1, hj0]
        rw [hpart _ this, if_pos rfl]; exact ih
theorem l5Are_l (L : List (List Int)) (hL : L.length ≤ 17592186044415) (hr : ∀ r ∈ L, r.length ≤ 17592186044415) : ∀ (d i : Nat) (acc : List Int), L.length = i + d → acc.length ≤ 7 → Ev (fun k => spec_l5Are.l0 k L acc (i : Int)) (specM (i == 0) (L.getD (i - 1) []) acc (L.drop i))
  | 0, i, acc, h, ha => by
    refine Ev.step (fun k => by rw [spec_l5Are.l0]) ?_
    refine Ev.neg (by omega) ?_
    rw [List.drop_of_length_le (by omega), specM]
    exact Ev.bind (l2Order_ev acc (by omega)) (Ev.val rfl)
  | d + 1, i, acc, h, ha => by
    obtain ⟨row, hrow⟩ : ∃ row, L.getD i [] = row := ⟨_, rfl⟩
    have hm := hr _ (getD_mem0 (xs := L) (i := i) (by omega))
    rw [hrow] at hm
    refine Ev.step (fun k => by rw [spec_l5Are.l0]) ?_
    have e0 : wrap64 ((acc.length : Int) + (row.length : Int)) = ((acc.length + row.length : Nat) : Int) := by rw [w64 (by omega)]; omega
    simp only [rd_L1_nat0, hrow, e0]
    refine Ev.pos (by omega) (Ev.pos (by omega) ?_)
    rw [dropL L i (by omega), hrow, specM]
    have fin : (0 < i → row.length ≤ (L.getD (i - 1) []).length) → acc.length + row.length ≤ 7 → Ev (fun k => spec_l5Are.l1 k L acc (i : Int) 0) (if allFrom (good (i == 0) (L.getD (i - 1) []) row) row.length 0 = true then specM false row (acc ++ row) (L.drop (i + 1)) else false) := by
      intro hl h7
      have ih := l5Are_l L hL hr d (i + 1) (acc ++ row) (by omega) (by simp; omega)
      have hq : (i + 1 == 0) = false := by simp
      rw [hq, Nat.add_sub_cancel, hrow] at ih
      have := l5Are_in L hL i (by omega) (L.getD (i - 1) []) row acc hrow (fun _ => rfl) hl h7 _ ih row.length 0 (by omega)
      rw [List.take_zero, List.append_nil] at this
      exact this
    have tr : Ev (fun k => spec_l5Are.j1 k L acc (i : Int) true) false := by
      refine Ev.step (fun k => by rw [spec_l5Are.j1]) ?_
      exact Ev.pos rfl (Ev.val rfl)
    refine Ev.ite (fun hc => ?_) (fun hc => ?_)
    · rw [if_neg (by omega)]; exact tr
    · refine Ev.ite (fun hd => ?_) (fun hd => ?_)
      · rw [if_neg (by omega)]; exact tr
      · refine Ev.ite (fun hi0 => ?_) (fun hi0 => ?_)
        · have e2 : wrap64 ((i : Int) - 1) = ((i - 1 : Nat) : Int) := wdn i (by omega) (by omega)
          have hf : ¬ (i == 0) = true := by simp; omega
          simp only [e2, rd_L1_nat0]
          refine Ev.pos (by omega) (Ev.pos (by omega) ?_)
          refine Ev.step (fun k => by rw [spec_l5Are.j1]) ?_
          simp only [decide_eq_true_eq]
          refine Ev.ite (fun hg => Ev.val ?_) (fun hg => ?_)
          · rw [if_neg (by rintro ⟨_, _, hh | hh⟩; exact hf hh; omega)]
          · rw [if_pos ⟨by omega, by omega, .inr (by omega)⟩]
            exact fin (fun _ => by omega) (by omega)
        · have hi1 : i = 0 := by omega
          refine Ev.step (fun k => by rw [spec_l5Are.j1]) ?_
          refine Ev.neg (by simp) ?_
          rw [if_pos ⟨by omega, by omega, .inl (by simp [hi1])⟩]
          exact fin (fun hh => by omega) (by omega)
def implM (first : Bool) (p acc : List Int) : List (List Int) → Bool
  | [] => isOrd acc
  | row :: rest => if 1 ≤ row.length ∧ row.length ≤ 7 ∧ sortedB row (row.length - 1) = true ∧ (first = true ∨ row.length ≤ p.length) then (if allFrom (fun j => first || decide (nth p j < nth row j)) row.length 0 = true then (if (acc ++ row).length ≤ 7 then implM false row (acc ++ row) rest else false) else false) else false
theorem areRows_in (L : List (List Int)) (hL : L.length ≤ 17592186044415) (i : Nat) (hi : i < L.length) (p row acc : List Int) (hp : 0 < i → L.getD (i - 1) [] = p) (hlen : 0 < i → row.length ≤ p.length) (ha : acc.length ≤ 7) (hr7 : row.length ≤ 7) (R : Bool)
    (hR : (acc ++ row).length ≤ 7 → Ev (fun k => impl_areRows.l0 k L (acc ++ row) L (L.length : Int) ((i + 1 : Nat) : Int)) R) : ∀ d j : Nat, row.length = j + d → Ev (fun k => impl_areRows.l1 k L acc (i : Int) row L (L.length : Int) (i : Int) row (row.length : Int) (j : Int)) (if allFrom (fun j => (i == 0) || decide (nth p j < nth row j)) d j = true then (if (acc ++ row).length ≤ 7 then R else false) else false)
  | 0, j, h => by
    refine Ev.step (fun k => by rw [impl_areRows.l1]) ?_
    simp only [wup i (by omega), Option.bind_some]
    refine Ev.neg (by omega) (Ev.pos (by omega) ?_)
    rw [allFrom, if_pos rfl]
    refine Ev.ite (fun hc => Ev.val ?_) (fun hc => ?_)
    · rw [if_neg (by omega)]
    · rw [if_pos (by omega)]
      exact hR (by omega)
  | d + 1, j, h => by
    have ih := areRows_in L hL i hi p row acc hp hlen ha hr7 R hR d (j + 1) (by omega)
    refine Ev.step (fun k => by rw [impl_areRows.l1]) ?_
    simp only [wup j (by omega), rd_nat]
    refine Ev.pos (by omega) (Ev.pos (by omega) (Ev.pos (by omega) ?_))
    rw [allFrom]
    refine Ev.ite (fun hi0 => ?_) (fun hi0 => ?_)
    · have e2 : wrap64 ((i : Int) - 1) = ((i - 1 : Nat) : Int) := wdn i (by omega) (by omega)
      have hp' := hp (by omega)
      have hl' := hlen (by omega)
      have hf : (i == 0) = false := by simp; omega
      rw [hf] at ih ⊢
      simp only [e2, rd_L1_nat0, hp', rd_nat]
      refine Ev.pos (by omega) (Ev.pos (by omega) (Ev.pos (by omega) ?_))
      refine Ev.ite (fun hd => Ev.val ?_) (fun hd => ?_)
      · have h1 : ¬ nth p j < nth row j := by omega
        simp [h1]
      · have h1 : nth p j < nth row j := by omega
        refine ih.to ?_
        simp [h1]
    · have hf : (i == 0) = true := by simp; omega
      rw [hf] at ih ⊢
      refine ih.to ?_
      simp
theorem areRows_l (L : List (List Int)) (hL : L.length ≤ 17592186044415) (hr : ∀ r ∈ L, r.length ≤ 17592186044415) : ∀ (d i : Nat) (acc : List Int), L.length = i + d → acc.length ≤ 7 → Ev (fun k => impl_areRows.l0 k L acc L (L.length : Int) (i : Int)) (implM (i == 0) (L.getD (i - 1) []) acc (L.drop i))
  | 0, i, acc, h, ha => by
    refine Ev.step (fun k => by rw [impl_areRows.l0]) ?_
    refine Ev.neg (by omega) ?_
    rw [List.drop_of_length_le (by omega), implM]
    exact Ev.bind (isOrder_ev acc (by omega)) (Ev.val rfl)
  | d + 1, i, acc, h, ha => by
    obtain ⟨row, hrow⟩ : ∃ row, L.getD i [] = row := ⟨_, rfl⟩
    have hm := hr _ (getD_mem0 (xs := L) (i := i) (by omega))
    rw [hrow] at hm
    refine Ev.step (fun k => by rw [impl_areRows.l0]) ?_
    simp only [rd_L1_nat0, hrow]
    refine Ev.pos (by omega) (Ev.pos (by omega) (Ev.pos (by omega) ?_))
    rw [dropL L i (by omega), hrow, implM]
    have fin : (0 < i → row.length ≤ (L.getD (i - 1) []).length) → row.length ≤ 7 → Ev (fun k => impl_areRows.l1 k L acc (i : Int) row L (L.length : Int) (i : Int) row (row.length : Int) 0) (if allFrom (fun j => (i == 0) || decide (nth (L.getD (i - 1) []) j < nth row j)) row.length 0 = true then (if (acc ++ row).length ≤ 7 then implM false row (acc ++ row) (L.drop (i + 1)) else false) else false) := by
      intro hl h7
      refine areRows_in L hL i (by omega) (L.getD (i - 1) []) row acc (fun _ => rfl) hl ha h7 _ (fun h8 => ?_) row.length 0 (by omega)
      have ih := areRows_l L hL hr d (i + 1) (acc ++ row) (by omega) h8
      have hq : (i + 1 == 0) = false := by simp
      rw [hq, Nat.add_sub_cancel, hrow] at ih
      exact ih
    have tr : Ev (fun k => impl_areRows.j1 k L acc (i : Int) row L (L.length : Int) (i : Int) true) false := by
      refine Ev.step (fun k => by rw [impl_areRows.j1]) ?_
      exact Ev.pos rfl (Ev.val rfl)
    refine Ev.ite (fun hc => ?_) (fun hc => ?_)
    · rw [if_neg (by omega)]; exact tr
    · refine Ev.ite (fun hd => ?_) (fun hd => ?_)
      · rw [if_neg (by omega)]; exact tr
      · refine Ev.bind (isSorted_ev row (by omega) (by omega)) ?_
        refine Ev.ite (fun hs => ?_) (fun hs => ?_)
        · refine Ev.ite (fun hi0 => ?_) (fun hi0 => ?_)
          · have e2 : wrap64 ((i : Int) - 1) = ((i - 1 : Nat) : Int) := wdn i (by omega) (by omega)
            have hf : ¬ (i == 0) = true := by simp; omega
            simp only [e2, rd_L1_nat0]
            refine Ev.pos (by omega) (Ev.pos (by omega) ?_)
            refine Ev.step (fun k => by rw [impl_areRows.j1]) ?_
            simp only [decide_eq_true_eq]
            refine Ev.ite (fun hg => Ev.val ?_) (fun hg => ?_)
            · rw [if_neg (by rintro ⟨_, _, _, hh | hh⟩; exact hf hh; omega)]
            · rw [if_pos ⟨by omega, by omega, hs, .inr (by omega)⟩]
              exact fin (fun _ => by omega) (by omega)
          · have hi1 : i = 0 := by omega
            refine Ev.step (fun k => by rw [impl_areRows.j1]) ?_
            refine Ev.neg (by simp) ?_
            rw [if_pos ⟨by omega, by omega, hs, .inl (by simp [hi1])⟩]
            exact fin (fun hh => by omega) (by omega)
        · rw [if_neg (by rintro ⟨_, _, hh, _⟩; exact hs hh)]; exact tr

theorem implM_pre : ∀ (rs : List (List Int)) (first : Bool) (p acc : List Int), implM first p acc rs = true → ∃ t, isOrd (acc ++ t) = true
  | [], first, p, acc, h => by
    rw [implM] at h
    exact ⟨[], by rw [List.append_nil]; exact h⟩
  | row :: rest, first, p, acc, h => by
    rw [implM] at h
    split at h
    · split at h
      · split at h
        · obtain ⟨t, ht⟩ := implM_pre rest _ _ _ h
          exact ⟨row ++ t, by rw [← List.append_assoc]; exact ht⟩
        · exact absurd h (by simp)
      · exact absurd h (by simp)
    · exact absurd h (by simp)
theorem sortedB_iff (l : List Int) : ∀ i : Nat, sortedB l i = true ↔ ∀ j, j < i → nth l j ≤ nth l (j + 1)
  | 0 => by simp [sortedB]
  | i + 1 => by
    rw [sortedB]
    constructor
    · intro h j hj
      split at h
      · exact absurd h (by simp)
      · rename_i hc
        by_cases e : j = i
        · subst e; omega
        · exact (sortedB_iff l i).1 h j (by omega)
    · intro h
      rw [if_neg (by have := h i (by omega); omega)]
      exact (sortedB_iff l i).2 fun j hj => h j (by omega)
theorem good_iff (first : Bool) (p row : List Int) (j : Nat) : good first p row j = true ↔ (j = 0 ∨ nth row (j - 1) < nth row j) ∧ (first = true ∨ nth p j < nth row j) := by simp [good]
theorem nth_mid (a b c : List Int) (j : Nat) (h : j < b.length) : nth (a ++ b ++ c) (a.length + j) = nth b j := by
  have h2 : a.length + j < (a ++ b ++ c).length := by simp; omega
  rw [nth_lt _ _ h2, nth_lt _ _ h]
  rw [List.getElem_append_left (by simp; omega), List.getElem_append_right (by omega)]
  congr 1; omega
theorem strict_of {acc row t : List Int} (h : isOrd (acc ++ row ++ t) = true) (j : Nat) (hj : j + 1 < row.length) : nth row j ≠ nth row (j + 1) := by
  intro e
  have hl : acc.length + (j + 1) < (acc ++ row ++ t).length := by simp; omega
  have h1 := (isOrd_at h (acc.length + (j + 1)) hl).2.2
  rw [nth_mid acc row t (j + 1) hj] at h1
  refine h1 ?_
  have h2 : acc.length + (j + 1) = (acc.length + j) + 1 := by omega
  rw [h2, take_step _ _ (by omega), nth_mid acc row t j (by omega), e]
  simp
theorem specM_is : ∀ (rs : List (List Int)) (first : Bool) (p acc : List Int), specM first p acc rs = implM first p acc rs
  | [], first, p, acc => by rw [specM, implM]
  | row :: rest, first, p, acc => by
    rw [specM, implM, specM_is rest]
    rw [Bool.eq_iff_iff]
    constructor
    · intro h
      split at h
      · rename_i hc
        split at h
        · rename_i hd
          have hd' := (allFrom_iff _ row.length 0).1 hd
          have hs : sortedB row (row.length - 1) = true := (sortedB_iff row _).2 fun j hj => by
            have := ((good_iff first p row (j + 1)).1 (hd' (j + 1) (by omega) (by omega))).1
            rw [Nat.add_sub_cancel] at this
            omega
          have hcol : allFrom (fun j => first || decide (nth p j < nth row j)) row.length 0 = true := (allFrom_iff _ row.length 0).2 fun j h1 h2 => by
            have := ((good_iff first p row j).1 (hd' j h1 h2)).2
            simpa using this
          rw [if_pos ⟨hc.1, by omega, hs, hc.2.2⟩, if_pos hcol, if_pos (by rw [List.length_append]; exact hc.2.1)]
          exact h
        · exact absurd h (by simp)
      · exact absurd h (by simp)
    · intro h
      split at h
      · rename_i hc
        split at h
        · rename_i hd
          split at h
          · rename_i h7
            obtain ⟨t, ht⟩ := implM_pre rest _ _ _ h
            have hd' := (allFrom_iff _ row.length 0).1 hd
            have hs := (sortedB_iff row _).1 hc.2.2.1
            have hg : allFrom (good first p row) row.length 0 = true := (allFrom_iff _ row.length 0).2 fun j h1 h2 => by
              rw [good_iff]
              refine ⟨?_, by simpa using hd' j h1 h2⟩
              by_cases e : j = 0
              · exact .inl e
              · refine .inr ?_
                have a1 := hs (j - 1) (by omega)
                have a2 := strict_of ht (j - 1) (by omega)
                have e2 : j - 1 + 1 = j := by omega
                rw [e2] at a1 a2
                omega
            rw [List.length_append] at h7
            rw [if_pos ⟨hc.1, h7, hc.2.2.2⟩, if_pos hg]
            exact h
          · exact absurd h (by simp)
        · exact absurd h (by simp)
      · exact absurd h (by simp)
theorem specAreRows_ev (L : List (List Int)) (hL : L.length ≤ 17592186044415) (hr : ∀ r ∈ L, r.length ≤ 17592186044415) : Ev (fun k => spec_AreRows.f k L) (specM true (L.getD 0 []) [] L) := by
  unfold spec_AreRows.f spec_l5Are.f
  refine Ev.bind ?_ (Ev.val rfl)
  exact l5Are_l L hL hr L.length 0 [] (by omega) (by simp)
theorem implAreRows_ev (L : List (List Int)) (hL : L.length ≤ 17592186044415) (hr : ∀ r ∈ L, r.length ≤ 17592186044415) : Ev (fun k => impl_AreRows.f k L) (implM true (L.getD 0 []) [] L) := by
  unfold impl_AreRows.f impl_areRows.f
  refine Ev.bind ?_ (Ev.val rfl)
  exact areRows_l L hL hr L.length 0 [] (by omega) (by simp)
/-! the law's own loops over rows -/
theorem szS_is (r : List Int) (a : Int) (h0 : 0 ≤ a) (h1 : a ≤ 1048576) (hr : r.length ≤ 9223372036854775807) : laws_szIntS.f r a = some (if a < r.length then -1 else a - r.length) := by
  unfold laws_szIntS.f
  rw [w64 (by omega)]
  by_cases h : a < r.length
  · rw [if_pos (by omega), if_pos h]
  · rw [if_neg (by omega), if_neg h]
theorem szSS_l (L : List (List Int)) (hL : L.length ≤ 1048576) (hr : ∀ r ∈ L, r.length ≤ 9223372036854775807) : ∀ (d i : Nat) (a : Int), L.length = i + d → 0 ≤ a → a ≤ 1048576 → ∃ res : Int, Ev (fun k => laws_szIntSS.l0 k L a (i : Int)) res ∧ (res < 0 ∨ ∀ j, i ≤ j → j < L.length → (L.getD j []).length ≤ 1048576)
  | 0, i, a, h, h0, h1 => by
    refine ⟨a, Ev.step (fun k => by rw [laws_szIntSS.l0]) ?_, .inr fun j h2 h3 => by omega⟩
    exact Ev.neg (by omega) (Ev.val rfl)
  | d + 1, i, a, h, h0, h1 => by
    have hm := hr _ (getD_mem0 (xs := L) (i := i) (by omega))
    have hz := szS_is (L.getD i []) a h0 h1 hm
    by_cases hc : a < (L.getD i []).length
    · rw [if_pos hc] at hz
      refine ⟨-1, Ev.step (fun k => by rw [laws_szIntSS.l0]) ?_, .inl (by omega)⟩
      simp only [rd_L1_nat0, hz, Option.bind_some]
      exact Ev.pos (by omega) (Ev.pos (by omega) (Ev.pos (by omega) (Ev.val rfl)))
    · rw [if_neg hc] at hz
      obtain ⟨res, he, hres⟩ := szSS_l L hL hr d (i + 1) (a - (L.getD i []).length) (by omega) (by omega) (by omega)
      refine ⟨res, Ev.step (fun k => by rw [laws_szIntSS.l0]) ?_, hres.imp_right fun hh j h2 h3 => ?_⟩
      · simp only [rd_L1_nat0, hz, Option.bind_some, wup i (by omega)]
        exact Ev.pos (by omega) (Ev.pos (by omega) (Ev.neg (by omega) he))
      · by_cases e : j = i
        · subst e; omega
        · exact hh j (by omega) h3
theorem szSS_ev (L : List (List Int)) (hL : L.length ≤ 9223372036854775807) (hr : ∀ r ∈ L, r.length ≤ 9223372036854775807) : ∃ res : Int, Ev (fun k => laws_szIntSS.f k L 1048576) res ∧ (res < 0 ∨ (L.length ≤ 1048576 ∧ ∀ r ∈ L, r.length ≤ 1048576)) := by
  unfold laws_szIntSS.f
  rw [w64 (by omega)]
  by_cases hc : (1048576 : Int) - L.length < 0
  · exact ⟨-1, Ev.pos hc (Ev.val rfl), .inl (by omega)⟩
  · obtain ⟨res, he, hres⟩ := szSS_l L (by omega) hr L.length 0 (1048576 - L.length) (by omega) (by omega) (by omega)
    refine ⟨res, Ev.neg hc he, hres.imp_right fun hh => ⟨by omega, fun r hr' => ?_⟩⟩
    obtain ⟨j, hj, rfl⟩ := List.getElem_of_mem hr'
    have := hh j (by omega) hj
    rw [List.getD_eq_getElem?_getD, List.getElem?_eq_getElem hj] at this
    exact this
theorem take_stepL (l : List (List Int)) (i : Nat) (h : i < l.length) : l.take (i + 1) = l.take i ++ [l.getD i []] := by
  rw [List.take_add_one, List.getD_eq_getElem?_getD, List.getElem?_eq_getElem h]; rfl
theorem take_set_succL (l : List (List Int)) (i : Nat) (v : List Int) (h : i < l.length) : (l.set i v).take (i + 1) = l.take i ++ [v] := by
  rw [take_stepL _ _ (by simpa using h), List.take_set_of_le (Nat.le_refl i)]
  simp [h]
theorem toSS_l (x0 : List (List Int)) (hn : x0.length ≤ 1048576) (hr : ∀ r ∈ x0, r.length ≤ 1048576) : ∀ (d i : Nat) (x3 : List (List Int)), x3.length = x0.length → x3.take i = x0.take i → x0.length = i + d → Ev (fun k => laws_toIntSS.l0 k x0 x3 (i : Int)) x0
  | 0, i, x3, h1, h2, h3 => by
    refine Ev.step (fun k => by rw [laws_toIntSS.l0]) ?_
    refine Ev.neg (by omega) (Ev.val ?_)
    rw [List.take_of_length_le (by omega), List.take_of_length_le (by omega)] at h2
    exact h2
  | d + 1, i, x3, h1, h2, h3 => by
    have hm := hr _ (getD_mem0 (xs := x0) (i := i) (by omega))
    refine Ev.step (fun k => by rw [laws_toIntSS.l0]) ?_
    simp only [wup i (by omega), rd_L1_nat0, Int.toNat_natCast]
    refine Ev.pos (by omega) (Ev.pos (by omega) ?_)
    refine Ev.bind (toIntS_ev _ (by omega)) (Ev.pos (by omega) ?_)
    exact toSS_l x0 hn hr d (i + 1) _ (by simpa using h1) (by rw [take_set_succL _ _ _ (by omega), h2, take_stepL _ _ (by omega)]) (by omega)
theorem toSS_ev (l : List (List Int)) (hn : l.length ≤ 1048576) (hr : ∀ r ∈ l, r.length ≤ 1048576) : Ev (fun k => laws_toIntSS.f k l) l := by
  unfold laws_toIntSS.f
  refine Ev.pos (by omega) (Ev.pos (by omega) ?_)
  exact toSS_l l hn hr l.length 0 _ (by simp) (by simp) (by omega)
theorem eqSS_l (A : List (List Int)) (hn : A.length ≤ 1048576) (hr : ∀ r ∈ A, r.length ≤ 1048576) : ∀ d i : Nat, A.length = i + d → Ev (fun k => laws_eqIntSS.l0 k A A (i : Int)) true
  | 0, i, h => by
    refine Ev.step (fun k => by rw [laws_eqIntSS.l0]) ?_
    exact Ev.neg (by omega) (Ev.val rfl)
  | d + 1, i, h => by
    have hm := hr _ (getD_mem0 (xs := A) (i := i) (by omega))
    refine Ev.step (fun k => by rw [laws_eqIntSS.l0]) ?_
    simp only [wup i (by omega), rd_L1_nat0]
    refine Ev.pos (by omega) (Ev.pos (by omega) (Ev.pos (by omega) (Ev.bind (eqIntS_ev _ _ (by omega)) ?_)))
    exact Ev.pos (by simp) (eqSS_l A hn hr d (i + 1) (by omega))
theorem FnExactAreRows (L : List (List Int)) (hL : L.length ≤ 9223372036854775807) (hr : ∀ r ∈ L, r.length ≤ 9223372036854775807) : ∃ k, laws_FnExactAreRows.f k L = some true := by
  refine Ev.rounds (?_ : Ev (fun k => laws_FnExactAreRows.f k L) true)
  unfold laws_FnExactAreRows.f
  obtain ⟨res, he, h⟩ := szSS_ev L hL hr
  refine Ev.bind he (Ev.ite (fun _ => Ev.val rfl) (fun hc => ?_))
  rcases h with h | ⟨h1, h2⟩
  · exact absurd h hc
  have h2' : ∀ r ∈ L, r.length ≤ 17592186044415 := fun r hr' => by have := h2 r hr'; omega
  refine Ev.bind (toSS_ev L h1 h2) ?_
  refine Ev.bind (specAreRows_ev L (by omega) h2') ?_
  refine Ev.bind (toSS_ev L h1 h2) ?_
  refine Ev.bind (implAreRows_ev L (by omega) h2') ?_
  refine Ev.neg (by simp [specM_is]) ?_
  refine Ev.bind (toSS_ev L h1 h2) ?_
  refine Ev.bind (?_ : Ev (fun k => laws_eqIntSS.f k L L) true) (Ev.pos rfl (Ev.val rfl))
  unfold laws_eqIntSS.f
  exact Ev.pos rfl (eqSS_l L h1 h2 L.length 0 (by omega))

end Go.Proofs.Ytnfcopikfbnheaa.Pure
