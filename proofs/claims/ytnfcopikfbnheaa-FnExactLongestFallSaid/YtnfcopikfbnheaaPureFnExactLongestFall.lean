/- The program's LongestFall returns what the reference's returns, for every list, in memory of its own. -/
import Derived.Test.YtnfcopikfbnheaaPFnExactLongestFallx10
import Derived.Test.YtnfcopikfbnheaaK
set_option linter.unusedVariables false
set_option linter.unusedSimpArgs false
namespace Go.Proofs.Ytnfcopikfbnheaa.Pure
open Go.RowKit Go.Proofs.Ytnfcopikfbnheaa.PFnExactLongestFall Go.Proofs.YtnfcopikfbnheaaW.PrintWords Go.Proofs.YtnfcopikfbnheaaW.PrintLast Go.Proofs.YtnfcopikfbnheaaW.PrintMore

theorem toIntS_l (x0 : List Int) (hn : x0.length ≤ 17592186044416) : ∀ (d i : Nat) (x3 : List Int), x3.length = x0.length → x3.take i = x0.take i → x0.length = i + d → Ev (fun k => laws_toIntS.l0 k x0 x3 i) x0
  | 0, i, x3, h1, h2, h3 => by
    refine Ev.step (fun k => by rw [laws_toIntS.l0]) ?_
    refine Ev.neg (by omega) (Ev.val ?_)
    rw [List.take_of_length_le (by omega), List.take_of_length_le (by omega)] at h2
    exact h2
  | d + 1, i, x3, h1, h2, h3 => by
    refine Ev.step (fun k => by rw [laws_toIntS.l0]) ?_
    refine Ev.pos (by omega) (Ev.pos (by omega) (Ev.pos (by omega) ?_))
    have e : wrap64 ((i : Int) + 1) = ((i + 1 : Nat) : Int) := by rw [w64 (by omega)]; omega
    simp only [e, Int.toNat_natCast]
    exact toIntS_l x0 hn d (i + 1) _ (by simpa using h1) (by rw [take_set_succ _ _ _ (by omega), h2, take_step _ _ (by omega), rd_nat]) (by omega)
theorem toIntS_ev (l : List Int) (hn : l.length ≤ 17592186044416) : Ev (fun k => laws_toIntS.f k l) l := by
  unfold laws_toIntS.f
  refine Ev.pos (by omega) (Ev.pos (by omega) ?_)
  exact toIntS_l l hn l.length 0 _ (by simp) (by simp) (by omega)

theorem eqIntS_l (a b : List Int) (hn : a.length ≤ 17592186044416) (hl : a.length = b.length) : ∀ (d i : Nat), a.length = i + d → Ev (fun k => laws_eqIntS.l0 k a b i) (decide (a.drop i = b.drop i))
  | 0, i, h => by
    refine Ev.step (fun k => by rw [laws_eqIntS.l0]) ?_
    refine Ev.neg (by omega) (Ev.val ?_)
    rw [List.drop_of_length_le (by omega), List.drop_of_length_le (by omega)]
    simp
  | d + 1, i, h => by
    refine Ev.step (fun k => by rw [laws_eqIntS.l0]) ?_
    refine Ev.pos (by omega) (Ev.pos (by omega) (Ev.pos (by omega) ?_))
    have e : wrap64 ((i : Int) + 1) = ((i + 1 : Nat) : Int) := by rw [w64 (by omega)]; omega
    simp only [e]
    rw [drop_step a i (by omega), drop_step b i (by omega)]
    refine Ev.ite (fun hc => ?_) (fun hc => Ev.val ?_)
    · have hc' : nth a i = nth b i := hc
      refine (eqIntS_l a b hn hl d (i + 1) (by omega)).to ?_
      rw [hc']
      simp
    · have hc' : ¬ nth a i = nth b i := hc
      simp [hc']
theorem eqIntS_ev (a b : List Int) (hn : a.length ≤ 17592186044416) : Ev (fun k => laws_eqIntS.f k a b) (decide (a = b)) := by
  unfold laws_eqIntS.f
  refine Ev.ite (fun hc => ?_) (fun hc => Ev.val ?_)
  · exact (eqIntS_l a b hn (by omega) a.length 0 (by omega)).to (by simp)
  · have : ¬ a = b := fun h => hc (by rw [h])
    simp [this]

theorem markIntS_l : ∀ (d i : Nat) (x0 : List Int) (x1 : Int), x0.length = i + d → x0.length ≤ 17592186044416 → -1000000000000000000 ≤ x1 → x1 + d ≤ 1000000000000000000 → Ev (fun k => laws_markIntS.l0 k x0 x1 i) (x1 + d, x0.take i ++ marked x1 d)
  | 0, i, x0, x1, h, hn, h1, h2 => by
    refine Ev.step (fun k => by rw [laws_markIntS.l0]) ?_
    refine Ev.neg (by omega) (Ev.val ?_)
    rw [List.take_of_length_le (by omega)]
    simp [marked]
  | d + 1, i, x0, x1, h, hn, h1, h2 => by
    refine Ev.step (fun k => by rw [laws_markIntS.l0]) ?_
    refine Ev.pos (by omega) (Ev.pos (by omega) ?_)
    have e : wrap64 ((i : Int) + 1) = ((i + 1 : Nat) : Int) := by rw [w64 (by omega)]; omega
    have e1 : wrap64 (x1 + 1) = x1 + 1 := w64 (by omega)
    simp only [e, e1, Int.toNat_natCast]
    refine (markIntS_l d (i + 1) (x0.set i x1) (x1 + 1) (by simpa using (by omega)) (by simpa using hn) (by omega) (by omega)).to ?_
    rw [take_set_succ _ _ _ (by omega)]
    simp [marked]
    omega
theorem markIntS_ev (l : List Int) (a : Int) (hn : l.length ≤ 17592186044416) (h1 : -1000000000000000 ≤ a) (h2 : a ≤ 1000000000000000) : Ev (fun k => laws_markIntS.f k l a) (a + l.length, marked a l.length) := by
  unfold laws_markIntS.f
  exact (markIntS_l l.length 0 l a (by omega) hn (by omega) (by omega)).to (by simp)

theorem heldIntS_l (n : Nat) (a : Int) (hn : n ≤ 17592186044416) (h1 : -1000000000000000 ≤ a) (h2 : a ≤ 1000000000000000) : ∀ (d i : Nat), n = i + d → Ev (fun k => laws_heldIntS.l0 k (marked a n) (a + i) i) (a + n)
  | 0, i, h => by
    refine Ev.step (fun k => by rw [laws_heldIntS.l0]) ?_
    refine Ev.neg (by rw [marked_length]; omega) (Ev.val ?_)
    omega
  | d + 1, i, h => by
    refine Ev.step (fun k => by rw [laws_heldIntS.l0]) ?_
    refine Ev.pos (by rw [marked_length]; omega) (Ev.pos (by omega) (Ev.pos (by rw [rd_nat, marked_nth n a i (by omega)]) ?_))
    have e : wrap64 ((i : Int) + 1) = ((i + 1 : Nat) : Int) := by rw [w64 (by omega)]; omega
    have e1 : wrap64 (a + i + 1) = a + ((i + 1 : Nat) : Int) := by rw [w64 (by omega)]; omega
    simp only [e, e1]
    exact heldIntS_l n a hn h1 h2 d (i + 1) (by omega)
theorem heldIntS_ev (n : Nat) (a : Int) (hn : n ≤ 17592186044416) (h1 : -1000000000000000 ≤ a) (h2 : a ≤ 1000000000000000) : Ev (fun k => laws_heldIntS.f k (marked a n) a) (a + n) := by
  unfold laws_heldIntS.f
  have := heldIntS_l n a hn h1 h2 n 0 (by omega)
  rw [show a + ((0 : Nat) : Int) = a by omega] at this
  exact this

theorem l1In_is (a b c : Int) : spec_l1In.f a b c = some (decide (b ≤ a ∧ a ≤ c)) := by
  unfold spec_l1In.f
  by_cases h : a ≥ b
  · rw [if_pos h]; simp [h]
  · rw [if_neg h]; simp; omega

theorem l1Has_l (l : List Int) (x : Int) (hn : l.length ≤ 17592186044416) : ∀ (d i : Nat), l.length = i + d → Ev (fun k => spec_l1Has.l0 k l x i) ((l.drop i).contains x)
  | 0, i, h => by
    refine Ev.step (fun k => by rw [spec_l1Has.l0]) ?_
    refine Ev.neg (by omega) (Ev.val ?_)
    rw [List.drop_of_length_le (by omega)]
    simp
  | d + 1, i, h => by
    refine Ev.step (fun k => by rw [spec_l1Has.l0]) ?_
    have e : wrap64 ((i : Int) + 1) = ((i + 1 : Nat) : Int) := by rw [w64 (by omega)]; omega
    simp only [e]
    rw [drop_step l i (by omega)]
    refine Ev.pos (by omega) (Ev.pos (by omega) (Ev.ite (fun hc => Ev.val ?_) (fun hc => ?_)))
    · have hc' : nth l i = x := hc
      rw [hc']; simp
    · have hc' : ¬ nth l i = x := hc
      refine (l1Has_l l x hn d (i + 1) (by omega)).to ?_
      have : ¬ x = nth l i := fun h => hc' h.symm
      rw [List.contains_cons]
      simp [this]
theorem l1Has_ev (l : List Int) (x : Int) (hn : l.length ≤ 17592186044416) : Ev (fun k => spec_l1Has.f k l x) (l.contains x) := by
  unfold spec_l1Has.f
  exact (l1Has_l l x hn l.length 0 (by omega)).to (by simp)

theorem l2Order_l (l : List Int) (hn : l.length ≤ 17592186044416) : ∀ (d i : Nat), l.length = i + d → Ev (fun k => spec_l2Order.l0 k l i) (allFrom (ordAt l) d i)
  | 0, i, h => by
    refine Ev.step (fun k => by rw [spec_l2Order.l0]) ?_
    exact Ev.neg (by omega) (Ev.val rfl)
  | d + 1, i, h => by
    refine Ev.step (fun k => by rw [spec_l2Order.l0]) ?_
    have e : wrap64 ((i : Int) + 1) = ((i + 1 : Nat) : Int) := by rw [w64 (by omega)]; omega
    simp only [e, l1In_is, Option.bind_some, rd_nat, Int.toNat_natCast, decide_eq_true_eq]
    refine Ev.pos (by omega) (Ev.pos (by omega) (Ev.ite (fun hc => Ev.pos (by omega) ?_) (fun hc => Ev.val ?_)))
    · refine Ev.bind (l1Has_ev _ _ (by simp; omega)) ?_
      refine Ev.ite (fun hb => Ev.val ?_) (fun hb => (l2Order_l l hn d (i + 1) (by omega)).to ?_)
      · rw [allFrom, ordAt, hb]; simp
      · rw [Bool.not_eq_true] at hb
        rw [allFrom, ordAt, hb]; simp [hc]
    · rw [allFrom, ordAt]
      by_cases h1 : 1 ≤ nth l i
      · have : ¬ nth l i ≤ l.length := fun h2 => hc ⟨h1, h2⟩
        simp [this]
      · simp [h1]
theorem l2Order_ev (l : List Int) (hn : l.length ≤ 17592186044416) : Ev (fun k => spec_l2Order.f k l) (isOrd l) := by
  unfold spec_l2Order.f
  simp only [l1In_is, Option.bind_some, decide_eq_true_eq]
  refine Ev.ite (fun hc => (l2Order_l l hn l.length 0 (by omega)).to ?_) (fun hc => Ev.val ?_)
  · have h1 : 1 ≤ l.length := by omega
    have h2 : l.length ≤ 7 := by omega
    simp [isOrd, h1, h2]
  · rw [isOrd]
    by_cases h1 : 1 ≤ l.length
    · have : ¬ l.length ≤ 7 := by omega
      simp [this]
    · simp [h1]

theorem Index_l (l : List Int) (x : Int) (hn : l.length ≤ 17592186044416) : ∀ (d i : Nat), l.length = i + d → (∀ j, j < i → nth l j ≠ x) → Ev (fun k => slices_Index_int_int.l0 k l x (l.length : Int) i) (idx l x)
  | 0, i, h, hq => by
    refine Ev.step (fun k => by rw [slices_Index_int_int.l0]) ?_
    refine Ev.neg (by omega) (Ev.val ?_)
    exact (idx_none l x fun j hj => hq j (by omega)).symm
  | d + 1, i, h, hq => by
    refine Ev.step (fun k => by rw [slices_Index_int_int.l0]) ?_
    have e : wrap64 ((i : Int) + 1) = ((i + 1 : Nat) : Int) := by rw [w64 (by omega)]; omega
    simp only [e]
    refine Ev.pos (by omega) (Ev.pos (by omega) (Ev.pos (by omega) (Ev.ite (fun hc => Ev.val ?_) (fun hc => ?_))))
    · exact (idx_some l x i (by omega) (by rw [hc]; rfl) hq).symm
    · refine Index_l l x hn d (i + 1) (by omega) (fun j hj => ?_)
      by_cases e : j = i
      · subst e; exact fun h => hc h.symm
      · exact hq j (by omega)
theorem Index_ev (l : List Int) (x : Int) (hn : l.length ≤ 17592186044416) : Ev (fun k => slices_Index_int_int.f k l x) (idx l x) := by
  unfold slices_Index_int_int.f
  exact Index_l l x hn l.length 0 (by omega) (fun j hj => by omega)

theorem Contains_ev (l : List Int) (x : Int) (hn : l.length ≤ 17592186044416) : Ev (fun k => slices_Contains_int_int.f k l x) (l.contains x) := by
  unfold slices_Contains_int_int.f
  exact Ev.bind (Index_ev l x hn) (Ev.val (idx_contains l x))

theorem isOrder_l (l : List Int) (hn : l.length ≤ 17592186044416) : ∀ (d i : Nat), l.length = i + d → Ev (fun k => impl_isOrder.l0 k l l (l.length : Int) i) (allFrom (ordAt l) d i)
  | 0, i, h => by
    refine Ev.step (fun k => by rw [impl_isOrder.l0]) ?_
    exact Ev.neg (by omega) (Ev.val rfl)
  | d + 1, i, h => by
    refine Ev.step (fun k => by rw [impl_isOrder.l0]) ?_
    have e : wrap64 ((i : Int) + 1) = ((i + 1 : Nat) : Int) := by rw [w64 (by omega)]; omega
    simp only [e, rd_nat, Int.toNat_natCast]
    refine Ev.pos (by omega) (Ev.pos (by omega) (Ev.pos (by omega) (Ev.ite (fun hc => Ev.val ?_) (fun hc => Ev.ite (fun hd => Ev.val ?_) (fun hd => Ev.pos (by omega) ?_)))))
    · have : ¬ 1 ≤ nth l i := by omega
      rw [allFrom, ordAt]; simp [this]
    · have : ¬ nth l i ≤ l.length := by omega
      rw [allFrom, ordAt]; simp [this]
    · refine Ev.bind (Contains_ev _ _ (by simp; omega)) ?_
      refine Ev.ite (fun hb => Ev.val ?_) (fun hb => (isOrder_l l hn d (i + 1) (by omega)).to ?_)
      · rw [allFrom, ordAt, hb]; simp
      · rw [Bool.not_eq_true] at hb
        have h1 : 1 ≤ nth l i := by omega
        have h2 : nth l i ≤ l.length := by omega
        rw [allFrom, ordAt, hb]; simp [h1, h2]
theorem isOrder_ev (l : List Int) (hn : l.length ≤ 17592186044416) : Ev (fun k => impl_isOrder.f k l) (isOrd l) := by
  unfold impl_isOrder.f
  refine Ev.ite (fun hc => ?_) (fun hc => ?_)
  · refine Ev.step (fun k => by rw [impl_isOrder.j0]) ?_
    refine Ev.pos rfl (Ev.val ?_)
    have : ¬ 1 ≤ l.length := by omega
    simp [isOrd, this]
  · refine Ev.step (fun k => by rw [impl_isOrder.j0]) ?_
    simp only [decide_eq_true_eq]
    refine Ev.ite (fun hd => Ev.val ?_) (fun hd => (isOrder_l l hn l.length 0 (by omega)).to ?_)
    · have : ¬ l.length ≤ 7 := by omega
      simp [isOrd, this]
    · have h1 : 1 ≤ l.length := by omega
      have h2 : l.length ≤ 7 := by omega
      simp [isOrd, h1, h2]

/-! a check of all orders, by the kernel -/
def isOk : Option Bool → Bool
  | some true => true
  | _ => false
theorem isOk_some {o : Option Bool} (h : isOk o = true) : o = some true := by
  unfold isOk at h
  split at h
  · rfl
  · cases h
def allO (ns : List Int) (p : List Int → Bool) : Nat → List Int → Bool
  | 0, q => p q
  | d + 1, q => ns.all fun c => q.contains c || allO ns p d (c :: q)
theorem isOrd_drop {l : List Int} (h : isOrd l = true) (i : Nat) (hi : i < l.length) : nth l i ∉ l.drop (i + 1) := by
  intro hm
  obtain ⟨j, hj, e⟩ := List.mem_iff_getElem.1 hm
  rw [List.getElem_drop] at e
  simp only [List.length_drop] at hj
  refine (isOrd_at h (i + 1 + j) (by omega)).2.2 ?_
  rw [nth_lt l (i + 1 + j) (by omega), e, nth_lt l i hi, List.mem_take_iff_getElem]
  exact ⟨i, by omega, rfl⟩
theorem allO_mem {l : List Int} (h : isOrd l = true) (ns : List Int) (hns : ∀ x : Int, 1 ≤ x → x ≤ l.length → x ∈ ns) (p : List Int → Bool) : ∀ i, i ≤ l.length → allO ns p i (l.drop i) = true → p l = true
  | 0, _, hp => by simpa [allO] using hp
  | i + 1, hi, hp => by
    rw [allO, List.all_eq_true] at hp
    have ha := isOrd_at h i (by omega)
    have h1 := hp (nth l i) (hns _ ha.1 ha.2.1)
    have h2 : (l.drop (i + 1)).contains (nth l i) = false := by
      have := isOrd_drop h i (by omega)
      simpa using this
    rw [h2, Bool.false_or, ← drop_step l i (by omega)] at h1
    exact allO_mem h ns hns p i (by omega) h1
def intsTo (n : Nat) : List Int := ([1, 2, 3, 4, 5, 6, 7] : List Int).take n
theorem intsTo_mem : ∀ n : Nat, n ≤ 7 → ∀ x : Int, 1 ≤ x → x ≤ n → x ∈ intsTo n := by
  intro n hn x h1 h2
  have hx : x = 1 ∨ x = 2 ∨ x = 3 ∨ x = 4 ∨ x = 5 ∨ x = 6 ∨ x = 7 := by omega
  have hn' : n = 0 ∨ n = 1 ∨ n = 2 ∨ n = 3 ∨ n = 4 ∨ n = 5 ∨ n = 6 ∨ n = 7 := by omega
  rcases hn' with rfl | rfl | rfl | rfl | rfl | rfl | rfl | rfl <;> rcases hx with rfl | rfl | rfl | rfl | rfl | rfl | rfl <;> first | (exfalso; omega) | simp [intsTo]
theorem orders_all {l : List Int} (h : isOrd l = true) (p : List Int → Bool) (hp : ∀ n ∈ [1, 2, 3, 4, 5, 6, 7], allO (intsTo n) p n [] = true) : p l = true := by
  have hl := isOrd_len h
  have hm : l.length ∈ [1, 2, 3, 4, 5, 6, 7] := by
    have : l.length = 1 ∨ l.length = 2 ∨ l.length = 3 ∨ l.length = 4 ∨ l.length = 5 ∨ l.length = 6 ∨ l.length = 7 := by omega
    simp [this]
  refine allO_mem h (intsTo l.length) (fun x h1 h2 => intsTo_mem l.length hl.2 x h1 h2) p l.length (Nat.le_refl _) ?_
  rw [List.drop_length]
  exact hp _ hm

theorem l1Own_is (l : List Int) (h : l.length < 17592186044416) : spec_l1Own.f l = some l := by
  unfold spec_l1Own.f
  simp [h]

/-! sorted lists -/
def sortedB (l : List Int) : Nat → Bool
  | 0 => true
  | i + 1 => if nth l (i + 1) < nth l i then false else sortedB l i
theorem cmpLess_is (a b : Int) : cmp_Less_int.f a b = some (decide (a < b)) := by
  unfold cmp_Less_int.f cmp_isNaN_int.f
  simp
theorem isSorted_l (l : List Int) (hn : l.length ≤ 17592186044416) : ∀ i : Nat, i < l.length → Ev (fun k => slices_IsSorted_int_int.l0 k l i) (sortedB l i)
  | 0, hi => by
    refine Ev.step (fun k => by rw [slices_IsSorted_int_int.l0]) (Ev.neg (by omega) (Ev.val ?_))
    rw [sortedB]
  | i + 1, hi => by
    refine Ev.step (fun k => by rw [slices_IsSorted_int_int.l0]) ?_
    have e : wrap64 (((i + 1 : Nat) : Int) - 1) = (i : Int) := by rw [w64 (by omega)]; omega
    simp only [e]
    clear e
    refine Ev.pos (by omega) (Ev.pos (by omega) (Ev.pos (by omega) (Ev.pos (by omega) (Ev.pos (by omega) ?_))))
    simp only [cmpLess_is, Option.bind_some, rd_nat]
    rw [sortedB]
    refine Ev.ite (fun hc => Ev.val ?_) (fun hc => ?_)
    · rw [decide_eq_true_eq] at hc; rw [if_pos hc]
    · rw [decide_eq_true_eq] at hc; rw [if_neg hc]; exact isSorted_l l hn i (by omega)
theorem isSorted_ev (l : List Int) (hn : l.length ≤ 17592186044416) (h0 : 0 < l.length) : Ev (fun k => impl_isSorted.f k l) (sortedB l (l.length - 1)) := by
  unfold impl_isSorted.f slices_IsSorted_int_int.f
  have e : wrap64 ((l.length : Int) - 1) = ((l.length - 1 : Nat) : Int) := by rw [w64 (by omega)]; omega
  simp only [e]
  exact Ev.bind (isSorted_l l hn _ (by omega)) (Ev.val rfl)

theorem nth_right (A B : List Int) (i : Nat) (h : A.length ≤ i) : nth (A ++ B) i = nth B (i - A.length) := by
  simp [nth, List.getD_eq_getElem?_getD, List.getElem?_append_right h]
theorem Reverse_l : ∀ (n : Nat) (A M B : List Int), M.length = n → (A ++ (M ++ B)).length ≤ 17592186044415 → Ev (fun k => slices_Reverse_int_int.l0 k (A ++ (M ++ B)) (A.length : Int) ((A.length : Int) + (M.length : Int) - 1)) (A ++ (M.reverse ++ B)) := by
  intro n
  induction n using Nat.strongRecOn with
  | _ n ih =>
    intro A M B hM hn
    by_cases h2 : n < 2
    · refine Ev.step (fun k => by rw [slices_Reverse_int_int.l0]) ?_
      refine Ev.neg (by omega) (Ev.val ?_)
      have : M = [] ∨ ∃ a, M = [a] := by
        rcases M with _ | ⟨a, _ | ⟨b, M⟩⟩
        · exact .inl rfl
        · exact .inr ⟨a, rfl⟩
        · simp at hM; omega
      rcases this with rfl | ⟨a, rfl⟩ <;> simp
    · obtain ⟨a, M', b, rfl⟩ : ∃ a M' b, M = a :: (M' ++ [b]) := by
        rcases M with _ | ⟨a, M⟩
        · simp at hM; omega
        · rcases List.eq_nil_or_concat M with rfl | ⟨M', b, rfl⟩
          · simp at hM; omega
          · exact ⟨a, M', b, by simp⟩
      have hl : M'.length + 2 = n := by simp at hM; omega
      have hn' : A.length + (M'.length + 2 + B.length) ≤ 17592186044415 := by simp at hn; omega
      refine Ev.step (fun k => by rw [slices_Reverse_int_int.l0]) ?_
      have e1 : (A.length : Int) + ((a :: (M' ++ [b])).length : Int) - 1 = ((A.length + 1 + M'.length : Nat) : Int) := by simp; omega
      have e2 : wrap64 ((A.length : Int) + 1) = ((A.length + 1 : Nat) : Int) := by rw [w64 (by omega)]; omega
      have e3 : wrap64 (((A.length + 1 + M'.length : Nat) : Int) - 1) = ((A.length + M'.length : Nat) : Int) := by rw [w64 (by omega)]; omega
      have g1 : nth (A ++ (a :: (M' ++ [b]) ++ B)) (A.length + 1 + M'.length) = b := by
        have : A ++ (a :: (M' ++ [b]) ++ B) = (A ++ a :: M') ++ (b :: B) := by simp
        rw [this, nth_right _ _ _ (by simp; omega)]
        have : A.length + 1 + M'.length - (A ++ a :: M').length = 0 := by simp; omega
        rw [this]; rfl
      have g2 : nth (A ++ (a :: (M' ++ [b]) ++ B)) A.length = a := by
        rw [nth_right _ _ _ (Nat.le_refl _)]
        simp [nth]
      have g3 : ((A ++ (a :: (M' ++ [b]) ++ B)).set A.length b).set (A.length + 1 + M'.length) a = (A ++ [b]) ++ (M' ++ (a :: B)) := by
        have h1 : (A ++ (a :: (M' ++ [b]) ++ B)).set A.length b = (A ++ b :: M') ++ (b :: B) := by
          rw [List.set_append_right _ _ (Nat.le_refl _)]; simp
        rw [h1, List.set_append_right _ _ (by simp; omega)]
        have : A.length + 1 + M'.length - (A ++ b :: M').length = 0 := by simp; omega
        rw [this]; simp
      simp only [e1, e2, e3, rd_nat, Int.toNat_natCast, g1, g2, g3]
      have hlen : (A ++ (a :: (M' ++ [b]) ++ B)).length = A.length + (M'.length + 2 + B.length) := by simp; omega
      refine Ev.pos (by omega) (Ev.pos (by omega) (Ev.pos (by rw [hlen]; omega) (Ev.pos (by omega) (Ev.pos (by rw [hlen]; omega) ?_))))
      have := ih M'.length (by omega) (A ++ [b]) M' (a :: B) rfl (by simp; omega)
      have e4 : ((A ++ [b]).length : Int) + (M'.length : Int) - 1 = ((A.length + M'.length : Nat) : Int) := by simp; omega
      have e5 : ((A ++ [b]).length : Int) = ((A.length + 1 : Nat) : Int) := by simp
      rw [e4, e5] at this
      refine this.to ?_
      simp
theorem Reverse_ev (l : List Int) (hn : l.length ≤ 17592186044415) : Ev (fun k => slices_Reverse_int_int.f k l) l.reverse := by
  unfold slices_Reverse_int_int.f
  have e : wrap64 ((l.length : Int) - 1) = (([] : List Int).length : Int) + (l.length : Int) - 1 := by rw [w64 (by omega)]; simp
  have := Reverse_l l.length [] l [] rfl (by simpa using hn)
  simp only [e]
  simpa using this
theorem back_ev (l : List Int) (hn : l.length ≤ 17592186044415) : Ev (fun k => impl_back.f k l) l.reverse := by
  unfold impl_back.f
  refine Ev.bind (a := l) ?_ (Ev.bind (Reverse_ev l hn) (Ev.val rfl))
  unfold slices_Clone_int_int.f
  exact Ev.pos (by omega) (Ev.val rfl)

theorem isFall_ev (l : List Int) (hn : l.length ≤ 17592186044415) (h0 : 0 < l.length) : Ev (fun k => impl_isFall.f k l) (sortedB l.reverse (l.reverse.length - 1)) := by
  unfold impl_isFall.f
  exact Ev.bind (back_ev l hn) (Ev.bind (isSorted_ev l.reverse (by rw [List.length_reverse]; omega) (by rw [List.length_reverse]; exact h0)) (Ev.val rfl))

/-! the longest rises: the rows that the two sides look at, and what each keeps -/
def lexL : List Int → List Int → Bool
  | a :: s, b :: t => if a = b then lexL s t else decide (a < b)
  | _, _ => false
def cnd (r : Bool) (so : List Int) (y : Int) : Bool := so.length == 0 || (decide (y > nth so (so.length - 1)) == r)
def riG (r : Bool) : List Int → List Int → List (List Int)
  | _, [] => []
  | so, y :: t => (if cnd r so y = true then (so ++ [y]) :: riG r (so ++ [y]) t else []) ++ riG r so t
def bst (b x : List Int) : List Int := if b.length < x.length then x else if x.length = b.length then (if lexL x b = true then x else b) else b
def chK : List Int → List Int → Nat → List (List Int)
  | own, _, 0 => [own]
  | _, [], _ + 1 => []
  | own, y :: t, j + 1 => chK (own ++ [y]) t j ++ chK own t (j + 1)
def lst (b x : List Int) : List Int := if lexL x b = true then x else b
def loM (p : List Int → Bool) (l : List Int) : Nat → List Int
  | 0 => []
  | m + 1 => match (chK [] l (m + 1)).filter p with
    | [] => loM p l m
    | x :: xs => xs.foldl lst x
theorem riG_len (r : Bool) : ∀ (t so x : List Int), x ∈ riG r so t → x.length ≤ so.length + t.length
  | [], _, _, h => by simp [riG] at h
  | y :: t, so, x, h => by
    rw [riG, List.mem_append] at h
    simp only [List.length_cons]
    rcases h with h | h
    · by_cases c : cnd r so y = true
      · rw [if_pos c, List.mem_cons] at h
        rcases h with rfl | h
        · simp
        · have := riG_len r t _ x h; simp at this; omega
      · rw [if_neg c] at h; cases h
    · have := riG_len r t so x h; omega
theorem riG_count (r : Bool) : ∀ (t so : List Int), (riG r so t).length + 1 ≤ 2 ^ t.length
  | [], _ => by simp [riG]
  | y :: t, so => by
    have h1 := riG_count r t so
    have h2 := riG_count r t (so ++ [y])
    rw [riG, List.length_append, List.length_cons, Nat.pow_succ]
    by_cases c : cnd r so y = true
    · rw [if_pos c, List.length_cons]; omega
    · rw [if_neg c, List.length_nil]; omega
theorem chK_len : ∀ (t own : List Int) (j : Nat) (x : List Int), x ∈ chK own t j → x.length = own.length + j
  | _, own, 0, x, h => by simp [chK] at h; simp [h]
  | [], own, j + 1, x, h => by simp [chK] at h
  | y :: t, own, j + 1, x, h => by
    rw [chK, List.mem_append] at h
    rcases h with h | h
    · have := chK_len t _ j x h; simp at this; omega
    · exact chK_len t own (j + 1) x h
theorem chK_count : ∀ (t own : List Int) (j : Nat), (chK own t j).length ≤ 2 ^ t.length
  | t, own, 0 => by simpa [chK] using Nat.one_le_two_pow
  | [], own, j + 1 => by simp [chK]
  | y :: t, own, j + 1 => by
    have h1 := chK_count t (own ++ [y]) j
    have h2 := chK_count t own (j + 1)
    rw [chK, List.length_append, List.length_cons, Nat.pow_succ]; omega
theorem bst_le (N : Nat) : ∀ (xs : List (List Int)) (b : List Int), b.length ≤ N → (∀ x ∈ xs, x.length ≤ N) → (xs.foldl bst b).length ≤ N
  | [], b, h, _ => h
  | x :: xs, b, h, hx => by
    rw [List.foldl_cons]
    refine bst_le N xs _ ?_ (fun z hz => hx z (List.mem_cons_of_mem _ hz))
    have := hx x List.mem_cons_self
    unfold bst
    split
    · exact this
    · split
      · split
        · exact this
        · exact h
      · exact h
theorem pow7 {n : Nat} (h : n ≤ 7) : 2 ^ n ≤ 128 := by
  have : n = 0 ∨ n = 1 ∨ n = 2 ∨ n = 3 ∨ n = 4 ∨ n = 5 ∨ n = 6 ∨ n = 7 := by omega
  rcases this with rfl | rfl | rfl | rfl | rfl | rfl | rfl | rfl <;> decide
theorem dropL (xs : List (List Int)) (i : Nat) (h : i < xs.length) : xs.drop i = xs.getD i [] :: xs.drop (i + 1) := by
  rw [List.drop_eq_getElem_cons h, List.getD_eq_getElem?_getD, List.getElem?_eq_getElem h]; rfl
theorem memL {xs : List (List Int)} {i : Nat} (h : i < xs.length) : xs.getD i [] ∈ xs := by
  rw [List.getD_eq_getElem?_getD, List.getElem?_eq_getElem h]; exact List.getElem_mem h
theorem l5Rises_l (r : Bool) (l : List Int) (hl : l.length ≤ 7) : ∀ (d i : Nat) (so : List Int) (acc : List (List Int)), l.length = i + d → so.length ≤ i → acc.length + (riG r so (l.drop i)).length ≤ 1000 → Ev (fun k => spec_l5Rises.l0 k l so r acc (i : Int)) (acc ++ riG r so (l.drop i))
  | 0, i, so, acc, h, hs, hb => by
    refine Ev.step (fun k => by rw [spec_l5Rises.l0]) (Ev.neg (by omega) (Ev.val ?_))
    rw [List.drop_eq_nil_of_le (by omega)]; simp [riG]
  | d + 1, i, so, acc, h, hs, hb => by
    have e : wrap64 ((i : Int) + 1) = ((i + 1 : Nat) : Int) := by rw [w64 (by omega)]; omega
    rw [drop_step l i (by omega)] at hb ⊢
    rw [riG, List.length_append] at hb
    have key : ∀ b : Bool, b = cnd r so (nth l i) → Ev (fun k => spec_l5Rises.j1 k l so r acc (i : Int) b) (acc ++ riG r so (nth l i :: l.drop (i + 1))) := by
      intro b hbb
      refine Ev.step (fun k => by rw [spec_l5Rises.j1]) ?_
      simp only [e, rd_nat, l1Own_is _ (show so.length < 17592186044416 by omega), Option.bind_some]
      refine Ev.ite (fun hc => ?_) (fun hc => ?_)
      · rw [hbb] at hc
        rw [if_pos hc, List.length_cons] at hb
        refine Ev.pos (by omega) (Ev.pos (by omega) (Ev.pos (by rw [List.length_singleton]; omega) ?_))
        refine Ev.bind (a := (so ++ [nth l i]) :: riG r (so ++ [nth l i]) (l.drop (i + 1))) ?_ ?_
        · refine Ev.step (fun k => by rw [spec_l5Rises.f]) ?_
          exact (l5Rises_l r l hl d (i + 1) (so ++ [nth l i]) [so ++ [nth l i]] (by omega) (by simp; omega) (by rw [List.length_singleton]; omega)).to (by simp)
        · refine Ev.pos (by rw [List.length_cons]; omega) ((l5Rises_l r l hl d (i + 1) so _ (by omega) (by omega) (by rw [List.length_append, List.length_cons]; omega)).to ?_)
          rw [riG, if_pos hc]; simp
      · rw [hbb] at hc
        rw [if_neg hc, List.length_nil] at hb
        refine (l5Rises_l r l hl d (i + 1) so acc (by omega) (by omega) (by omega)).to ?_
        rw [riG, if_neg hc]; simp
    refine Ev.step (fun k => by rw [spec_l5Rises.l0]) (Ev.pos (by omega) ?_)
    refine Ev.ite (fun hc => ?_) (fun hc => ?_)
    · exact key true (by have : so.length = 0 := by omega
                         simp [cnd, this])
    · have e2 : wrap64 ((so.length : Int) - 1) = ((so.length - 1 : Nat) : Int) := by rw [w64 (by omega)]; omega
      simp only [e2, rd_nat]
      refine Ev.pos (by omega) (Ev.pos (by omega) (Ev.pos (by omega) (key _ ?_)))
      have : (so.length == 0) = false := by rw [beq_eq_false_iff_ne]; omega
      rw [cnd, this, Bool.false_or]
theorem l2Before_l (a b : List Int) (hab : a.length = b.length) (hn : a.length ≤ 1000) : ∀ d i : Nat, a.length = i + d → Ev (fun k => spec_l2Before.l0 k a b (i : Int)) (lexL (a.drop i) (b.drop i))
  | 0, i, h => by
    refine Ev.step (fun k => by rw [spec_l2Before.l0]) (Ev.neg (by omega) (Ev.val ?_))
    rw [List.drop_eq_nil_of_le (by omega)]; simp [lexL]
  | d + 1, i, h => by
    have e : wrap64 ((i : Int) + 1) = ((i + 1 : Nat) : Int) := by rw [w64 (by omega)]; omega
    refine Ev.step (fun k => by rw [spec_l2Before.l0]) ?_
    simp only [e, rd_nat]
    rw [drop_step a i (by omega), drop_step b i (by omega), lexL]
    refine Ev.pos (by omega) (Ev.pos (by omega) (Ev.pos (by omega) (Ev.ite (fun hc => ?_) (fun hc => Ev.val ?_))))
    · rw [if_pos hc]; exact l2Before_l a b hab hn d (i + 1) (by omega)
    · rw [if_neg hc]; exact decide_eq_decide.2 Iff.rfl
theorem l5Longest_l (all : List (List Int)) (hn : all.length ≤ 1000) (hx : ∀ x ∈ all, x.length ≤ 1000) : ∀ (d i : Nat) (b : List Int), all.length = i + d → Ev (fun k => spec_l5Longest.l0 k b all (i : Int)) ((all.drop i).foldl bst b)
  | 0, i, b, h => by
    refine Ev.step (fun k => by rw [spec_l5Longest.l0]) (Ev.neg (by omega) (Ev.val ?_))
    rw [List.drop_eq_nil_of_le (by omega)]; rfl
  | d + 1, i, b, h => by
    have e : wrap64 ((i : Int) + 1) = ((i + 1 : Nat) : Int) := by rw [w64 (by omega)]; omega
    have er : rd_L1 all (i : Int) = all.getD i [] := by rw [rd_L1, Int.toNat_natCast]
    have hz := hx _ (memL (show i < all.length by omega))
    refine Ev.step (fun k => by rw [spec_l5Longest.l0]) ?_
    simp only [e, er]
    rw [dropL all i (by omega), List.foldl_cons]
    generalize all.getD i [] = x at hz ⊢
    refine Ev.pos (by omega) (Ev.pos (by omega) ?_)
    refine Ev.ite (fun hc => ?_) (fun hc => Ev.ite (fun hd => ?_) (fun hd => ?_))
    · rw [bst, if_pos (by omega)]; exact l5Longest_l all hn hx d (i + 1) x (by omega)
    · have hd' : x.length = b.length := by omega
      rw [bst, if_neg (by omega), if_pos hd']
      refine Ev.bind (a := lexL x b) (l2Before_l x b hd' hz x.length 0 (by omega)) (Ev.ite (fun hc => ?_) (fun hc => ?_))
      · rw [if_pos hc]; exact l5Longest_l all hn hx d (i + 1) x (by omega)
      · rw [if_neg hc]; exact l5Longest_l all hn hx d (i + 1) b (by omega)
    · rw [bst, if_neg (by omega), if_neg (by omega)]; exact l5Longest_l all hn hx d (i + 1) b (by omega)
theorem l5Longest_ev (r : Bool) (l : List Int) (hl : l.length ≤ 7) : Ev (fun k => spec_l5Longest.f k l r) ((riG r [] l).foldl bst []) := by
  unfold spec_l5Longest.f
  have h1 := riG_count r l []
  have h2 := pow7 hl
  have hr : Ev (fun k => spec_l5Rises.f k l [] 0 r) ([] :: riG r [] l) := by
    refine Ev.step (fun k => by rw [spec_l5Rises.f]) ?_
    exact (l5Rises_l r l hl l.length 0 [] [[]] (by omega) (by simp) (by simp; omega)).to (by simp)
  refine Ev.bind hr ((l5Longest_l _ (by rw [List.length_cons]; omega) (fun x hx => ?_) _ 0 [] (by rw [Nat.zero_add])).to ?_)
  · rcases List.mem_cons.1 hx with rfl | hx
    · simp
    · have := riG_len r l [] x hx; simp at this; omega
  · rw [List.drop_zero, List.foldl_cons]
    simp [bst, lexL]
theorem at_l (l d : List Int) (hd : ∀ x ∈ d, 0 ≤ x ∧ x < (l.length : Int)) (hn : d.length ≤ 1000) : ∀ (m i : Nat) (out : List Int), d.length = i + m → out.length ≤ i → Ev (fun k => impl_at.l0 k l out d (d.length : Int) (i : Int)) (out ++ (d.drop i).map (rd l))
  | 0, i, out, h, ho => by
    refine Ev.step (fun k => by rw [impl_at.l0]) (Ev.neg (by omega) (Ev.val ?_))
    rw [List.drop_eq_nil_of_le (by omega)]; simp
  | m + 1, i, out, h, ho => by
    have e : wrap64 ((i : Int) + 1) = ((i + 1 : Nat) : Int) := by rw [w64 (by omega)]; omega
    have hz := hd (nth d i) (by rw [nth_lt d i (by omega)]; exact List.getElem_mem _)
    refine Ev.step (fun k => by rw [impl_at.l0]) ?_
    simp only [e, rd_nat]
    refine Ev.pos (by omega) (Ev.pos (by omega) (Ev.pos (by omega) (Ev.pos hz.1 (Ev.pos hz.2 (Ev.pos (by omega) ?_)))))
    refine (at_l l d hd hn m (i + 1) _ (by omega) (by simp; omega)).to ?_
    rw [drop_step d i (by omega)]; simp
theorem at_ev (l d : List Int) (hd : ∀ x ∈ d, 0 ≤ x ∧ x < (l.length : Int)) (hn : d.length ≤ 1000) : Ev (fun k => impl_at.f k l d) (d.map (rd l)) := by
  unfold impl_at.f
  exact (at_l l d hd hn d.length 0 [] (by omega) (by simp)).to (by simp)
theorem longest_1_ev (so_ : Nat → List Int → Option Bool) (p : List Int → Bool) (l d : List Int) (s : List (List Int)) (hp : Ev (fun k => so_ k (d.map (rd l))) (p (d.map (rd l)))) (hd : ∀ x ∈ d, 0 ≤ x ∧ x < (l.length : Int)) (hn : d.length ≤ 1000) (hs : s.length < 1000000) : Ev (fun k => impl_longest_1.f so_ l k s d) (s ++ [d.map (rd l)].filter p, false) := by
  unfold impl_longest_1.f
  refine Ev.bind (at_ev l d hd hn) (Ev.bind hp (Ev.ite (fun hc => Ev.pos hs (Ev.val ?_)) (fun hc => Ev.val ?_)))
  · simp [hc]
  · simp [hc]
theorem choose_l (so_ : Nat → List Int → Option Bool) (p : List Int → Bool) (l : List Int) (m : Nat) (hl : l.length ≤ 7) (hm : 1 ≤ m ∧ m ≤ 7) (hp : ∀ x : List Int, x.length = m → Ev (fun k => so_ k x) (p x)) :
    ∀ (d i : Nat) (dn : List Int) (s : List (List Int)), l.length = i + d → dn.length < m → (∀ x ∈ dn, 0 ≤ x ∧ x < (l.length : Int)) → s.length + (chK (dn.map (rd l)) (l.drop i) (m - dn.length)).length ≤ 1000 →
      Ev (fun k => impl_choose_1.l0 (impl_longest_1.f so_ l) k (l.length : Int) (m : Int) s dn (i : Int)) (s ++ (chK (dn.map (rd l)) (l.drop i) (m - dn.length)).filter p, false)
  | 0, i, dn, s, h, hd, hv, hb => by
    refine Ev.step (fun k => by rw [impl_choose_1.l0]) (Ev.neg (by omega) (Ev.val ?_))
    obtain ⟨j, hj⟩ : ∃ j, m - dn.length = j + 1 := ⟨m - dn.length - 1, by omega⟩
    rw [List.drop_eq_nil_of_le (by omega), hj]; simp [chK]
  | d + 1, i, dn, s, h, hd, hv, hb => by
    have e : wrap64 ((i : Int) + 1) = ((i + 1 : Nat) : Int) := by rw [w64 (by omega)]; omega
    obtain ⟨j, hj⟩ : ∃ j, m - dn.length = j + 1 := ⟨m - dn.length - 1, by omega⟩
    have hmap : (dn ++ [(i : Int)]).map (rd l) = dn.map (rd l) ++ [nth l i] := by simp [rd_nat]
    have hv' : ∀ x ∈ dn ++ [(i : Int)], 0 ≤ x ∧ x < (l.length : Int) := fun x hx => by
      rcases List.mem_append.1 hx with hx | hx
      · exact hv x hx
      · rw [List.mem_singleton.1 hx]; omega
    have hfl : ∀ xs : List (List Int), (xs.filter p).length ≤ xs.length := fun xs => List.length_filter_le _ _
    rw [drop_step l i (by omega), hj, chK, List.length_append] at hb
    rw [drop_step l i (by omega), hj, chK, List.filter_append]
    refine Ev.step (fun k => by rw [impl_choose_1.l0]) (Ev.pos (by omega) (Ev.pos (by omega) ?_))
    simp only [e]
    refine Ev.bind (a := (s ++ (chK (dn.map (rd l) ++ [nth l i]) (l.drop (i + 1)) j).filter p, false)) ?_ (Ev.neg (by simp) ?_)
    · refine Ev.step (fun k => by rw [impl_choose_1.f]) (Ev.ite (fun hc => ?_) (fun hc => ?_))
      · have hlen : dn.length + 1 = m := by simp at hc; omega
        have hj0 : j = 0 := by omega
        subst hj0
        refine (longest_1_ev so_ p l _ s (hp _ (by simp; omega)) hv' (by simp; omega) (by omega)).to ?_
        rw [hmap, chK]
      · have hlen : dn.length + 1 ≠ m := fun he => hc (by simp; omega)
        have hj' : m - (dn ++ [(i : Int)]).length = j := by simp; omega
        have := choose_l so_ p l m hl hm hp d (i + 1) (dn ++ [(i : Int)]) s (by omega) (by simp; omega) hv' (by rw [hmap, hj']; omega)
        rw [hmap, hj'] at this
        exact this
    · have hq := hfl (chK (dn.map (rd l) ++ [nth l i]) (l.drop (i + 1)) j)
      refine (choose_l so_ p l m hl hm hp d (i + 1) dn _ (by omega) hd hv (by simp only [List.length_append, hj]; omega)).to ?_
      rw [hj, List.append_assoc]
theorem choose_ev (so_ : Nat → List Int → Option Bool) (p : List Int → Bool) (l : List Int) (m : Nat) (hl : l.length ≤ 7) (hm : 1 ≤ m ∧ m ≤ 7) (hp : ∀ x : List Int, x.length = m → Ev (fun k => so_ k x) (p x)) : Ev (fun k => impl_choose.f (impl_longest_1.f so_ l) k (l.length : Int) (m : Int) []) ((chK [] l m).filter p) := by
  unfold impl_choose.f
  refine Ev.bind (a := ((chK [] l m).filter p, false)) ?_ (Ev.val rfl)
  refine Ev.step (fun k => by rw [impl_choose_1.f]) (Ev.neg (by simp; omega) ?_)
  have h1 := chK_count l [] m
  have h2 := pow7 hl
  exact (choose_l so_ p l m hl hm hp l.length 0 [] [] (by omega) (by simp; omega) (by simp) (by simp; omega)).to (by simp)
def cmpM : List Int → List Int → Int
  | a :: s, b :: t => if a = b then cmpM s t else if a < b then -1 else 1
  | _, _ => 0
theorem cmpM_lex : ∀ a b : List Int, cmpM a b < 0 ↔ lexL a b = true
  | [], _ => by simp [cmpM, lexL]
  | _ :: _, [] => by simp [cmpM, lexL]
  | a :: s, b :: t => by
    rw [cmpM, lexL]
    by_cases h : a = b
    · rw [if_pos h, if_pos h]; exact cmpM_lex s t
    · rw [if_neg h, if_neg h]
      by_cases c : a < b
      · simp [c]
      · simp [c]
theorem cmpCompare_is (a b : Int) : cmp_Compare_int.f a b = some (if a < b then -1 else if a > b then 1 else 0) := by
  unfold cmp_Compare_int.f cmp_isNaN_int.f
  simp
  split
  · rfl
  · split <;> rfl
theorem Compare_l (a b : List Int) (hab : a.length = b.length) (hn : a.length ≤ 1000) : ∀ d i : Nat, a.length = i + d → Ev (fun k => slices_Compare_int_int.l0 k a b a (a.length : Int) (i : Int)) (cmpM (a.drop i) (b.drop i))
  | 0, i, h => by
    refine Ev.step (fun k => by rw [slices_Compare_int_int.l0]) (Ev.neg (by omega) (Ev.neg (by omega) (Ev.val ?_)))
    rw [List.drop_eq_nil_of_le (by omega)]; simp [cmpM]
  | d + 1, i, h => by
    have e : wrap64 ((i : Int) + 1) = ((i + 1 : Nat) : Int) := by rw [w64 (by omega)]; omega
    refine Ev.step (fun k => by rw [slices_Compare_int_int.l0]) ?_
    simp only [e, rd_nat, cmpCompare_is, Option.bind_some]
    rw [drop_step a i (by omega), drop_step b i (by omega), cmpM]
    refine Ev.pos (by omega) (Ev.pos (by omega) (Ev.pos (by omega) (Ev.neg (by omega) (Ev.pos (by omega) ?_))))
    by_cases c : nth a i = nth b i
    · rw [if_pos c]
      exact Ev.pos (by rw [if_neg (by omega), if_neg (by omega)]) (Compare_l a b hab hn d (i + 1) (by omega))
    · rw [if_neg c]
      by_cases c2 : nth a i < nth b i
      · rw [if_pos c2]; exact Ev.neg (by decide) (Ev.val (by rw [if_pos c2]))
      · rw [if_neg c2, if_pos (show nth a i > nth b i by omega)]; exact Ev.neg (by decide) (Ev.val (by rw [if_neg c2]))
theorem Compare_ev (a b : List Int) (hab : a.length = b.length) (hn : a.length ≤ 1000) : Ev (fun k => slices_Compare_int_int.f k a b) (cmpM a b) := by
  unfold slices_Compare_int_int.f
  exact Compare_l a b hab hn a.length 0 (by omega)
theorem minGo_l (all : List (List Int)) (m : Nat) (hm : m ≤ 1000) (hx : ∀ x ∈ all, x.length = m) : ∀ (d i : Nat) (b : List Int), all.length = i + d → b.length = m → Ev (fun k => minGo k all d (i : Int) b) ((all.drop i).foldl lst b)
  | 0, i, b, h, hb => by
    refine Ev.congr (fun k => by rw [minGo]) (Ev.val ?_)
    rw [List.drop_eq_nil_of_le (by omega)]; rfl
  | d + 1, i, b, h, hb => by
    have er : rowOf all (i : Int) = all.getD i [] := by rw [rowOf, Int.toNat_natCast]
    have hz := hx _ (memL (show i < all.length by omega))
    refine Ev.congr (fun k => by rw [minGo]) ?_
    simp only [er]
    rw [dropL all i (by omega), List.foldl_cons]
    generalize all.getD i [] = x at hz ⊢
    have e : ((i : Int) + 1) = ((i + 1 : Nat) : Int) := by omega
    simp only [e]
    refine Ev.bind (Compare_ev x b (by omega) (by omega)) (Ev.ite (fun hc => ?_) (fun hc => ?_))
    · rw [lst, if_pos ((cmpM_lex _ _).1 hc)]; exact minGo_l all m hm hx d (i + 1) x (by omega) hz
    · rw [lst, if_neg (fun h_ => hc ((cmpM_lex _ _).2 h_))]; exact minGo_l all m hm hx d (i + 1) b (by omega) hb
theorem lgGo_l (so_ : Nat → List Int → Option Bool) (p : List Int → Bool) (l : List Int) (hl : l.length ≤ 7) (hp : ∀ x : List Int, 1 ≤ x.length → x.length ≤ 7 → Ev (fun k => so_ k x) (p x)) : ∀ m : Nat, m ≤ l.length → Ev (fun k => lgGo so_ k l m (m : Int)) (loM p l m)
  | 0, _ => by rw [loM]; exact Ev.congr (fun k => by rw [lgGo]) (Ev.val rfl)
  | m + 1, hm => by
    refine Ev.congr (fun k => by rw [lgGo]) ?_
    refine Ev.bind (choose_ev so_ p l (m + 1) hl (by omega) (fun x hx => hp x (by omega) (by omega))) ?_
    have hc := chK_count l [] (m + 1)
    have hf : ((chK [] l (m + 1)).filter p).length ≤ (chK [] l (m + 1)).length := List.length_filter_le _ _
    have h2 := pow7 hl
    have hx : ∀ x ∈ (chK [] l (m + 1)).filter p, x.length = m + 1 := fun x hx => by
      have := chK_len l [] (m + 1) x (List.mem_filter.1 hx).1; simpa using this
    rw [loM]
    generalize (chK [] l (m + 1)).filter p = xs at hf hx ⊢
    cases xs with
    | nil =>
      refine Ev.neg (by simp) ?_
      have e : (((m + 1 : Nat) : Int) - 1) = (m : Int) := by omega
      simp only [e]
      exact lgGo_l so_ p l hl hp m (by omega)
    | cons x xs =>
      refine Ev.pos (by simp) ?_
      unfold slices_MinFunc_int_int.f
      refine Ev.pos (by simp at hf ⊢; omega) ?_
      exact (minGo_l (x :: xs) (m + 1) (by omega) hx xs.length 1 x (by simp; omega) (hx x List.mem_cons_self)).to (by simp)

def loOk (l : List Int) : Bool := (riG false [] l).foldl bst [] == loM (fun x => sortedB x.reverse (x.reverse.length - 1)) l l.length

set_option maxRecDepth 100000 in
set_option maxHeartbeats 100000000 in
theorem lo_all_6 : ∀ n ∈ [1, 2, 3, 4, 5, 6], allO (intsTo n) loOk n [] = true := by decide +kernel
set_option maxRecDepth 100000 in
set_option maxHeartbeats 100000000 in
theorem lo_all_71 : allO (intsTo 7) loOk 6 [1] = true := by decide +kernel
set_option maxRecDepth 100000 in
set_option maxHeartbeats 100000000 in
theorem lo_all_72 : allO (intsTo 7) loOk 6 [2] = true := by decide +kernel
set_option maxRecDepth 100000 in
set_option maxHeartbeats 100000000 in
theorem lo_all_73 : allO (intsTo 7) loOk 6 [3] = true := by decide +kernel
set_option maxRecDepth 100000 in
set_option maxHeartbeats 100000000 in
theorem lo_all_74 : allO (intsTo 7) loOk 6 [4] = true := by decide +kernel
set_option maxRecDepth 100000 in
set_option maxHeartbeats 100000000 in
theorem lo_all_75 : allO (intsTo 7) loOk 6 [5] = true := by decide +kernel
set_option maxRecDepth 100000 in
set_option maxHeartbeats 100000000 in
theorem lo_all_76 : allO (intsTo 7) loOk 6 [6] = true := by decide +kernel
set_option maxRecDepth 100000 in
set_option maxHeartbeats 100000000 in
theorem lo_all_77 : allO (intsTo 7) loOk 6 [7] = true := by decide +kernel
theorem lo_all : ∀ n ∈ [1, 2, 3, 4, 5, 6, 7], allO (intsTo n) loOk n [] = true := by
  intro n hn
  by_cases h7 : n = 7
  · subst h7
    rw [allO]
    simp only [show intsTo 7 = [1, 2, 3, 4, 5, 6, 7] from rfl, List.all_cons, List.all_nil, List.contains_nil, Bool.false_or, Bool.and_true, Bool.and_eq_true]
    exact ⟨lo_all_71, lo_all_72, lo_all_73, lo_all_74, lo_all_75, lo_all_76, lo_all_77⟩
  · exact lo_all_6 n (by simp at hn ⊢; omega)

theorem loKey {l : List Int} (h : isOrd l = true) : (riG false [] l).foldl bst [] = loM (fun x => sortedB x.reverse (x.reverse.length - 1)) l l.length := by
  have := orders_all h _ lo_all
  simpa [loOk] using this
def resLongestFall (l : List Int) : List Int × Bool := if isOrd l = true then ((riG false [] l).foldl bst [], true) else ([], false)
theorem resLongestFall_length (l : List Int) : (resLongestFall l).1.length ≤ l.length := by
  unfold resLongestFall
  split
  · refine bst_le _ _ _ (by simp) (fun x hx => ?_)
    have := riG_len false l [] x hx; simpa using this
  · simp
theorem specLongestFall_ev (l : List Int) (hn : l.length ≤ 17592186044415) : Ev (fun k => spec_LongestFall.f k l) (resLongestFall l) := by
  unfold spec_LongestFall.f
  refine Ev.bind (l2Order_ev l (by omega)) (Ev.ite (fun hc => ?_) (fun hc => Ev.val ?_))
  · exact Ev.bind (l5Longest_ev false l (isOrd_len hc).2) (Ev.val (by simp [resLongestFall, hc]))
  · simp [resLongestFall, hc]
theorem implLongestFall_ev (l : List Int) (hn : l.length ≤ 17592186044415) : Ev (fun k => impl_LongestFall.f k l) (resLongestFall l) := by
  unfold impl_LongestFall.f
  refine Ev.bind (isOrder_ev l (by omega)) (Ev.ite (fun hc => ?_) (fun hc => Ev.val ?_))
  · refine Ev.bind (a := loM (fun x => sortedB x.reverse (x.reverse.length - 1)) l l.length) ?_ (Ev.val (by rw [resLongestFall, if_pos hc, loKey hc]))
    unfold impl_longest.f
    have h7 := (isOrd_len hc).2
    refine Ev.pos (by omega) (lgGo_l _ (fun x => sortedB x.reverse (x.reverse.length - 1)) l h7 (fun x h1 h2 => ?_) l.length (Nat.le_refl _))
    exact isFall_ev x (by omega) (by omega)
  · simp [resLongestFall, hc]

theorem FnExactLongestFall : laws_FnExactLongestFall.Pure := by
  intro l hm hr hw
  refine Ev.rounds (?_ : Ev (fun k => laws_FnExactLongestFall.f k l) true)
  unfold laws_FnExactLongestFall.f
  refine Ev.ite (fun _ => Ev.val rfl) (fun hc => ?_)
  have hR := resLongestFall_length l
  have hm1 : (marked 1 l.length).length ≤ 17592186044415 := by rw [marked_length]; omega
  refine Ev.bind (toIntS_ev l (by omega)) ?_
  refine Ev.bind (specLongestFall_ev l (by omega)) ?_
  refine Ev.bind (toIntS_ev l (by omega)) ?_
  refine Ev.bind (implLongestFall_ev l (by omega)) ?_
  refine Ev.bind (eqIntS_ev _ _ (by (try simp only []); omega)) ?_
  refine Ev.pos (by simp) ?_
  refine Ev.step (fun k => by rw [laws_FnExactLongestFall.j0]) ?_
  refine Ev.neg (by simp) ?_
  refine Ev.bind (toIntS_ev l (by omega)) ?_
  refine Ev.bind (eqIntS_ev l l (by omega)) (Ev.pos (by simp) ?_)
  refine Ev.bind (markIntS_ev l 1 (by omega) (by omega) (by omega)) (Ev.neg (by (try simp only []); omega) ?_)
  refine Ev.bind (eqIntS_ev _ _ (by (try simp only []); omega)) (Ev.pos (by simp) ?_)
  refine Ev.step (fun k => by rw [laws_FnExactLongestFall.j1]) ?_
  refine Ev.neg (by simp) ?_
  refine Ev.bind (markIntS_ev _ 1 (by (try simp only []); omega) (by omega) (by omega)) ?_
  refine Ev.bind (heldIntS_ev _ 1 (by (try simp only []); omega) (by omega) (by omega)) (Ev.neg (by (try simp only []); omega) (Ev.pos (by first | rfl | simp only []) ?_))
  refine Ev.bind (toIntS_ev l (by omega)) ?_
  refine Ev.bind (implLongestFall_ev l (by omega)) ?_
  refine Ev.bind (eqIntS_ev _ _ (by (try simp only []); omega)) (Ev.pos (by simp) ?_)
  refine Ev.step (fun k => by rw [laws_FnExactLongestFall.j2]) ?_
  refine Ev.neg (by simp) ?_
  exact Ev.bind (heldIntS_ev _ 1 (by (try simp only []); omega) (by omega) (by omega)) (Ev.neg (by (try simp only []); omega) (Ev.pos (by first | rfl | simp only []) (Ev.val rfl)))

end Go.Proofs.Ytnfcopikfbnheaa.Pure
