/- The program's FitsSharing returns what the reference's returns, for all arguments. -/
import Derived.Test.YtbbfgejnlfafpaaPFnExactFitsSharingx5
import Derived.Test.YtbbfgejnlfafpaaK
set_option linter.unusedVariables false
set_option linter.unusedSimpArgs false
namespace Go.Proofs.Ytbbfgejnlfafpaa.Pure
open Go.RowKit Go.Proofs.Ytbbfgejnlfafpaa.PFnExactFitsSharing Go.Proofs.YtbbfgejnlfafpaaW.PrintWords Go.Proofs.YtbbfgejnlfafpaaW.PrintLast Go.Proofs.YtbbfgejnlfafpaaW.PrintMore

theorem toIntS_l (x0 : List Int) (hn : x0.length ≤ 17592186044416) : ∀ (d i : Nat) (x3 : List Int), x3.length = x0.length → x3.take i = x0.take i → x0.length = i + d → Ev (fun k => laws_toIntS.l0 k x0 x3 i) x0
  | 0, i, x3, h1, h2, h3 => by
    refine Ev.step (fun k => by rw [laws_toIntS.l0]) ?_
    refine Ev.neg (by omega) (Ev.val ?_)
    rw [List.take_of_length_le (by omega), List.take_of_length_le (by omega)] at h2
    exact h2
  | d + 1, i, x3, h1, h2, h3 => by
    refine Ev.step (fun k => by rw [laws_toIntS.l0]) ?_
    refine Ev.pos (by omega) (Ev.pos (by omega) (Ev.pos (by omega) ?_))
    have e : wrap64 ((i : Int) + 1) = ((i + 1 : Nat) : Int) := by rw [w64 (by omega)]; omega
    simp only [e, Int.toNat_natCast]
    exact toIntS_l x0 hn d (i + 1) _ (by simpa using h1) (by rw [take_set_succ _ _ _ (by omega), h2, take_step _ _ (by omega), rd_nat]) (by omega)
theorem toIntS_ev (l : List Int) (hn : l.length ≤ 17592186044416) : Ev (fun k => laws_toIntS.f k l) l := by
  unfold laws_toIntS.f
  refine Ev.pos (by omega) (Ev.pos (by omega) ?_)
  exact toIntS_l l hn l.length 0 _ (by simp) (by simp) (by omega)

theorem eqIntS_l (a b : List Int) (hn : a.length ≤ 17592186044416) (hl : a.length = b.length) : ∀ (d i : Nat), a.length = i + d → Ev (fun k => laws_eqIntS.l0 k a b i) (decide (a.drop i = b.drop i))
  | 0, i, h => by
    refine Ev.step (fun k => by rw [laws_eqIntS.l0]) ?_
    refine Ev.neg (by omega) (Ev.val ?_)
    rw [List.drop_of_length_le (by omega), List.drop_of_length_le (by omega)]
    simp
  | d + 1, i, h => by
    refine Ev.step (fun k => by rw [laws_eqIntS.l0]) ?_
    refine Ev.pos (by omega) (Ev.pos (by omega) (Ev.pos (by omega) ?_))
    have e : wrap64 ((i : Int) + 1) = ((i + 1 : Nat) : Int) := by rw [w64 (by omega)]; omega
    simp only [e]
    rw [drop_step a i (by omega), drop_step b i (by omega)]
    refine Ev.ite (fun hc => ?_) (fun hc => Ev.val ?_)
    · have hc' : nth a i = nth b i := hc
      refine (eqIntS_l a b hn hl d (i + 1) (by omega)).to ?_
      rw [hc']
      simp
    · have hc' : ¬ nth a i = nth b i := hc
      simp [hc']
theorem eqIntS_ev (a b : List Int) (hn : a.length ≤ 17592186044416) : Ev (fun k => laws_eqIntS.f k a b) (decide (a = b)) := by
  unfold laws_eqIntS.f
  refine Ev.ite (fun hc => ?_) (fun hc => Ev.val ?_)
  · exact (eqIntS_l a b hn (by omega) a.length 0 (by omega)).to (by simp)
  · have : ¬ a = b := fun h => hc (by rw [h])
    simp [this]

theorem l1In_is (a b c : Int) : spec_l1In.f a b c = some (decide (b ≤ a ∧ a ≤ c)) := by
  unfold spec_l1In.f
  by_cases h : a ≥ b
  · rw [if_pos h]; simp [h]
  · rw [if_neg h]; simp; omega

theorem l1Has_l (l : List Int) (x : Int) (hn : l.length ≤ 17592186044416) : ∀ (d i : Nat), l.length = i + d → Ev (fun k => spec_l1Has.l0 k l x i) ((l.drop i).contains x)
  | 0, i, h => by
    refine Ev.step (fun k => by rw [spec_l1Has.l0]) ?_
    refine Ev.neg (by omega) (Ev.val ?_)
    rw [List.drop_of_length_le (by omega)]
    simp
  | d + 1, i, h => by
    refine Ev.step (fun k => by rw [spec_l1Has.l0]) ?_
    have e : wrap64 ((i : Int) + 1) = ((i + 1 : Nat) : Int) := by rw [w64 (by omega)]; omega
    simp only [e]
    rw [drop_step l i (by omega)]
    refine Ev.pos (by omega) (Ev.pos (by omega) (Ev.ite (fun hc => Ev.val ?_) (fun hc => ?_)))
    · have hc' : nth l i = x := hc
      rw [hc']; simp
    · have hc' : ¬ nth l i = x := hc
      refine (l1Has_l l x hn d (i + 1) (by omega)).to ?_
      have : ¬ x = nth l i := fun h => hc' h.symm
      rw [List.contains_cons]
      simp [this]
theorem l1Has_ev (l : List Int) (x : Int) (hn : l.length ≤ 17592186044416) : Ev (fun k => spec_l1Has.f k l x) (l.contains x) := by
  unfold spec_l1Has.f
  exact (l1Has_l l x hn l.length 0 (by omega)).to (by simp)

theorem l2Order_l (l : List Int) (hn : l.length ≤ 17592186044416) : ∀ (d i : Nat), l.length = i + d → Ev (fun k => spec_l2Order.l0 k l i) (allFrom (ordAt l) d i)
  | 0, i, h => by
    refine Ev.step (fun k => by rw [spec_l2Order.l0]) ?_
    exact Ev.neg (by omega) (Ev.val rfl)
  | d + 1, i, h => by
    refine Ev.step (fun k => by rw [spec_l2Order.l0]) ?_
    have e : wrap64 ((i : Int) + 1) = ((i + 1 : Nat) : Int) := by rw [w64 (by omega)]; omega
    simp only [e, l1In_is, Option.bind_some, rd_nat, Int.toNat_natCast, decide_eq_true_eq]
    refine Ev.pos (by omega) (Ev.pos (by omega) (Ev.ite (fun hc => Ev.pos (by omega) ?_) (fun hc => Ev.val ?_)))
    · refine Ev.bind (l1Has_ev _ _ (by simp; omega)) ?_
      refine Ev.ite (fun hb => Ev.val ?_) (fun hb => (l2Order_l l hn d (i + 1) (by omega)).to ?_)
      · rw [allFrom, ordAt, hb]; simp
      · rw [Bool.not_eq_true] at hb
        rw [allFrom, ordAt, hb]; simp [hc]
    · rw [allFrom, ordAt]
      by_cases h1 : 1 ≤ nth l i
      · have : ¬ nth l i ≤ l.length := fun h2 => hc ⟨h1, h2⟩
        simp [this]
      · simp [h1]
theorem l2Order_ev (l : List Int) (hn : l.length ≤ 17592186044416) : Ev (fun k => spec_l2Order.f k l) (isOrd l) := by
  unfold spec_l2Order.f
  simp only [l1In_is, Option.bind_some, decide_eq_true_eq]
  refine Ev.ite (fun hc => (l2Order_l l hn l.length 0 (by omega)).to ?_) (fun hc => Ev.val ?_)
  · have h1 : 1 ≤ l.length := by omega
    have h2 : l.length ≤ 7 := by omega
    simp [isOrd, h1, h2]
  · rw [isOrd]
    by_cases h1 : 1 ≤ l.length
    · have : ¬ l.length ≤ 7 := by omega
      simp [this]
    · simp [h1]

theorem Index_l (l : List Int) (x : Int) (hn : l.length ≤ 17592186044416) : ∀ (d i : Nat), l.length = i + d → (∀ j, j < i → nth l j ≠ x) → Ev (fun k => slices_Index_int_int.l0 k l x (l.length : Int) i) (idx l x)
  | 0, i, h, hq => by
    refine Ev.step (fun k => by rw [slices_Index_int_int.l0]) ?_
    refine Ev.neg (by omega) (Ev.val ?_)
    exact (idx_none l x fun j hj => hq j (by omega)).symm
  | d + 1, i, h, hq => by
    refine Ev.step (fun k => by rw [slices_Index_int_int.l0]) ?_
    have e : wrap64 ((i : Int) + 1) = ((i + 1 : Nat) : Int) := by rw [w64 (by omega)]; omega
    simp only [e]
    refine Ev.pos (by omega) (Ev.pos (by omega) (Ev.pos (by omega) (Ev.ite (fun hc => Ev.val ?_) (fun hc => ?_))))
    · exact (idx_some l x i (by omega) (by rw [hc]; rfl) hq).symm
    · refine Index_l l x hn d (i + 1) (by omega) (fun j hj => ?_)
      by_cases e : j = i
      · subst e; exact fun h => hc h.symm
      · exact hq j (by omega)
theorem Index_ev (l : List Int) (x : Int) (hn : l.length ≤ 17592186044416) : Ev (fun k => slices_Index_int_int.f k l x) (idx l x) := by
  unfold slices_Index_int_int.f
  exact Index_l l x hn l.length 0 (by omega) (fun j hj => by omega)

theorem Contains_ev (l : List Int) (x : Int) (hn : l.length ≤ 17592186044416) : Ev (fun k => slices_Contains_int_int.f k l x) (l.contains x) := by
  unfold slices_Contains_int_int.f
  exact Ev.bind (Index_ev l x hn) (Ev.val (idx_contains l x))

theorem isOrder_l (l : List Int) (hn : l.length ≤ 17592186044416) : ∀ (d i : Nat), l.length = i + d → Ev (fun k => impl_isOrder.l0 k l l (l.length : Int) i) (allFrom (ordAt l) d i)
  | 0, i, h => by
    refine Ev.step (fun k => by rw [impl_isOrder.l0]) ?_
    exact Ev.neg (by omega) (Ev.val rfl)
  | d + 1, i, h => by
    refine Ev.step (fun k => by rw [impl_isOrder.l0]) ?_
    have e : wrap64 ((i : Int) + 1) = ((i + 1 : Nat) : Int) := by rw [w64 (by omega)]; omega
    simp only [e, rd_nat, Int.toNat_natCast]
    refine Ev.pos (by omega) (Ev.pos (by omega) (Ev.pos (by omega) (Ev.ite (fun hc => Ev.val ?_) (fun hc => Ev.ite (fun hd => Ev.val ?_) (fun hd => Ev.pos (by omega) ?_)))))
    · have : ¬ 1 ≤ nth l i := by omega
      rw [allFrom, ordAt]; simp [this]
    · have : ¬ nth l i ≤ l.length := by omega
      rw [allFrom, ordAt]; simp [this]
    · refine Ev.bind (Contains_ev _ _ (by simp; omega)) ?_
      refine Ev.ite (fun hb => Ev.val ?_) (fun hb => (isOrder_l l hn d (i + 1) (by omega)).to ?_)
      · rw [allFrom, ordAt, hb]; simp
      · rw [Bool.not_eq_true] at hb
        have h1 : 1 ≤ nth l i := by omega
        have h2 : nth l i ≤ l.length := by omega
        rw [allFrom, ordAt, hb]; simp [h1, h2]
theorem isOrder_ev (l : List Int) (hn : l.length ≤ 17592186044416) : Ev (fun k => impl_isOrder.f k l) (isOrd l) := by
  unfold impl_isOrder.f
  refine Ev.ite (fun hc => ?_) (fun hc => ?_)
  · refine Ev.step (fun k => by rw [impl_isOrder.j0]) ?_
    refine Ev.pos rfl (Ev.val ?_)
    have : ¬ 1 ≤ l.length := by omega
    simp [isOrd, this]
  · refine Ev.step (fun k => by rw [impl_isOrder.j0]) ?_
    simp only [decide_eq_true_eq]
    refine Ev.ite (fun hd => Ev.val ?_) (fun hd => (isOrder_l l hn l.length 0 (by omega)).to ?_)
    · have : ¬ l.length ≤ 7 := by omega
      simp [isOrd, this]
    · have h1 : 1 ≤ l.length := by omega
      have h2 : l.length ≤ 7 := by omega
      simp [isOrd, h1, h2]

theorem IndexFunc_l (of_ : Nat → Int → Option Bool) (p : Int → Bool) (l : List Int) (hn : l.length ≤ 17592186044416) (hof : ∀ k x, x ∈ l → of_ k x = some (p x)) : ∀ (d i : Nat), l.length = i + d → Ev (fun k => slices_IndexFunc_int_int.l0 of_ k l (l.length : Int) i) (if idxF p (l.drop i) < 0 then -1 else idxF p (l.drop i) + i)
  | 0, i, h => by
    refine Ev.step (fun k => by rw [slices_IndexFunc_int_int.l0]) ?_
    refine Ev.neg (by omega) (Ev.val ?_)
    rw [List.drop_of_length_le (by omega)]; rfl
  | d + 1, i, h => by
    refine Ev.step (fun k => by rw [slices_IndexFunc_int_int.l0]) ?_
    have e : wrap64 ((i : Int) + 1) = ((i + 1 : Nat) : Int) := by rw [w64 (by omega)]; omega
    have hm : nth l i ∈ l := by rw [nth_lt l i (by omega)]; exact List.getElem_mem _
    have hq : ∀ k, of_ k (nth l i) = some (p (nth l i)) := fun k => hof k _ hm
    simp only [e, rd_nat, hq, Option.bind_some]
    rw [drop_step l i (by omega)]
    have hg := idxF_ge p (l.drop (i + 1))
    refine Ev.pos (by omega) (Ev.pos (by omega) (Ev.pos (by omega) (Ev.ite (fun hc => Ev.val ?_) (fun hc => ?_))))
    · simp [idxF, hc]
    · refine (IndexFunc_l of_ p l hn hof d (i + 1) (by omega)).to ?_
      simp only [idxF, if_neg hc]
      split
      · simp
      · rw [if_neg (by omega)]; omega
theorem ContainsFunc_ev (of_ : Nat → Int → Option Bool) (p : Int → Bool) (l : List Int) (s : ByteArray) (hn : l.length ≤ 17592186044416) (hof : ∀ k x, x ∈ l → of_ k x = some (p x)) : Ev (fun k => slices_ContainsFunc_int_int.f of_ k l s) (l.any p) := by
  unfold slices_ContainsFunc_int_int.f slices_IndexFunc_int_int.f
  refine Ev.bind (IndexFunc_l of_ p l hn hof l.length 0 (by omega)) (Ev.val ?_)
  rw [← idxF_any p l, List.drop_zero]
  have hg := idxF_ge p l
  by_cases h : idxF p l < 0
  · have : ¬ 0 ≤ idxF p l := by omega
    simp [h, this]
  · have h1 : 0 ≤ idxF p l := by omega
    simp [h, h1]

/-! sharings -/
def badStack (x : Int) : Bool := decide (x < 0) || decide (4 ≤ x)
def isShar (l0 l1 : List Int) : Bool := isOrd l0 && (decide (l1.length = l0.length) && !l1.any badStack)
theorem l7Sharing_l (l0 l : List Int) (hn : l.length ≤ 17592186044416) : ∀ (d i : Nat), l.length = i + d → Ev (fun k => spec_l7Sharing.l0 k l i) (!(l.drop i).any badStack)
  | 0, i, h => by
    refine Ev.step (fun k => by rw [spec_l7Sharing.l0]) ?_
    refine Ev.neg (by omega) (Ev.val ?_)
    rw [List.drop_of_length_le (by omega)]; rfl
  | d + 1, i, h => by
    refine Ev.step (fun k => by rw [spec_l7Sharing.l0]) ?_
    have e : wrap64 ((i : Int) + 1) = ((i + 1 : Nat) : Int) := by rw [w64 (by omega)]; omega
    simp only [e, l1In_is, Option.bind_some, rd_nat, decide_eq_true_eq]
    rw [drop_step l i (by omega), List.any_cons]
    refine Ev.pos (by omega) (Ev.pos (by omega) (Ev.ite (fun hc => ?_) (fun hc => Ev.val ?_)))
    · have hb : badStack (nth l i) = false := by simp [badStack]; omega
      rw [hb, Bool.false_or]
      exact l7Sharing_l l0 l hn d (i + 1) (by omega)
    · have hb : badStack (nth l i) = true := by
        simp only [badStack, Bool.or_eq_true, decide_eq_true_eq]; omega
      rw [hb]; rfl
theorem specIsSharing_ev (l0 l1 : List Int) (hn0 : l0.length ≤ 17592186044415) (hn1 : l1.length ≤ 17592186044415) : Ev (fun k => spec_l7Sharing.f k l0 l1) (isShar l0 l1) := by
  have hj : ∀ b : Bool, Ev (fun k => spec_l7Sharing.j0 k l1 b) (!b && !l1.any badStack) := by
    intro b
    refine Ev.step (fun k => by rw [spec_l7Sharing.j0]) ?_
    refine Ev.ite (fun hc => Ev.val ?_) (fun hc => (l7Sharing_l l0 l1 (by omega) l1.length 0 (by omega)).to ?_)
    · simp [hc]
    · simp [hc]
  unfold spec_l7Sharing.f
  refine Ev.bind (l2Order_ev l0 (by omega)) (Ev.ite (fun hc => (hj _).to ?_) (fun hc => (hj _).to ?_))
  · by_cases e : l1.length = l0.length
    · simp [isShar, hc, e]
    · have e' : ¬ (l1.length : Int) = l0.length := by omega
      simp [isShar, e, e']
  · rw [Bool.not_eq_true] at hc
    simp [isShar, hc]
theorem isSharing_1_is (x : Int) : impl_isSharing_1.f x = some (badStack x) := by
  unfold impl_isSharing_1.f badStack
  by_cases h : x < 0
  · rw [if_pos h]; simp [h]
  · rw [if_neg h]; simp [h]
theorem implIsSharing_ev (l0 l1 : List Int) (hn0 : l0.length ≤ 17592186044415) (hn1 : l1.length ≤ 17592186044415) : Ev (fun k => impl_isSharing.f k l0 l1) (isShar l0 l1) := by
  unfold impl_isSharing.f
  refine Ev.bind (isOrder_ev l0 (by omega)) (Ev.ite (fun hc => Ev.ite (fun hd => ?_) (fun hd => Ev.val ?_)) (fun hc => Ev.val ?_))
  · refine Ev.bind (ContainsFunc_ev _ badStack l1 _ (by omega) (fun k x _ => isSharing_1_is x)) (Ev.val ?_)
    have : l1.length = l0.length := by omega
    simp [isShar, hc, this]
  · have : ¬ l1.length = l0.length := by omega
    simp [isShar, this]
  · rw [Bool.not_eq_true] at hc
    simp [isShar, hc]

/-! conflicts -/
theorem isOrd_ne2 {l : List Int} (h : isOrd l = true) (i j : Nat) (h0 : i < j) (hi : j < l.length) : nth l i ≠ nth l j := by
  intro e
  refine (isOrd_at h j hi).2.2 ?_
  rw [← e, nth_lt l i (by omega), List.mem_take_iff_getElem]
  exact ⟨i, by omega, rfl⟩
def lessThan (n x : Int) : Bool := decide (x < n)
def conf (l : List Int) (i j : Nat) : Bool := decide (nth l i < nth l j) && (l.drop (j + 1)).any (lessThan (nth l i))
theorem l7Conflict_l (l : List Int) (hn : l.length ≤ 1000) (i : Nat) (hi : i < l.length) : ∀ (d j : Nat), l.length = j + d → Ev (fun k => spec_l7Conflict.l0 k l i j) ((l.drop j).any (lessThan (nth l i)))
  | 0, j, h => by
    refine Ev.step (fun k => by rw [spec_l7Conflict.l0]) ?_
    refine Ev.neg (by omega) (Ev.val ?_)
    rw [List.drop_of_length_le (by omega)]; rfl
  | d + 1, j, h => by
    refine Ev.step (fun k => by rw [spec_l7Conflict.l0]) ?_
    have e : wrap64 ((j : Int) + 1) = ((j + 1 : Nat) : Int) := by rw [w64 (by omega)]; omega
    simp only [e, rd_nat]
    rw [drop_step l j (by omega), List.any_cons]
    refine Ev.pos (by omega) (Ev.pos (by omega) (Ev.pos (by omega) (Ev.pos (by omega) (Ev.ite (fun hc => Ev.val ?_) (fun hc => ?_)))))
    · simp [lessThan, hc]
    · have hb : lessThan (nth l i) (nth l j) = false := by simp [lessThan]; omega
      rw [hb, Bool.false_or]
      exact l7Conflict_l l hn i hi d (j + 1) (by omega)
theorem specConflict_ev (l : List Int) (ho : isOrd l = true) (i j : Nat) (hij : i < j) (hj : j < l.length) : Ev (fun k => spec_l7Conflict.f k l i j) (conf l i j) := by
  have hl := isOrd_len ho
  have hne := isOrd_ne2 ho i j hij hj
  unfold spec_l7Conflict.f
  have e : wrap64 ((j : Int) + 1) = ((j + 1 : Nat) : Int) := by rw [w64 (by omega)]; omega
  simp only [e, rd_nat]
  refine Ev.pos (by omega) (Ev.pos (by omega) (Ev.pos (by omega) (Ev.pos (by omega) (Ev.ite (fun hc => Ev.val ?_) (fun hc => ?_)))))
  · have : ¬ nth l i < nth l j := by omega
    simp [conf, this]
  · have h1 : nth l i < nth l j := by omega
    refine (l7Conflict_l l (by omega) i (by omega) (l.length - (j + 1)) (j + 1) (by omega)).to ?_
    simp [conf, h1]
theorem implConflict_ev (l : List Int) (ho : isOrd l = true) (i j : Nat) (hij : i < j) (hj : j < l.length) : Ev (fun k => impl_isConflict.f k l i j) (conf l i j) := by
  have hl := isOrd_len ho
  unfold impl_isConflict.f
  have e : wrap64 ((j : Int) + 1) = ((j + 1 : Nat) : Int) := by rw [w64 (by omega)]; omega
  simp only [e, rd_nat, Int.toNat_natCast]
  refine Ev.pos (by omega) (Ev.pos (by omega) (Ev.pos (by omega) (Ev.pos (by omega) (Ev.ite (fun hc => Ev.pos (by omega) (Ev.pos (by omega) ?_)) (fun hc => Ev.val ?_)))))
  · refine Ev.bind (ContainsFunc_ev _ (lessThan (nth l i)) _ _ (by simp; omega) (fun k x _ => ?_)) (Ev.val ?_)
    · unfold impl_isConflict_1.f
      rw [if_pos (by omega), if_pos (by omega)]
      rfl
    · have h1 : nth l i < nth l j := by omega
      simp [conf, h1]
  · have : ¬ nth l i < nth l j := by omega
    simp [conf, this]
def mayB (l s : List Int) (j : Nat) (x : Int) : Bool := allFrom (fun i => !(decide (nth s i = x) && conf l i j)) j 0
theorem mayBe_l (l s : List Int) (ho : isOrd l = true) (j : Nat) (hj : j < l.length) (hs : j ≤ s.length) (x : Int) : ∀ (d i : Nat), j = i + d → Ev (fun k => impl_mayBe.l0 k l s j x j i) (allFrom (fun i => !(decide (nth s i = x) && conf l i j)) d i)
  | 0, i, h => by
    refine Ev.step (fun k => by rw [impl_mayBe.l0]) ?_
    exact Ev.neg (by omega) (Ev.val rfl)
  | d + 1, i, h => by
    have hl := isOrd_len ho
    refine Ev.step (fun k => by rw [impl_mayBe.l0]) ?_
    have e : wrap64 ((i : Int) + 1) = ((i + 1 : Nat) : Int) := by rw [w64 (by omega)]; omega
    simp only [e, rd_nat, allFrom]
    refine Ev.pos (by omega) (Ev.pos (by omega) (Ev.pos (by omega) (Ev.ite (fun hc => ?_) (fun hc => ?_))))
    · refine Ev.bind (implConflict_ev l ho i j (by omega) hj) (Ev.ite (fun hd => Ev.val ?_) (fun hd => (mayBe_l l s ho j hj hs x d (i + 1) (by omega)).to ?_))
      · simp [hc, hd]
      · rw [Bool.not_eq_true] at hd; simp [hd]
    · refine (mayBe_l l s ho j hj hs x d (i + 1) (by omega)).to ?_
      simp [hc]
theorem mayBe_ev (l s : List Int) (ho : isOrd l = true) (j : Nat) (hj : j < l.length) (hs : j ≤ s.length) (x : Int) : Ev (fun k => impl_mayBe.f k l s j x) (mayB l s j x) := by
  unfold impl_mayBe.f
  exact mayBe_l l s ho j hj hs x j 0 (by omega)
def fits (l s : List Int) : Bool := allFrom (fun j => mayB l s j (nth s j)) s.length 0
theorem l7Fits_l1 (l s : List Int) (ho : isOrd l = true) (j : Nat) (hj : j < s.length) (hs : s.length ≤ l.length) (r : Bool) (hr : Ev (fun k => spec_l7Fits.l0 k l s ((j + 1 : Nat) : Int)) r) : ∀ (d i : Nat), j = i + d → Ev (fun k => spec_l7Fits.l1 k l s j i) (allFrom (fun i => !(decide (nth s i = nth s j) && conf l i j)) d i && r)
  | 0, i, h => by
    have hl := isOrd_len ho
    refine Ev.step (fun k => by rw [spec_l7Fits.l1]) ?_
    have e : wrap64 ((j : Int) + 1) = ((j + 1 : Nat) : Int) := by rw [w64 (by omega)]; omega
    simp only [e]
    exact Ev.neg (by omega) (hr.to (by simp [allFrom]))
  | d + 1, i, h => by
    have hl := isOrd_len ho
    refine Ev.step (fun k => by rw [spec_l7Fits.l1]) ?_
    have e : wrap64 ((i : Int) + 1) = ((i + 1 : Nat) : Int) := by rw [w64 (by omega)]; omega
    simp only [e, rd_nat, allFrom]
    refine Ev.pos (by omega) (Ev.pos (by omega) (Ev.pos (by omega) (Ev.pos (by omega) (Ev.pos (by omega) (Ev.ite (fun hc => ?_) (fun hc => ?_))))))
    · refine Ev.bind (specConflict_ev l ho i j (by omega) (by omega)) (Ev.ite (fun hd => Ev.val ?_) (fun hd => (l7Fits_l1 l s ho j hj hs r hr d (i + 1) (by omega)).to ?_))
      · simp [hc, hd]
      · rw [Bool.not_eq_true] at hd; simp [hd]
    · refine (l7Fits_l1 l s ho j hj hs r hr d (i + 1) (by omega)).to ?_
      simp [hc]
theorem l7Fits_l (l s : List Int) (ho : isOrd l = true) (hs : s.length ≤ l.length) : ∀ (d j : Nat), s.length = j + d → Ev (fun k => spec_l7Fits.l0 k l s j) (allFrom (fun j => mayB l s j (nth s j)) d j)
  | 0, j, h => by
    refine Ev.step (fun k => by rw [spec_l7Fits.l0]) ?_
    exact Ev.neg (by omega) (Ev.val rfl)
  | d + 1, j, h => by
    refine Ev.step (fun k => by rw [spec_l7Fits.l0]) ?_
    refine Ev.pos (by omega) ?_
    exact l7Fits_l1 l s ho j (by omega) hs _ (l7Fits_l l s ho hs d (j + 1) (by omega)) j 0 (by omega)
theorem l7Fits_ev (l s : List Int) (ho : isOrd l = true) (hs : s.length ≤ l.length) : Ev (fun k => spec_l7Fits.f k l s) (fits l s) := by
  unfold spec_l7Fits.f
  exact l7Fits_l l s ho hs s.length 0 (by omega)

theorem isShar_of {l0 l1 : List Int} (h : isShar l0 l1 = true) : isOrd l0 = true ∧ l1.length = l0.length := by
  simp only [isShar, Bool.and_eq_true, decide_eq_true_eq] at h
  exact ⟨h.1, h.2.1⟩
def resFits (l0 l1 : List Int) : Bool × Bool := if isShar l0 l1 then (fits l0 l1, true) else (false, false)
theorem specFits_ev (l0 l1 : List Int) (hn0 : l0.length ≤ 17592186044415) (hn1 : l1.length ≤ 17592186044415) : Ev (fun k => spec_FitsSharing.f k l0 l1) (resFits l0 l1) := by
  unfold spec_FitsSharing.f
  refine Ev.bind (specIsSharing_ev l0 l1 hn0 hn1) (Ev.ite (fun hc => ?_) (fun hc => Ev.val ?_))
  · obtain ⟨ho, hl⟩ := isShar_of hc
    exact Ev.bind (l7Fits_ev l0 l1 ho (by omega)) (Ev.val (by simp [resFits, hc]))
  · simp [resFits, hc]
theorem implFits_l (l s : List Int) (ho : isOrd l = true) (hs : s.length = l.length) : ∀ (d j : Nat), s.length = j + d → Ev (fun k => impl_FitsSharing.l0 k l s s (s.length : Int) j) (allFrom (fun j => mayB l s j (nth s j)) d j, true)
  | 0, j, h => by
    refine Ev.step (fun k => by rw [impl_FitsSharing.l0]) ?_
    exact Ev.neg (by omega) (Ev.val rfl)
  | d + 1, j, h => by
    have hl := isOrd_len ho
    refine Ev.step (fun k => by rw [impl_FitsSharing.l0]) ?_
    have e : wrap64 ((j : Int) + 1) = ((j + 1 : Nat) : Int) := by rw [w64 (by omega)]; omega
    simp only [e, rd_nat, allFrom]
    refine Ev.pos (by omega) (Ev.pos (by omega) (Ev.pos (by omega) (Ev.bind (mayBe_ev l s ho j (by omega) (by omega) _) (Ev.ite (fun hd => ?_) (fun hd => Ev.val ?_)))))
    · exact (implFits_l l s ho hs d (j + 1) (by omega)).to (by simp [hd])
    · simp [hd]
theorem implFits_ev (l0 l1 : List Int) (hn0 : l0.length ≤ 17592186044415) (hn1 : l1.length ≤ 17592186044415) : Ev (fun k => impl_FitsSharing.f k l0 l1) (resFits l0 l1) := by
  unfold impl_FitsSharing.f
  refine Ev.bind (implIsSharing_ev l0 l1 hn0 hn1) (Ev.ite (fun hc => ?_) (fun hc => Ev.val ?_))
  · obtain ⟨ho, hl⟩ := isShar_of hc
    exact (implFits_l l0 l1 ho hl l1.length 0 (by omega)).to (by simp [resFits, hc, fits])
  · simp [resFits, hc]
theorem FnExactFitsSharing : laws_FnExactFitsSharing.Pure := by
  intro l0 l1 hm0 hr0 hw0 hm1 hr1 hw1
  refine Ev.rounds (?_ : Ev (fun k => laws_FnExactFitsSharing.f k l0 l1) true)
  unfold laws_FnExactFitsSharing.f
  refine Ev.ite (fun _ => Ev.val rfl) (fun hc => ?_)
  refine Ev.ite (fun _ => Ev.val rfl) (fun hd => ?_)
  refine Ev.bind (toIntS_ev l0 (by omega)) ?_
  refine Ev.bind (toIntS_ev l1 (by omega)) ?_
  refine Ev.bind (specFits_ev l0 l1 (by omega) (by omega)) ?_
  refine Ev.bind (toIntS_ev l0 (by omega)) ?_
  refine Ev.bind (toIntS_ev l1 (by omega)) ?_
  refine Ev.bind (implFits_ev l0 l1 (by omega) (by omega)) ?_
  refine Ev.neg (by simp) ?_
  refine Ev.step (fun k => by rw [laws_FnExactFitsSharing.j0]) ?_
  refine Ev.neg (by simp) ?_
  refine Ev.bind (toIntS_ev l0 (by omega)) ?_
  refine Ev.bind (eqIntS_ev l0 l0 (by omega)) ?_
  refine Ev.pos (by simp) ?_
  refine Ev.bind (toIntS_ev l1 (by omega)) ?_
  refine Ev.bind (eqIntS_ev l1 l1 (by omega)) ?_
  exact Ev.pos (by simp) (Ev.val rfl)

end Go.Proofs.Ytbbfgejnlfafpaa.Pure
