/- The program's CountSharings returns what the reference's returns, for all arguments. -/
import Derived.Test.YtbbfgejnlfafpaaPFnExactCountSharingsx6
import Derived.Test.YtbbfgejnlfafpaaK
set_option linter.unusedVariables false
set_option linter.unusedSimpArgs false
namespace Go.Proofs.Ytbbfgejnlfafpaa.Pure
open Go.RowKit Go.Proofs.Ytbbfgejnlfafpaa.PFnExactCountSharings Go.Proofs.YtbbfgejnlfafpaaW.PrintWords Go.Proofs.YtbbfgejnlfafpaaW.PrintLast Go.Proofs.YtbbfgejnlfafpaaW.PrintMore

theorem toIntS_l (x0 : List Int) (hn : x0.length ≤ 17592186044416) : ∀ (d i : Nat) (x3 : List Int), x3.length = x0.length → x3.take i = x0.take i → x0.length = i + d → Ev (fun k => laws_toIntS.l0 k x0 x3 i) x0
  | 0, i, x3, h1, h2, h3 => by
    refine Ev.step (fun k => by rw [laws_toIntS.l0]) ?_
    refine Ev.neg (by omega) (Ev.val ?_)
    rw [List.take_of_length_le (by omega), List.take_of_length_le (by omega)] at h2
    exact h2
  | d + 1, i, x3, h1, h2, h3 => by
    refine Ev.step (fun k => by rw [laws_toIntS.l0]) ?_
    refine Ev.pos (by omega) (Ev.pos (by omega) (Ev.pos (by omega) ?_))
    have e : wrap64 ((i : Int) + 1) = ((i + 1 : Nat) : Int) := by rw [w64 (by omega)]; omega
    simp only [e, Int.toNat_natCast]
    exact toIntS_l x0 hn d (i + 1) _ (by simpa using h1) (by rw [take_set_succ _ _ _ (by omega), h2, take_step _ _ (by omega), rd_nat]) (by omega)
theorem toIntS_ev (l : List Int) (hn : l.length ≤ 17592186044416) : Ev (fun k => laws_toIntS.f k l) l := by
  unfold laws_toIntS.f
  refine Ev.pos (by omega) (Ev.pos (by omega) ?_)
  exact toIntS_l l hn l.length 0 _ (by simp) (by simp) (by omega)

theorem eqIntS_l (a b : List Int) (hn : a.length ≤ 17592186044416) (hl : a.length = b.length) : ∀ (d i : Nat), a.length = i + d → Ev (fun k => laws_eqIntS.l0 k a b i) (decide (a.drop i = b.drop i))
  | 0, i, h => by
    refine Ev.step (fun k => by rw [laws_eqIntS.l0]) ?_
    refine Ev.neg (by omega) (Ev.val ?_)
    rw [List.drop_of_length_le (by omega), List.drop_of_length_le (by omega)]
    simp
  | d + 1, i, h => by
    refine Ev.step (fun k => by rw [laws_eqIntS.l0]) ?_
    refine Ev.pos (by omega) (Ev.pos (by omega) (Ev.pos (by omega) ?_))
    have e : wrap64 ((i : Int) + 1) = ((i + 1 : Nat) : Int) := by rw [w64 (by omega)]; omega
    simp only [e]
    rw [drop_step a i (by omega), drop_step b i (by omega)]
    refine Ev.ite (fun hc => ?_) (fun hc => Ev.val ?_)
    · have hc' : nth a i = nth b i := hc
      refine (eqIntS_l a b hn hl d (i + 1) (by omega)).to ?_
      rw [hc']
      simp
    · have hc' : ¬ nth a i = nth b i := hc
      simp [hc']
theorem eqIntS_ev (a b : List Int) (hn : a.length ≤ 17592186044416) : Ev (fun k => laws_eqIntS.f k a b) (decide (a = b)) := by
  unfold laws_eqIntS.f
  refine Ev.ite (fun hc => ?_) (fun hc => Ev.val ?_)
  · exact (eqIntS_l a b hn (by omega) a.length 0 (by omega)).to (by simp)
  · have : ¬ a = b := fun h => hc (by rw [h])
    simp [this]

theorem l1In_is (a b c : Int) : spec_l1In.f a b c = some (decide (b ≤ a ∧ a ≤ c)) := by
  unfold spec_l1In.f
  by_cases h : a ≥ b
  · rw [if_pos h]; simp [h]
  · rw [if_neg h]; simp; omega

theorem l1Has_l (l : List Int) (x : Int) (hn : l.length ≤ 17592186044416) : ∀ (d i : Nat), l.length = i + d → Ev (fun k => spec_l1Has.l0 k l x i) ((l.drop i).contains x)
  | 0, i, h => by
    refine Ev.step (fun k => by rw [spec_l1Has.l0]) ?_
    refine Ev.neg (by omega) (Ev.val ?_)
    rw [List.drop_of_length_le (by omega)]
    simp
  | d + 1, i, h => by
    refine Ev.step (fun k => by rw [spec_l1Has.l0]) ?_
    have e : wrap64 ((i : Int) + 1) = ((i + 1 : Nat) : Int) := by rw [w64 (by omega)]; omega
    simp only [e]
    rw [drop_step l i (by omega)]
    refine Ev.pos (by omega) (Ev.pos (by omega) (Ev.ite (fun hc => Ev.val ?_) (fun hc => ?_)))
    · have hc' : nth l i = x := hc
      rw [hc']; simp
    · have hc' : ¬ nth l i = x := hc
      refine (l1Has_l l x hn d (i + 1) (by omega)).to ?_
      have : ¬ x = nth l i := fun h => hc' h.symm
      rw [List.contains_cons]
      simp [this]
theorem l1Has_ev (l : List Int) (x : Int) (hn : l.length ≤ 17592186044416) : Ev (fun k => spec_l1Has.f k l x) (l.contains x) := by
  unfold spec_l1Has.f
  exact (l1Has_l l x hn l.length 0 (by omega)).to (by simp)

theorem l2Order_l (l : List Int) (hn : l.length ≤ 17592186044416) : ∀ (d i : Nat), l.length = i + d → Ev (fun k => spec_l2Order.l0 k l i) (allFrom (ordAt l) d i)
  | 0, i, h => by
    refine Ev.step (fun k => by rw [spec_l2Order.l0]) ?_
    exact Ev.neg (by omega) (Ev.val rfl)
  | d + 1, i, h => by
    refine Ev.step (fun k => by rw [spec_l2Order.l0]) ?_
    have e : wrap64 ((i : Int) + 1) = ((i + 1 : Nat) : Int) := by rw [w64 (by omega)]; omega
    simp only [e, l1In_is, Option.bind_some, rd_nat, Int.toNat_natCast, decide_eq_true_eq]
    refine Ev.pos (by omega) (Ev.pos (by omega) (Ev.ite (fun hc => Ev.pos (by omega) ?_) (fun hc => Ev.val ?_)))
    · refine Ev.bind (l1Has_ev _ _ (by simp; omega)) ?_
      refine Ev.ite (fun hb => Ev.val ?_) (fun hb => (l2Order_l l hn d (i + 1) (by omega)).to ?_)
      · rw [allFrom, ordAt, hb]; simp
      · rw [Bool.not_eq_true] at hb
        rw [allFrom, ordAt, hb]; simp [hc]
    · rw [allFrom, ordAt]
      by_cases h1 : 1 ≤ nth l i
      · have : ¬ nth l i ≤ l.length := fun h2 => hc ⟨h1, h2⟩
        simp [this]
      · simp [h1]
theorem l2Order_ev (l : List Int) (hn : l.length ≤ 17592186044416) : Ev (fun k => spec_l2Order.f k l) (isOrd l) := by
  unfold spec_l2Order.f
  simp only [l1In_is, Option.bind_some, decide_eq_true_eq]
  refine Ev.ite (fun hc => (l2Order_l l hn l.length 0 (by omega)).to ?_) (fun hc => Ev.val ?_)
  · have h1 : 1 ≤ l.length := by omega
    have h2 : l.length ≤ 7 := by omega
    simp [isOrd, h1, h2]
  · rw [isOrd]
    by_cases h1 : 1 ≤ l.length
    · have : ¬ l.length ≤ 7 := by omega
      simp [this]
    · simp [h1]

theorem Index_l (l : List Int) (x : Int) (hn : l.length ≤ 17592186044416) : ∀ (d i : Nat), l.length = i + d → (∀ j, j < i → nth l j ≠ x) → Ev (fun k => slices_Index_int_int.l0 k l x (l.length : Int) i) (idx l x)
  | 0, i, h, hq => by
    refine Ev.step (fun k => by rw [slices_Index_int_int.l0]) ?_
    refine Ev.neg (by omega) (Ev.val ?_)
    exact (idx_none l x fun j hj => hq j (by omega)).symm
  | d + 1, i, h, hq => by
    refine Ev.step (fun k => by rw [slices_Index_int_int.l0]) ?_
    have e : wrap64 ((i : Int) + 1) = ((i + 1 : Nat) : Int) := by rw [w64 (by omega)]; omega
    simp only [e]
    refine Ev.pos (by omega) (Ev.pos (by omega) (Ev.pos (by omega) (Ev.ite (fun hc => Ev.val ?_) (fun hc => ?_))))
    · exact (idx_some l x i (by omega) (by rw [hc]; rfl) hq).symm
    · refine Index_l l x hn d (i + 1) (by omega) (fun j hj => ?_)
      by_cases e : j = i
      · subst e; exact fun h => hc h.symm
      · exact hq j (by omega)
theorem Index_ev (l : List Int) (x : Int) (hn : l.length ≤ 17592186044416) : Ev (fun k => slices_Index_int_int.f k l x) (idx l x) := by
  unfold slices_Index_int_int.f
  exact Index_l l x hn l.length 0 (by omega) (fun j hj => by omega)

theorem Contains_ev (l : List Int) (x : Int) (hn : l.length ≤ 17592186044416) : Ev (fun k => slices_Contains_int_int.f k l x) (l.contains x) := by
  unfold slices_Contains_int_int.f
  exact Ev.bind (Index_ev l x hn) (Ev.val (idx_contains l x))

theorem isOrder_l (l : List Int) (hn : l.length ≤ 17592186044416) : ∀ (d i : Nat), l.length = i + d → Ev (fun k => impl_isOrder.l0 k l l (l.length : Int) i) (allFrom (ordAt l) d i)
  | 0, i, h => by
    refine Ev.step (fun k => by rw [impl_isOrder.l0]) ?_
    exact Ev.neg (by omega) (Ev.val rfl)
  | d + 1, i, h => by
    refine Ev.step (fun k => by rw [impl_isOrder.l0]) ?_
    have e : wrap64 ((i : Int) + 1) = ((i + 1 : Nat) : Int) := by rw [w64 (by omega)]; omega
    simp only [e, rd_nat, Int.toNat_natCast]
    refine Ev.pos (by omega) (Ev.pos (by omega) (Ev.pos (by omega) (Ev.ite (fun hc => Ev.val ?_) (fun hc => Ev.ite (fun hd => Ev.val ?_) (fun hd => Ev.pos (by omega) ?_)))))
    · have : ¬ 1 ≤ nth l i := by omega
      rw [allFrom, ordAt]; simp [this]
    · have : ¬ nth l i ≤ l.length := by omega
      rw [allFrom, ordAt]; simp [this]
    · refine Ev.bind (Contains_ev _ _ (by simp; omega)) ?_
      refine Ev.ite (fun hb => Ev.val ?_) (fun hb => (isOrder_l l hn d (i + 1) (by omega)).to ?_)
      · rw [allFrom, ordAt, hb]; simp
      · rw [Bool.not_eq_true] at hb
        have h1 : 1 ≤ nth l i := by omega
        have h2 : nth l i ≤ l.length := by omega
        rw [allFrom, ordAt, hb]; simp [h1, h2]
theorem isOrder_ev (l : List Int) (hn : l.length ≤ 17592186044416) : Ev (fun k => impl_isOrder.f k l) (isOrd l) := by
  unfold impl_isOrder.f
  refine Ev.ite (fun hc => ?_) (fun hc => ?_)
  · refine Ev.step (fun k => by rw [impl_isOrder.j0]) ?_
    refine Ev.pos rfl (Ev.val ?_)
    have : ¬ 1 ≤ l.length := by omega
    simp [isOrd, this]
  · refine Ev.step (fun k => by rw [impl_isOrder.j0]) ?_
    simp only [decide_eq_true_eq]
    refine Ev.ite (fun hd => Ev.val ?_) (fun hd => (isOrder_l l hn l.length 0 (by omega)).to ?_)
    · have : ¬ l.length ≤ 7 := by omega
      simp [isOrd, this]
    · have h1 : 1 ≤ l.length := by omega
      have h2 : l.length ≤ 7 := by omega
      simp [isOrd, h1, h2]

theorem l1Own_is (l : List Int) (h : l.length < 17592186044416) : spec_l1Own.f l = some l := by
  unfold spec_l1Own.f
  simp [h]

theorem IndexFunc_l (of_ : Nat → Int → Option Bool) (p : Int → Bool) (l : List Int) (hn : l.length ≤ 17592186044416) (hof : ∀ k x, x ∈ l → of_ k x = some (p x)) : ∀ (d i : Nat), l.length = i + d → Ev (fun k => slices_IndexFunc_int_int.l0 of_ k l (l.length : Int) i) (if idxF p (l.drop i) < 0 then -1 else idxF p (l.drop i) + i)
  | 0, i, h => by
    refine Ev.step (fun k => by rw [slices_IndexFunc_int_int.l0]) ?_
    refine Ev.neg (by omega) (Ev.val ?_)
    rw [List.drop_of_length_le (by omega)]; rfl
  | d + 1, i, h => by
    refine Ev.step (fun k => by rw [slices_IndexFunc_int_int.l0]) ?_
    have e : wrap64 ((i : Int) + 1) = ((i + 1 : Nat) : Int) := by rw [w64 (by omega)]; omega
    have hm : nth l i ∈ l := by rw [nth_lt l i (by omega)]; exact List.getElem_mem _
    have hq : ∀ k, of_ k (nth l i) = some (p (nth l i)) := fun k => hof k _ hm
    simp only [e, rd_nat, hq, Option.bind_some]
    rw [drop_step l i (by omega)]
    have hg := idxF_ge p (l.drop (i + 1))
    refine Ev.pos (by omega) (Ev.pos (by omega) (Ev.pos (by omega) (Ev.ite (fun hc => Ev.val ?_) (fun hc => ?_))))
    · simp [idxF, hc]
    · refine (IndexFunc_l of_ p l hn hof d (i + 1) (by omega)).to ?_
      simp only [idxF, if_neg hc]
      split
      · simp
      · rw [if_neg (by omega)]; omega
theorem ContainsFunc_ev (of_ : Nat → Int → Option Bool) (p : Int → Bool) (l : List Int) (s : ByteArray) (hn : l.length ≤ 17592186044416) (hof : ∀ k x, x ∈ l → of_ k x = some (p x)) : Ev (fun k => slices_ContainsFunc_int_int.f of_ k l s) (l.any p) := by
  unfold slices_ContainsFunc_int_int.f slices_IndexFunc_int_int.f
  refine Ev.bind (IndexFunc_l of_ p l hn hof l.length 0 (by omega)) (Ev.val ?_)
  rw [← idxF_any p l, List.drop_zero]
  have hg := idxF_ge p l
  by_cases h : idxF p l < 0
  · have : ¬ 0 ≤ idxF p l := by omega
    simp [h, this]
  · have h1 : 0 ≤ idxF p l := by omega
    simp [h, h1]

/-! conflicts -/
theorem isOrd_ne2 {l : List Int} (h : isOrd l = true) (i j : Nat) (h0 : i < j) (hi : j < l.length) : nth l i ≠ nth l j := by
  intro e
  refine (isOrd_at h j hi).2.2 ?_
  rw [← e, nth_lt l i (by omega), List.mem_take_iff_getElem]
  exact ⟨i, by omega, rfl⟩
def lessThan (n x : Int) : Bool := decide (x < n)
def conf (l : List Int) (i j : Nat) : Bool := decide (nth l i < nth l j) && (l.drop (j + 1)).any (lessThan (nth l i))
theorem l7Conflict_l (l : List Int) (hn : l.length ≤ 1000) (i : Nat) (hi : i < l.length) : ∀ (d j : Nat), l.length = j + d → Ev (fun k => spec_l7Conflict.l0 k l i j) ((l.drop j).any (lessThan (nth l i)))
  | 0, j, h => by
    refine Ev.step (fun k => by rw [spec_l7Conflict.l0]) ?_
    refine Ev.neg (by omega) (Ev.val ?_)
    rw [List.drop_of_length_le (by omega)]; rfl
  | d + 1, j, h => by
    refine Ev.step (fun k => by rw [spec_l7Conflict.l0]) ?_
    have e : wrap64 ((j : Int) + 1) = ((j + 1 : Nat) : Int) := by rw [w64 (by omega)]; omega
    simp only [e, rd_nat]
    rw [drop_step l j (by omega), List.any_cons]
    refine Ev.pos (by omega) (Ev.pos (by omega) (Ev.pos (by omega) (Ev.pos (by omega) (Ev.ite (fun hc => Ev.val ?_) (fun hc => ?_)))))
    · simp [lessThan, hc]
    · have hb : lessThan (nth l i) (nth l j) = false := by simp [lessThan]; omega
      rw [hb, Bool.false_or]
      exact l7Conflict_l l hn i hi d (j + 1) (by omega)
theorem specConflict_ev (l : List Int) (ho : isOrd l = true) (i j : Nat) (hij : i < j) (hj : j < l.length) : Ev (fun k => spec_l7Conflict.f k l i j) (conf l i j) := by
  have hl := isOrd_len ho
  have hne := isOrd_ne2 ho i j hij hj
  unfold spec_l7Conflict.f
  have e : wrap64 ((j : Int) + 1) = ((j + 1 : Nat) : Int) := by rw [w64 (by omega)]; omega
  simp only [e, rd_nat]
  refine Ev.pos (by omega) (Ev.pos (by omega) (Ev.pos (by omega) (Ev.pos (by omega) (Ev.ite (fun hc => Ev.val ?_) (fun hc => ?_)))))
  · have : ¬ nth l i < nth l j := by omega
    simp [conf, this]
  · have h1 : nth l i < nth l j := by omega
    refine (l7Conflict_l l (by omega) i (by omega) (l.length - (j + 1)) (j + 1) (by omega)).to ?_
    simp [conf, h1]
theorem implConflict_ev (l : List Int) (ho : isOrd l = true) (i j : Nat) (hij : i < j) (hj : j < l.length) : Ev (fun k => impl_isConflict.f k l i j) (conf l i j) := by
  have hl := isOrd_len ho
  unfold impl_isConflict.f
  have e : wrap64 ((j : Int) + 1) = ((j + 1 : Nat) : Int) := by rw [w64 (by omega)]; omega
  simp only [e, rd_nat, Int.toNat_natCast]
  refine Ev.pos (by omega) (Ev.pos (by omega) (Ev.pos (by omega) (Ev.pos (by omega) (Ev.ite (fun hc => Ev.pos (by omega) (Ev.pos (by omega) ?_)) (fun hc => Ev.val ?_)))))
  · refine Ev.bind (ContainsFunc_ev _ (lessThan (nth l i)) _ _ (by simp; omega) (fun k x _ => ?_)) (Ev.val ?_)
    · unfold impl_isConflict_1.f
      rw [if_pos (by omega), if_pos (by omega)]
      rfl
    · have h1 : nth l i < nth l j := by omega
      simp [conf, h1]
  · have : ¬ nth l i < nth l j := by omega
    simp [conf, this]
def mayB (l s : List Int) (j : Nat) (x : Int) : Bool := allFrom (fun i => !(decide (nth s i = x) && conf l i j)) j 0
theorem mayBe_l (l s : List Int) (ho : isOrd l = true) (j : Nat) (hj : j < l.length) (hs : j ≤ s.length) (x : Int) : ∀ (d i : Nat), j = i + d → Ev (fun k => impl_mayBe.l0 k l s j x j i) (allFrom (fun i => !(decide (nth s i = x) && conf l i j)) d i)
  | 0, i, h => by
    refine Ev.step (fun k => by rw [impl_mayBe.l0]) ?_
    exact Ev.neg (by omega) (Ev.val rfl)
  | d + 1, i, h => by
    have hl := isOrd_len ho
    refine Ev.step (fun k => by rw [impl_mayBe.l0]) ?_
    have e : wrap64 ((i : Int) + 1) = ((i + 1 : Nat) : Int) := by rw [w64 (by omega)]; omega
    simp only [e, rd_nat, allFrom]
    refine Ev.pos (by omega) (Ev.pos (by omega) (Ev.pos (by omega) (Ev.ite (fun hc => ?_) (fun hc => ?_))))
    · refine Ev.bind (implConflict_ev l ho i j (by omega) hj) (Ev.ite (fun hd => Ev.val ?_) (fun hd => (mayBe_l l s ho j hj hs x d (i + 1) (by omega)).to ?_))
      · simp [hc, hd]
      · rw [Bool.not_eq_true] at hd; simp [hd]
    · refine (mayBe_l l s ho j hj hs x d (i + 1) (by omega)).to ?_
      simp [hc]
theorem mayBe_ev (l s : List Int) (ho : isOrd l = true) (j : Nat) (hj : j < l.length) (hs : j ≤ s.length) (x : Int) : Ev (fun k => impl_mayBe.f k l s j x) (mayB l s j x) := by
  unfold impl_mayBe.f
  exact mayBe_l l s ho j hj hs x j 0 (by omega)
def fits (l s : List Int) : Bool := allFrom (fun j => mayB l s j (nth s j)) s.length 0
theorem l7Fits_l1 (l s : List Int) (ho : isOrd l = true) (j : Nat) (hj : j < s.length) (hs : s.length ≤ l.length) (r : Bool) (hr : Ev (fun k => spec_l7Fits.l0 k l s ((j + 1 : Nat) : Int)) r) : ∀ (d i : Nat), j = i + d → Ev (fun k => spec_l7Fits.l1 k l s j i) (allFrom (fun i => !(decide (nth s i = nth s j) && conf l i j)) d i && r)
  | 0, i, h => by
    have hl := isOrd_len ho
    refine Ev.step (fun k => by rw [spec_l7Fits.l1]) ?_
    have e : wrap64 ((j : Int) + 1) = ((j + 1 : Nat) : Int) := by rw [w64 (by omega)]; omega
    simp only [e]
    exact Ev.neg (by omega) (hr.to (by simp [allFrom]))
  | d + 1, i, h => by
    have hl := isOrd_len ho
    refine Ev.step (fun k => by rw [spec_l7Fits.l1]) ?_
    have e : wrap64 ((i : Int) + 1) = ((i + 1 : Nat) : Int) := by rw [w64 (by omega)]; omega
    simp only [e, rd_nat, allFrom]
    refine Ev.pos (by omega) (Ev.pos (by omega) (Ev.pos (by omega) (Ev.pos (by omega) (Ev.pos (by omega) (Ev.ite (fun hc => ?_) (fun hc => ?_))))))
    · refine Ev.bind (specConflict_ev l ho i j (by omega) (by omega)) (Ev.ite (fun hd => Ev.val ?_) (fun hd => (l7Fits_l1 l s ho j hj hs r hr d (i + 1) (by omega)).to ?_))
      · simp [hc, hd]
      · rw [Bool.not_eq_true] at hd; simp [hd]
    · refine (l7Fits_l1 l s ho j hj hs r hr d (i + 1) (by omega)).to ?_
      simp [hc]
theorem l7Fits_l (l s : List Int) (ho : isOrd l = true) (hs : s.length ≤ l.length) : ∀ (d j : Nat), s.length = j + d → Ev (fun k => spec_l7Fits.l0 k l s j) (allFrom (fun j => mayB l s j (nth s j)) d j)
  | 0, j, h => by
    refine Ev.step (fun k => by rw [spec_l7Fits.l0]) ?_
    exact Ev.neg (by omega) (Ev.val rfl)
  | d + 1, j, h => by
    refine Ev.step (fun k => by rw [spec_l7Fits.l0]) ?_
    refine Ev.pos (by omega) ?_
    exact l7Fits_l1 l s ho j (by omega) hs _ (l7Fits_l l s ho hs d (j + 1) (by omega)) j 0 (by omega)
theorem l7Fits_ev (l s : List Int) (ho : isOrd l = true) (hs : s.length ≤ l.length) : Ev (fun k => spec_l7Fits.f k l s) (fits l s) := by
  unfold spec_l7Fits.f
  exact l7Fits_l l s ho hs s.length 0 (by omega)

/-! a sharing with one more place -/
theorem nth_append_lt (s : List Int) (x : Int) (i : Nat) (h : i < s.length) : nth (s ++ [x]) i = nth s i := by
  rw [nth_lt _ _ (by simp; omega), nth_lt _ _ h, List.getElem_append_left h]
theorem allFrom_congr (p q : Nat → Bool) : ∀ d i, (∀ j, i ≤ j → j < i + d → p j = q j) → allFrom p d i = allFrom q d i
  | 0, i, _ => rfl
  | d + 1, i, h => by
    rw [allFrom, allFrom, h i (by omega) (by omega), allFrom_congr p q d (i + 1) fun j h1 h2 => h j (by omega) (by omega)]
theorem allFrom_snoc (p : Nat → Bool) : ∀ d i, allFrom p (d + 1) i = (allFrom p d i && p (i + d))
  | 0, i => by simp [allFrom]
  | d + 1, i => by
    rw [allFrom, allFrom_snoc p d (i + 1), allFrom, Bool.and_assoc]
    congr 3
    omega
theorem mayB_append (l s : List Int) (x : Int) (j : Nat) (hj : j ≤ s.length) (y : Int) : mayB l (s ++ [x]) j y = mayB l s j y := by
  unfold mayB
  refine allFrom_congr _ _ j 0 fun i _ h => ?_
  rw [nth_append_lt s x i (by omega)]
theorem fits_snoc (l s : List Int) (x : Int) : fits l (s ++ [x]) = (fits l s && mayB l s s.length x) := by
  unfold fits
  rw [List.length_append, List.length_singleton, allFrom_snoc, Nat.zero_add, nth_snoc, mayB_append l s x s.length (Nat.le_refl _)]
  congr 1
  refine allFrom_congr _ _ _ _ fun j _ h => ?_
  rw [nth_append_lt s x j (by omega), mayB_append l s x j (by omega)]

/-! all fitting sharings over n stacks that begin with s, in order -/
def leaves (l : List Int) (n : Nat) : Nat → List Int → List (List Int)
  | 0, s => [s]
  | r + 1, s => (List.range' 0 n).flatMap fun (x : Nat) => if mayB l s s.length (x : Int) = true then leaves l n r (s ++ [(x : Int)]) else []
def stepL (l : List Int) (n r : Nat) (s : List Int) (x : Nat) : List (List Int) := if mayB l s s.length (x : Int) = true then leaves l n r (s ++ [(x : Int)]) else []
theorem leaves_succ (l : List Int) (n r : Nat) (s : List Int) : leaves l n (r + 1) s = (List.range' 0 n).flatMap (stepL l n r s) := rfl
theorem flatMap_bound {f : Nat → List (List Int)} {M : Nat} (h : ∀ x, (f x).length ≤ M) : ∀ xs : List Nat, (xs.flatMap f).length ≤ xs.length * M
  | [] => by simp
  | x :: xs => by
    have h1 := h x
    have h2 := flatMap_bound h xs
    rw [List.flatMap_cons, List.length_append, List.length_cons, Nat.succ_mul]
    omega
theorem leaves_bound (l : List Int) (n : Nat) : ∀ r s, (leaves l n r s).length ≤ n ^ r
  | 0, s => by simp [leaves]
  | r + 1, s => by
    have h := flatMap_bound (f := stepL l n r s) (M := n ^ r) (fun x => by
      unfold stepL
      split
      · exact leaves_bound l n r _
      · simp) (List.range' 0 n)
    rw [leaves_succ, Nat.pow_succ, Nat.mul_comm]
    simpa using h
theorem pow_small {n r : Nat} (hn : n ≤ 7) (hr : r ≤ 7) : n ^ r ≤ 823543 := by
  calc n ^ r ≤ 7 ^ r := Nat.pow_le_pow_left hn r
    _ ≤ 7 ^ 7 := Nat.pow_le_pow_right (by omega) hr
    _ = 823543 := by rfl
theorem head_append (A B : List (List Int)) : (A ++ B).headD [] = if A.length = 0 then B.headD [] else A.headD [] := by
  cases A <;> simp
theorem l7Go_l (l : List Int) (ho : isOrd l = true) (n : Nat) (hn : n ≤ 7) (r : Nat) (s : List Int) (hs : l.length = s.length + (r + 1)) (hf : fits l s = true)
    (ih : ∀ s, l.length = s.length + r → fits l s = true → Ev (fun k => spec_l7Go.f k l s n) ((leaves l n r s).headD [], ((leaves l n r s).length : Int))) :
    ∀ (d x : Nat) (A : List (List Int)), n = x + d → (A ++ (List.range' x d).flatMap (stepL l n r s)).length ≤ 1000000 → Ev (fun k => spec_l7Go.l0 k l s n (A.headD []) (A.length : Int) x) ((A ++ (List.range' x d).flatMap (stepL l n r s)).headD [], ((A ++ (List.range' x d).flatMap (stepL l n r s)).length : Int))
  | 0, x, A, h, hb => by
    refine Ev.step (fun k => by rw [spec_l7Go.l0]) ?_
    refine Ev.neg (by omega) (Ev.val ?_)
    simp
  | d + 1, x, A, h, hb => by
    have hl := isOrd_len ho
    have e1 : wrap64 ((x : Int) + 1) = ((x + 1 : Nat) : Int) := wup x (by omega)
    have hB : Ev (fun k => spec_l7Go.f k l (s ++ [(x : Int)]) n) ((stepL l n r s x).headD [], ((stepL l n r s x).length : Int)) := by
      unfold stepL
      by_cases hm : mayB l s s.length (x : Int) = true
      · rw [if_pos hm]
        exact ih (s ++ [(x : Int)]) (by simp; omega) (by rw [fits_snoc, hf, hm]; rfl)
      · rw [if_neg hm]
        refine Ev.step (fun k => by rw [spec_l7Go.f]) ?_
        refine Ev.bind (l7Fits_ev l (s ++ [(x : Int)]) ho (by simp; omega)) (Ev.neg ?_ (Ev.val rfl))
        rw [fits_snoc, hf]
        simp [hm]
    have hA := l7Go_l l ho n hn r s hs hf ih d (x + 1) (A ++ stepL l n r s x) (by omega)
    rw [List.range'_succ, List.flatMap_cons, ← List.append_assoc] at hb ⊢
    have hA := hA hb
    generalize stepL l n r s x = B at hB hA hb ⊢
    have hlen : A.length + B.length ≤ 1000000 := by
      rw [List.length_append, List.length_append] at hb
      omega
    have e2 : wrap64 ((A.length : Int) + (B.length : Int)) = ((A ++ B).length : Int) := by rw [w64 (by omega), List.length_append]; omega
    refine Ev.step (fun k => by rw [spec_l7Go.l0]) ?_
    simp only [l1Own_is s (by omega), Option.bind_some, e1]
    refine Ev.pos (by omega) (Ev.pos (by omega) (Ev.bind hB ?_))
    simp only [e2]
    rw [head_append] at hA
    refine Ev.ite (fun h0 => Ev.ite (fun h1 => ?_) (fun h1 => ?_)) (fun h0 => ?_)
    · rw [if_pos (by omega)] at hA; exact hA
    · have hb0 : B = [] := List.eq_nil_of_length_eq_zero (by omega)
      have ha0 : A = [] := List.eq_nil_of_length_eq_zero (by omega)
      subst hb0 ha0
      exact hA
    · rw [if_neg (by omega)] at hA; exact hA
theorem l7Go_ev (l : List Int) (ho : isOrd l = true) (n : Nat) (hn : n ≤ 7) : ∀ (r : Nat) (s : List Int), l.length = s.length + r → fits l s = true → Ev (fun k => spec_l7Go.f k l s n) ((leaves l n r s).headD [], ((leaves l n r s).length : Int))
  | 0, s, hs, hf => by
    refine Ev.step (fun k => by rw [spec_l7Go.f]) ?_
    exact Ev.bind (l7Fits_ev l s ho (by omega)) (Ev.pos hf (Ev.pos (by omega) (Ev.val rfl)))
  | r + 1, s, hs, hf => by
    have hl := isOrd_len ho
    refine Ev.step (fun k => by rw [spec_l7Go.f]) ?_
    refine Ev.bind (l7Fits_ev l s ho (by omega)) (Ev.pos hf (Ev.neg (by omega) ?_))
    have hb := leaves_bound l n (r + 1) s
    have hp := pow_small hn (show r + 1 ≤ 7 by omega)
    rw [leaves_succ] at hb
    exact l7Go_l l ho n hn r s hs hf (l7Go_ev l ho n hn r) n 0 [] (by omega) (by rw [List.nil_append]; omega)
def runL {σ : Type} (st : σ → List Int → σ × Bool) : List (List Int) → σ → σ × Bool
  | [], s => (s, false)
  | d :: ds, s => if (st s d).2 = true then ((st s d).1, true) else runL st ds (st s d).1
theorem runL_append {σ : Type} (st : σ → List Int → σ × Bool) : ∀ (A B : List (List Int)) (s : σ), runL st (A ++ B) s = if (runL st A s).2 = true then ((runL st A s).1, true) else runL st B (runL st A s).1
  | [], B, s => by simp [runL]
  | a :: A, B, s => by
    rw [List.cons_append, runL, runL, runL_append st A B]
    by_cases h : (st s a).2 = true
    · simp [h]
    · simp [h]
theorem sh_l {σ : Type} (of_ : Nat → σ → List Int → Option (σ × Bool)) (st : σ → List Int → σ × Bool) (l : List Int) (ho : isOrd l = true) (n : Nat) (hn : n ≤ 7) (r : Nat) (d : List Int) (hd : l.length = d.length + (r + 1))
    (ih : ∀ d s, l.length = d.length + r → Ev (fun k => impl_sharings_1.f of_ k l n s d) (runL st (leaves l n r d) s)) :
    ∀ (e x : Nat) (s : σ), n = x + e → Ev (fun k => impl_sharings_1.l0 of_ k l n s d x) (runL st ((List.range' x e).flatMap (stepL l n r d)) s)
  | 0, x, s, h => by
    refine Ev.step (fun k => by rw [impl_sharings_1.l0]) ?_
    exact Ev.neg (by omega) (Ev.val rfl)
  | e + 1, x, s, h => by
    have hl := isOrd_len ho
    rw [List.range'_succ, List.flatMap_cons, runL_append]
    refine Ev.step (fun k => by rw [impl_sharings_1.l0]) ?_
    refine Ev.pos (by omega) (Ev.pos (by omega) (Ev.bind (mayBe_ev l d ho d.length (by omega) (Nat.le_refl _) x) ?_))
    have hn1 : ((x : Int) + 1) = ((x + 1 : Nat) : Int) := by omega
    simp only [hn1]
    have hnext := fun s => sh_l of_ st l ho n hn r d hd ih e (x + 1) s (by omega)
    refine Ev.ite (fun hm => Ev.pos (by omega) ?_) (fun hm => ?_)
    · have e1 : stepL l n r d x = leaves l n r (d ++ [(x : Int)]) := by rw [stepL, if_pos hm]
      rw [e1]
      refine Ev.bind (ih (d ++ [(x : Int)]) s (by simp; omega)) (Ev.ite (fun h1 => ?_) (fun h1 => ?_))
      · rw [if_pos h1]; exact Ev.val rfl
      · rw [if_neg h1]; exact hnext _
    · have e1 : stepL l n r d x = [] := by rw [stepL, if_neg hm]
      rw [e1]
      exact hnext s
theorem sh_ev {σ : Type} (of_ : Nat → σ → List Int → Option (σ × Bool)) (st : σ → List Int → σ × Bool) (hof : ∀ s d, Ev (fun k => of_ k s d) (st s d)) (l : List Int) (ho : isOrd l = true) (n : Nat) (hn : n ≤ 7) : ∀ (r : Nat) (d : List Int) (s : σ), l.length = d.length + r → Ev (fun k => impl_sharings_1.f of_ k l n s d) (runL st (leaves l n r d) s)
  | 0, d, s, hd => by
    refine Ev.step (fun k => by rw [impl_sharings_1.f]) ?_
    refine Ev.pos (by omega) ((hof s d).to ?_)
    rw [leaves, runL, runL]
    by_cases h : (st s d).2 = true
    · rw [if_pos h, ← h]
    · rw [if_neg h, ← Bool.eq_false_iff.mpr h]
  | r + 1, d, s, hd => by
    refine Ev.step (fun k => by rw [impl_sharings_1.f]) ?_
    refine Ev.neg (by omega) ?_
    exact sh_l of_ st l ho n hn r d hd (fun d s h => sh_ev of_ st hof l ho n hn r d s h) n 0 s (by omega)
theorem sharings_ev {σ : Type} (of_ : Nat → σ → List Int → Option (σ × Bool)) (st : σ → List Int → σ × Bool) (hof : ∀ s d, Ev (fun k => of_ k s d) (st s d)) (l : List Int) (ho : isOrd l = true) (n : Nat) (hn : n ≤ 7) (s : σ) : Ev (fun k => impl_sharings.f of_ k l n s) (runL st (leaves l n l.length []) s).1 := by
  unfold impl_sharings.f
  exact Ev.bind (sh_ev of_ st hof l ho n hn l.length [] s (by simp)) (Ev.val rfl)

theorem isStacks_is (a : Int) : impl_isStacks.f a = some (decide (1 ≤ a ∧ a ≤ 4)) := by
  unfold impl_isStacks.f
  by_cases h : a ≥ 1
  · rw [if_pos h]; simp [h]
  · rw [if_neg h]; simp; omega
def stCount (s : Int) (_d : List Int) : Int × Bool := (wrap64 (s + 1), false)
theorem runCount : ∀ (L : List (List Int)) (s : Nat), s + L.length ≤ 1000000 → (runL stCount L s).1 = ((s + L.length : Nat) : Int)
  | [], s, h => by simp [runL]
  | d :: L, s, h => by
    simp only [List.length_cons] at h
    have e : (stCount s d).1 = ((s + 1 : Nat) : Int) := wup s (by omega)
    rw [runL, if_neg (by simp [stCount]), e, runCount L (s + 1) (by omega)]
    simp only [List.length_cons]
    omega
def resCountSharings (l : List Int) (a : Int) : Int × Bool := if isOrd l = true then (if 1 ≤ a ∧ a ≤ 4 then (((leaves l a.toNat l.length []).length : Int), true) else (0, false)) else (0, false)
theorem specCountSharings_ev (l : List Int) (hn : l.length ≤ 17592186044415) (a : Int) : Ev (fun k => spec_CountSharings.f k l a) (resCountSharings l a) := by
  unfold spec_CountSharings.f resCountSharings
  refine Ev.bind (l2Order_ev l (by omega)) ?_
  by_cases ho : isOrd l = true
  · simp only [l1In_is, Option.bind_some, if_pos ho, decide_eq_true_eq]
    by_cases ha : 1 ≤ a ∧ a ≤ 4
    · rw [if_pos ha]
      obtain ⟨n, rfl⟩ : ∃ n : Nat, a = n := ⟨a.toNat, by omega⟩
      refine Ev.pos ha (Ev.bind (l7Go_ev l ho n (by omega) l.length [] (by simp) rfl) (Ev.val ?_))
      simp
    · rw [if_neg ha]
      exact Ev.neg ha (Ev.val rfl)
  · rw [if_neg ho]
    exact Ev.neg ho (Ev.val rfl)
theorem implCountSharings_ev (l : List Int) (hn : l.length ≤ 17592186044415) (a : Int) : Ev (fun k => impl_CountSharings.f k l a) (resCountSharings l a) := by
  unfold impl_CountSharings.f resCountSharings
  refine Ev.bind (isOrder_ev l (by omega)) ?_
  by_cases ho : isOrd l = true
  · have hl := isOrd_len ho
    simp only [isStacks_is, Option.bind_some, if_pos ho, decide_eq_true_eq]
    by_cases ha : 1 ≤ a ∧ a ≤ 4
    · rw [if_pos ha]
      obtain ⟨n, rfl⟩ : ∃ n : Nat, a = n := ⟨a.toNat, by omega⟩
      refine Ev.pos ha (Ev.bind (sharings_ev impl_CountSharings_1.f stCount (fun s d => Ev.val rfl) l ho n (by omega) 0) (Ev.val ?_))
      have h1 := leaves_bound l n l.length []
      have h2 := pow_small (show n ≤ 7 by omega) hl.2
      have h3 := runCount (leaves l n l.length []) 0 (by omega)
      rw [show ((0 : Nat) : Int) = 0 from rfl, Nat.zero_add] at h3
      simp [h3]
    · rw [if_neg ha]
      exact Ev.neg ha (Ev.val rfl)
  · rw [if_neg ho]
    exact Ev.neg ho (Ev.val rfl)
theorem FnExactCountSharings : laws_FnExactCountSharings.Pure := by
  intro l a hm hr hw hw2
  refine Ev.rounds (?_ : Ev (fun k => laws_FnExactCountSharings.f k l a) true)
  unfold laws_FnExactCountSharings.f
  refine Ev.ite (fun _ => Ev.val rfl) (fun hc => ?_)
  refine Ev.bind (toIntS_ev l (by omega)) ?_
  refine Ev.bind (specCountSharings_ev l (by omega) a) ?_
  refine Ev.bind (toIntS_ev l (by omega)) ?_
  refine Ev.bind (implCountSharings_ev l (by omega) a) ?_
  refine Ev.pos rfl ?_
  refine Ev.step (fun k => by rw [laws_FnExactCountSharings.j0]) ?_
  refine Ev.neg (by simp) ?_
  refine Ev.bind (toIntS_ev l (by omega)) ?_
  exact Ev.bind (eqIntS_ev l l (by omega)) (Ev.pos (by simp) (Ev.val rfl))

end Go.Proofs.Ytbbfgejnlfafpaa.Pure
