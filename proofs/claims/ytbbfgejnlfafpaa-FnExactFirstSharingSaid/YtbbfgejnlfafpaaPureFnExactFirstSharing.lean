/- The program's FirstSharing returns what the reference's returns, for every list, in memory of its own. -/
import Derived.Test.YtbbfgejnlfafpaaPFnExactFirstSharingx7
import Derived.Test.YtbbfgejnlfafpaaK
set_option linter.unusedVariables false
set_option linter.unusedSimpArgs false
namespace Go.Proofs.Ytbbfgejnlfafpaa.Pure
open Go.RowKit Go.Proofs.Ytbbfgejnlfafpaa.PFnExactFirstSharing Go.Proofs.YtbbfgejnlfafpaaW.PrintWords Go.Proofs.YtbbfgejnlfafpaaW.PrintLast Go.Proofs.YtbbfgejnlfafpaaW.PrintMore

theorem toIntS_l (x0 : List Int) (hn : x0.length ≤ 17592186044416) : ∀ (d i : Nat) (x3 : List Int), x3.length = x0.length → x3.take i = x0.take i → x0.length = i + d → Ev (fun k => laws_toIntS.l0 k x0 x3 i) x0
  | 0, i, x3, h1, h2, h3 => by
    refine Ev.step (fun k => by rw [laws_toIntS.l0]) ?_
    refine Ev.neg (by omega) (Ev.val ?_)
    rw [List.take_of_length_le (by omega), List.take_of_length_le (by omega)] at h2
    exact h2
  | d + 1, i, x3, h1, h2, h3 => by
    refine Ev.step (fun k => by rw [laws_toIntS.l0]) ?_
    refine Ev.pos (by omega) (Ev.pos (by omega) (Ev.pos (by omega) ?_))
    have e : wrap64 ((i : Int) + 1) = ((i + 1 : Nat) : Int) := by rw [w64 (by omega)]; omega
    simp only [e, Int.toNat_natCast]
    exact toIntS_l x0 hn d (i + 1) _ (by simpa using h1) (by rw [take_set_succ _ _ _ (by omega), h2, take_step _ _ (by omega), rd_nat]) (by omega)
theorem toIntS_ev (l : List Int) (hn : l.length ≤ 17592186044416) : Ev (fun k => laws_toIntS.f k l) l := by
  unfold laws_toIntS.f
  refine Ev.pos (by omega) (Ev.pos (by omega) ?_)
  exact toIntS_l l hn l.length 0 _ (by simp) (by simp) (by omega)

theorem eqIntS_l (a b : List Int) (hn : a.length ≤ 17592186044416) (hl : a.length = b.length) : ∀ (d i : Nat), a.length = i + d → Ev (fun k => laws_eqIntS.l0 k a b i) (decide (a.drop i = b.drop i))
  | 0, i, h => by
    refine Ev.step (fun k => by rw [laws_eqIntS.l0]) ?_
    refine Ev.neg (by omega) (Ev.val ?_)
    rw [List.drop_of_length_le (by omega), List.drop_of_length_le (by omega)]
    simp
  | d + 1, i, h => by
    refine Ev.step (fun k => by rw [laws_eqIntS.l0]) ?_
    refine Ev.pos (by omega) (Ev.pos (by omega) (Ev.pos (by omega) ?_))
    have e : wrap64 ((i : Int) + 1) = ((i + 1 : Nat) : Int) := by rw [w64 (by omega)]; omega
    simp only [e]
    rw [drop_step a i (by omega), drop_step b i (by omega)]
    refine Ev.ite (fun hc => ?_) (fun hc => Ev.val ?_)
    · have hc' : nth a i = nth b i := hc
      refine (eqIntS_l a b hn hl d (i + 1) (by omega)).to ?_
      rw [hc']
      simp
    · have hc' : ¬ nth a i = nth b i := hc
      simp [hc']
theorem eqIntS_ev (a b : List Int) (hn : a.length ≤ 17592186044416) : Ev (fun k => laws_eqIntS.f k a b) (decide (a = b)) := by
  unfold laws_eqIntS.f
  refine Ev.ite (fun hc => ?_) (fun hc => Ev.val ?_)
  · exact (eqIntS_l a b hn (by omega) a.length 0 (by omega)).to (by simp)
  · have : ¬ a = b := fun h => hc (by rw [h])
    simp [this]

theorem markIntS_l : ∀ (d i : Nat) (x0 : List Int) (x1 : Int), x0.length = i + d → x0.length ≤ 17592186044416 → -1000000000000000000 ≤ x1 → x1 + d ≤ 1000000000000000000 → Ev (fun k => laws_markIntS.l0 k x0 x1 i) (x1 + d, x0.take i ++ marked x1 d)
  | 0, i, x0, x1, h, hn, h1, h2 => by
    refine Ev.step (fun k => by rw [laws_markIntS.l0]) ?_
    refine Ev.neg (by omega) (Ev.val ?_)
    rw [List.take_of_length_le (by omega)]
    simp [marked]
  | d + 1, i, x0, x1, h, hn, h1, h2 => by
    refine Ev.step (fun k => by rw [laws_markIntS.l0]) ?_
    refine Ev.pos (by omega) (Ev.pos (by omega) ?_)
    have e : wrap64 ((i : Int) + 1) = ((i + 1 : Nat) : Int) := by rw [w64 (by omega)]; omega
    have e1 : wrap64 (x1 + 1) = x1 + 1 := w64 (by omega)
    simp only [e, e1, Int.toNat_natCast]
    refine (markIntS_l d (i + 1) (x0.set i x1) (x1 + 1) (by simpa using (by omega)) (by simpa using hn) (by omega) (by omega)).to ?_
    rw [take_set_succ _ _ _ (by omega)]
    simp [marked]
    omega
theorem markIntS_ev (l : List Int) (a : Int) (hn : l.length ≤ 17592186044416) (h1 : -1000000000000000 ≤ a) (h2 : a ≤ 1000000000000000) : Ev (fun k => laws_markIntS.f k l a) (a + l.length, marked a l.length) := by
  unfold laws_markIntS.f
  exact (markIntS_l l.length 0 l a (by omega) hn (by omega) (by omega)).to (by simp)

theorem heldIntS_l (n : Nat) (a : Int) (hn : n ≤ 17592186044416) (h1 : -1000000000000000 ≤ a) (h2 : a ≤ 1000000000000000) : ∀ (d i : Nat), n = i + d → Ev (fun k => laws_heldIntS.l0 k (marked a n) (a + i) i) (a + n)
  | 0, i, h => by
    refine Ev.step (fun k => by rw [laws_heldIntS.l0]) ?_
    refine Ev.neg (by rw [marked_length]; omega) (Ev.val ?_)
    omega
  | d + 1, i, h => by
    refine Ev.step (fun k => by rw [laws_heldIntS.l0]) ?_
    refine Ev.pos (by rw [marked_length]; omega) (Ev.pos (by omega) (Ev.pos (by rw [rd_nat, marked_nth n a i (by omega)]) ?_))
    have e : wrap64 ((i : Int) + 1) = ((i + 1 : Nat) : Int) := by rw [w64 (by omega)]; omega
    have e1 : wrap64 (a + i + 1) = a + ((i + 1 : Nat) : Int) := by rw [w64 (by omega)]; omega
    simp only [e, e1]
    exact heldIntS_l n a hn h1 h2 d (i + 1) (by omega)
theorem heldIntS_ev (n : Nat) (a : Int) (hn : n ≤ 17592186044416) (h1 : -1000000000000000 ≤ a) (h2 : a ≤ 1000000000000000) : Ev (fun k => laws_heldIntS.f k (marked a n) a) (a + n) := by
  unfold laws_heldIntS.f
  have := heldIntS_l n a hn h1 h2 n 0 (by omega)
  rw [show a + ((0 : Nat) : Int) = a by omega] at this
  exact this

theorem l1In_is (a b c : Int) : spec_l1In.f a b c = some (decide (b ≤ a ∧ a ≤ c)) := by
  unfold spec_l1In.f
  by_cases h : a ≥ b
  · rw [if_pos h]; simp [h]
  · rw [if_neg h]; simp; omega

theorem l1Has_l (l : List Int) (x : Int) (hn : l.length ≤ 17592186044416) : ∀ (d i : Nat), l.length = i + d → Ev (fun k => spec_l1Has.l0 k l x i) ((l.drop i).contains x)
  | 0, i, h => by
    refine Ev.step (fun k => by rw [spec_l1Has.l0]) ?_
    refine Ev.neg (by omega) (Ev.val ?_)
    rw [List.drop_of_length_le (by omega)]
    simp
  | d + 1, i, h => by
    refine Ev.step (fun k => by rw [spec_l1Has.l0]) ?_
    have e : wrap64 ((i : Int) + 1) = ((i + 1 : Nat) : Int) := by rw [w64 (by omega)]; omega
    simp only [e]
    rw [drop_step l i (by omega)]
    refine Ev.pos (by omega) (Ev.pos (by omega) (Ev.ite (fun hc => Ev.val ?_) (fun hc => ?_)))
    · have hc' : nth l i = x := hc
      rw [hc']; simp
    · have hc' : ¬ nth l i = x := hc
      refine (l1Has_l l x hn d (i + 1) (by omega)).to ?_
      have : ¬ x = nth l i := fun h => hc' h.symm
      rw [List.contains_cons]
      simp [this]
theorem l1Has_ev (l : List Int) (x : Int) (hn : l.length ≤ 17592186044416) : Ev (fun k => spec_l1Has.f k l x) (l.contains x) := by
  unfold spec_l1Has.f
  exact (l1Has_l l x hn l.length 0 (by omega)).to (by simp)

theorem l2Order_l (l : List Int) (hn : l.length ≤ 17592186044416) : ∀ (d i : Nat), l.length = i + d → Ev (fun k => spec_l2Order.l0 k l i) (allFrom (ordAt l) d i)
  | 0, i, h => by
    refine Ev.step (fun k => by rw [spec_l2Order.l0]) ?_
    exact Ev.neg (by omega) (Ev.val rfl)
  | d + 1, i, h => by
    refine Ev.step (fun k => by rw [spec_l2Order.l0]) ?_
    have e : wrap64 ((i : Int) + 1) = ((i + 1 : Nat) : Int) := by rw [w64 (by omega)]; omega
    simp only [e, l1In_is, Option.bind_some, rd_nat, Int.toNat_natCast, decide_eq_true_eq]
    refine Ev.pos (by omega) (Ev.pos (by omega) (Ev.ite (fun hc => Ev.pos (by omega) ?_) (fun hc => Ev.val ?_)))
    · refine Ev.bind (l1Has_ev _ _ (by simp; omega)) ?_
      refine Ev.ite (fun hb => Ev.val ?_) (fun hb => (l2Order_l l hn d (i + 1) (by omega)).to ?_)
      · rw [allFrom, ordAt, hb]; simp
      · rw [Bool.not_eq_true] at hb
        rw [allFrom, ordAt, hb]; simp [hc]
    · rw [allFrom, ordAt]
      by_cases h1 : 1 ≤ nth l i
      · have : ¬ nth l i ≤ l.length := fun h2 => hc ⟨h1, h2⟩
        simp [this]
      · simp [h1]
theorem l2Order_ev (l : List Int) (hn : l.length ≤ 17592186044416) : Ev (fun k => spec_l2Order.f k l) (isOrd l) := by
  unfold spec_l2Order.f
  simp only [l1In_is, Option.bind_some, decide_eq_true_eq]
  refine Ev.ite (fun hc => (l2Order_l l hn l.length 0 (by omega)).to ?_) (fun hc => Ev.val ?_)
  · have h1 : 1 ≤ l.length := by omega
    have h2 : l.length ≤ 7 := by omega
    simp [isOrd, h1, h2]
  · rw [isOrd]
    by_cases h1 : 1 ≤ l.length
    · have : ¬ l.length ≤ 7 := by omega
      simp [this]
    · simp [h1]

theorem Index_l (l : List Int) (x : Int) (hn : l.length ≤ 17592186044416) : ∀ (d i : Nat), l.length = i + d → (∀ j, j < i → nth l j ≠ x) → Ev (fun k => slices_Index_int_int.l0 k l x (l.length : Int) i) (idx l x)
  | 0, i, h, hq => by
    refine Ev.step (fun k => by rw [slices_Index_int_int.l0]) ?_
    refine Ev.neg (by omega) (Ev.val ?_)
    exact (idx_none l x fun j hj => hq j (by omega)).symm
  | d + 1, i, h, hq => by
    refine Ev.step (fun k => by rw [slices_Index_int_int.l0]) ?_
    have e : wrap64 ((i : Int) + 1) = ((i + 1 : Nat) : Int) := by rw [w64 (by omega)]; omega
    simp only [e]
    refine Ev.pos (by omega) (Ev.pos (by omega) (Ev.pos (by omega) (Ev.ite (fun hc => Ev.val ?_) (fun hc => ?_))))
    · exact (idx_some l x i (by omega) (by rw [hc]; rfl) hq).symm
    · refine Index_l l x hn d (i + 1) (by omega) (fun j hj => ?_)
      by_cases e : j = i
      · subst e; exact fun h => hc h.symm
      · exact hq j (by omega)
theorem Index_ev (l : List Int) (x : Int) (hn : l.length ≤ 17592186044416) : Ev (fun k => slices_Index_int_int.f k l x) (idx l x) := by
  unfold slices_Index_int_int.f
  exact Index_l l x hn l.length 0 (by omega) (fun j hj => by omega)

theorem Contains_ev (l : List Int) (x : Int) (hn : l.length ≤ 17592186044416) : Ev (fun k => slices_Contains_int_int.f k l x) (l.contains x) := by
  unfold slices_Contains_int_int.f
  exact Ev.bind (Index_ev l x hn) (Ev.val (idx_contains l x))

theorem isOrder_l (l : List Int) (hn : l.length ≤ 17592186044416) : ∀ (d i : Nat), l.length = i + d → Ev (fun k => impl_isOrder.l0 k l l (l.length : Int) i) (allFrom (ordAt l) d i)
  | 0, i, h => by
    refine Ev.step (fun k => by rw [impl_isOrder.l0]) ?_
    exact Ev.neg (by omega) (Ev.val rfl)
  | d + 1, i, h => by
    refine Ev.step (fun k => by rw [impl_isOrder.l0]) ?_
    have e : wrap64 ((i : Int) + 1) = ((i + 1 : Nat) : Int) := by rw [w64 (by omega)]; omega
    simp only [e, rd_nat, Int.toNat_natCast]
    refine Ev.pos (by omega) (Ev.pos (by omega) (Ev.pos (by omega) (Ev.ite (fun hc => Ev.val ?_) (fun hc => Ev.ite (fun hd => Ev.val ?_) (fun hd => Ev.pos (by omega) ?_)))))
    · have : ¬ 1 ≤ nth l i := by omega
      rw [allFrom, ordAt]; simp [this]
    · have : ¬ nth l i ≤ l.length := by omega
      rw [allFrom, ordAt]; simp [this]
    · refine Ev.bind (Contains_ev _ _ (by simp; omega)) ?_
      refine Ev.ite (fun hb => Ev.val ?_) (fun hb => (isOrder_l l hn d (i + 1) (by omega)).to ?_)
      · rw [allFrom, ordAt, hb]; simp
      · rw [Bool.not_eq_true] at hb
        have h1 : 1 ≤ nth l i := by omega
        have h2 : nth l i ≤ l.length := by omega
        rw [allFrom, ordAt, hb]; simp [h1, h2]
theorem isOrder_ev (l : List Int) (hn : l.length ≤ 17592186044416) : Ev (fun k => impl_isOrder.f k l) (isOrd l) := by
  unfold impl_isOrder.f
  refine Ev.ite (fun hc => ?_) (fun hc => ?_)
  · refine Ev.step (fun k => by rw [impl_isOrder.j0]) ?_
    refine Ev.pos rfl (Ev.val ?_)
    have : ¬ 1 ≤ l.length := by omega
    simp [isOrd, this]
  · refine Ev.step (fun k => by rw [impl_isOrder.j0]) ?_
    simp only [decide_eq_true_eq]
    refine Ev.ite (fun hd => Ev.val ?_) (fun hd => (isOrder_l l hn l.length 0 (by omega)).to ?_)
    · have : ¬ l.length ≤ 7 := by omega
      simp [isOrd, this]
    · have h1 : 1 ≤ l.length := by omega
      have h2 : l.length ≤ 7 := by omega
      simp [isOrd, h1, h2]

theorem l1Own_is (l : List Int) (h : l.length < 17592186044416) : spec_l1Own.f l = some l := by
  unfold spec_l1Own.f
  simp [h]

theorem IndexFunc_l (of_ : Nat → Int → Option Bool) (p : Int → Bool) (l : List Int) (hn : l.length ≤ 17592186044416) (hof : ∀ k x, x ∈ l → of_ k x = some (p x)) : ∀ (d i : Nat), l.length = i + d → Ev (fun k => slices_IndexFunc_int_int.l0 of_ k l (l.length : Int) i) (if idxF p (l.drop i) < 0 then -1 else idxF p (l.drop i) + i)
  | 0, i, h => by
    refine Ev.step (fun k => by rw [slices_IndexFunc_int_int.l0]) ?_
    refine Ev.neg (by omega) (Ev.val ?_)
    rw [List.drop_of_length_le (by omega)]; rfl
  | d + 1, i, h => by
    refine Ev.step (fun k => by rw [slices_IndexFunc_int_int.l0]) ?_
    have e : wrap64 ((i : Int) + 1) = ((i + 1 : Nat) : Int) := by rw [w64 (by omega)]; omega
    have hm : nth l i ∈ l := by rw [nth_lt l i (by omega)]; exact List.getElem_mem _
    have hq : ∀ k, of_ k (nth l i) = some (p (nth l i)) := fun k => hof k _ hm
    simp only [e, rd_nat, hq, Option.bind_some]
    rw [drop_step l i (by omega)]
    have hg := idxF_ge p (l.drop (i + 1))
    refine Ev.pos (by omega) (Ev.pos (by omega) (Ev.pos (by omega) (Ev.ite (fun hc => Ev.val ?_) (fun hc => ?_))))
    · simp [idxF, hc]
    · refine (IndexFunc_l of_ p l hn hof d (i + 1) (by omega)).to ?_
      simp only [idxF, if_neg hc]
      split
      · simp
      · rw [if_neg (by omega)]; omega
theorem ContainsFunc_ev (of_ : Nat → Int → Option Bool) (p : Int → Bool) (l : List Int) (s : ByteArray) (hn : l.length ≤ 17592186044416) (hof : ∀ k x, x ∈ l → of_ k x = some (p x)) : Ev (fun k => slices_ContainsFunc_int_int.f of_ k l s) (l.any p) := by
  unfold slices_ContainsFunc_int_int.f slices_IndexFunc_int_int.f
  refine Ev.bind (IndexFunc_l of_ p l hn hof l.length 0 (by omega)) (Ev.val ?_)
  rw [← idxF_any p l, List.drop_zero]
  have hg := idxF_ge p l
  by_cases h : idxF p l < 0
  · have : ¬ 0 ≤ idxF p l := by omega
    simp [h, this]
  · have h1 : 0 ≤ idxF p l := by omega
    simp [h, h1]

/-! conflicts -/
theorem isOrd_ne2 {l : List Int} (h : isOrd l = true) (i j : Nat) (h0 : i < j) (hi : j < l.length) : nth l i ≠ nth l j := by
  intro e
  refine (isOrd_at h j hi).2.2 ?_
  rw [← e, nth_lt l i (by omega), List.mem_take_iff_getElem]
  exact ⟨i, by omega, rfl⟩
def lessThan (n x : Int) : Bool := decide (x < n)
def conf (l : List Int) (i j : Nat) : Bool := decide (nth l i < nth l j) && (l.drop (j + 1)).any (lessThan (nth l i))
theorem l7Conflict_l (l : List Int) (hn : l.length ≤ 1000) (i : Nat) (hi : i < l.length) : ∀ (d j : Nat), l.length = j + d → Ev (fun k => spec_l7Conflict.l0 k l i j) ((l.drop j).any (lessThan (nth l i)))
  | 0, j, h => by
    refine Ev.step (fun k => by rw [spec_l7Conflict.l0]) ?_
    refine Ev.neg (by omega) (Ev.val ?_)
    rw [List.drop_of_length_le (by omega)]; rfl
  | d + 1, j, h => by
    refine Ev.step (fun k => by rw [spec_l7Conflict.l0]) ?_
    have e : wrap64 ((j : Int) + 1) = ((j + 1 : Nat) : Int) := by rw [w64 (by omega)]; omega
    simp only [e, rd_nat]
    rw [drop_step l j (by omega), List.any_cons]
    refine Ev.pos (by omega) (Ev.pos (by omega) (Ev.pos (by omega) (Ev.pos (by omega) (Ev.ite (fun hc => Ev.val ?_) (fun hc => ?_)))))
    · simp [lessThan, hc]
    · have hb : lessThan (nth l i) (nth l j) = false := by simp [lessThan]; omega
      rw [hb, Bool.false_or]
      exact l7Conflict_l l hn i hi d (j + 1) (by omega)
theorem specConflict_ev (l : List Int) (ho : isOrd l = true) (i j : Nat) (hij : i < j) (hj : j < l.length) : Ev (fun k => spec_l7Conflict.f k l i j) (conf l i j) := by
  have hl := isOrd_len ho
  have hne := isOrd_ne2 ho i j hij hj
  unfold spec_l7Conflict.f
  have e : wrap64 ((j : Int) + 1) = ((j + 1 : Nat) : Int) := by rw [w64 (by omega)]; omega
  simp only [e, rd_nat]
  refine Ev.pos (by omega) (Ev.pos (by omega) (Ev.pos (by omega) (Ev.pos (by omega) (Ev.ite (fun hc => Ev.val ?_) (fun hc => ?_)))))
  · have : ¬ nth l i < nth l j := by omega
    simp [conf, this]
  · have h1 : nth l i < nth l j := by omega
    refine (l7Conflict_l l (by omega) i (by omega) (l.length - (j + 1)) (j + 1) (by omega)).to ?_
    simp [conf, h1]
theorem implConflict_ev (l : List Int) (ho : isOrd l = true) (i j : Nat) (hij : i < j) (hj : j < l.length) : Ev (fun k => impl_isConflict.f k l i j) (conf l i j) := by
  have hl := isOrd_len ho
  unfold impl_isConflict.f
  have e : wrap64 ((j : Int) + 1) = ((j + 1 : Nat) : Int) := by rw [w64 (by omega)]; omega
  simp only [e, rd_nat, Int.toNat_natCast]
  refine Ev.pos (by omega) (Ev.pos (by omega) (Ev.pos (by omega) (Ev.pos (by omega) (Ev.ite (fun hc => Ev.pos (by omega) (Ev.pos (by omega) ?_)) (fun hc => Ev.val ?_)))))
  · refine Ev.bind (ContainsFunc_ev _ (lessThan (nth l i)) _ _ (by simp; omega) (fun k x _ => ?_)) (Ev.val ?_)
    · unfold impl_isConflict_1.f
      rw [if_pos (by omega), if_pos (by omega)]
      rfl
    · have h1 : nth l i < nth l j := by omega
      simp [conf, h1]
  · have : ¬ nth l i < nth l j := by omega
    simp [conf, this]
def mayB (l s : List Int) (j : Nat) (x : Int) : Bool := allFrom (fun i => !(decide (nth s i = x) && conf l i j)) j 0
theorem mayBe_l (l s : List Int) (ho : isOrd l = true) (j : Nat) (hj : j < l.length) (hs : j ≤ s.length) (x : Int) : ∀ (d i : Nat), j = i + d → Ev (fun k => impl_mayBe.l0 k l s j x j i) (allFrom (fun i => !(decide (nth s i = x) && conf l i j)) d i)
  | 0, i, h => by
    refine Ev.step (fun k => by rw [impl_mayBe.l0]) ?_
    exact Ev.neg (by omega) (Ev.val rfl)
  | d + 1, i, h => by
    have hl := isOrd_len ho
    refine Ev.step (fun k => by rw [impl_mayBe.l0]) ?_
    have e : wrap64 ((i : Int) + 1) = ((i + 1 : Nat) : Int) := by rw [w64 (by omega)]; omega
    simp only [e, rd_nat, allFrom]
    refine Ev.pos (by omega) (Ev.pos (by omega) (Ev.pos (by omega) (Ev.ite (fun hc => ?_) (fun hc => ?_))))
    · refine Ev.bind (implConflict_ev l ho i j (by omega) hj) (Ev.ite (fun hd => Ev.val ?_) (fun hd => (mayBe_l l s ho j hj hs x d (i + 1) (by omega)).to ?_))
      · simp [hc, hd]
      · rw [Bool.not_eq_true] at hd; simp [hd]
    · refine (mayBe_l l s ho j hj hs x d (i + 1) (by omega)).to ?_
      simp [hc]
theorem mayBe_ev (l s : List Int) (ho : isOrd l = true) (j : Nat) (hj : j < l.length) (hs : j ≤ s.length) (x : Int) : Ev (fun k => impl_mayBe.f k l s j x) (mayB l s j x) := by
  unfold impl_mayBe.f
  exact mayBe_l l s ho j hj hs x j 0 (by omega)
def fits (l s : List Int) : Bool := allFrom (fun j => mayB l s j (nth s j)) s.length 0
theorem l7Fits_l1 (l s : List Int) (ho : isOrd l = true) (j : Nat) (hj : j < s.length) (hs : s.length ≤ l.length) (r : Bool) (hr : Ev (fun k => spec_l7Fits.l0 k l s ((j + 1 : Nat) : Int)) r) : ∀ (d i : Nat), j = i + d → Ev (fun k => spec_l7Fits.l1 k l s j i) (allFrom (fun i => !(decide (nth s i = nth s j) && conf l i j)) d i && r)
  | 0, i, h => by
    have hl := isOrd_len ho
    refine Ev.step (fun k => by rw [spec_l7Fits.l1]) ?_
    have e : wrap64 ((j : Int) + 1) = ((j + 1 : Nat) : Int) := by rw [w64 (by omega)]; omega
    simp only [e]
    exact Ev.neg (by omega) (hr.to (by simp [allFrom]))
  | d + 1, i, h => by
    have hl := isOrd_len ho
    refine Ev.step (fun k => by rw [spec_l7Fits.l1]) ?_
    have e : wrap64 ((i : Int) + 1) = ((i + 1 : Nat) : Int) := by rw [w64 (by omega)]; omega
    simp only [e, rd_nat, allFrom]
    refine Ev.pos (by omega) (Ev.pos (by omega) (Ev.pos (by omega) (Ev.pos (by omega) (Ev.pos (by omega) (Ev.ite (fun hc => ?_) (fun hc => ?_))))))
    · refine Ev.bind (specConflict_ev l ho i j (by omega) (by omega)) (Ev.ite (fun hd => Ev.val ?_) (fun hd => (l7Fits_l1 l s ho j hj hs r hr d (i + 1) (by omega)).to ?_))
      · simp [hc, hd]
      · rw [Bool.not_eq_true] at hd; simp [hd]
    · refine (l7Fits_l1 l s ho j hj hs r hr d (i + 1) (by omega)).to ?_
      simp [hc]
theorem l7Fits_l (l s : List Int) (ho : isOrd l = true) (hs : s.length ≤ l.length) : ∀ (d j : Nat), s.length = j + d → Ev (fun k => spec_l7Fits.l0 k l s j) (allFrom (fun j => mayB l s j (nth s j)) d j)
  | 0, j, h => by
    refine Ev.step (fun k => by rw [spec_l7Fits.l0]) ?_
    exact Ev.neg (by omega) (Ev.val rfl)
  | d + 1, j, h => by
    refine Ev.step (fun k => by rw [spec_l7Fits.l0]) ?_
    refine Ev.pos (by omega) ?_
    exact l7Fits_l1 l s ho j (by omega) hs _ (l7Fits_l l s ho hs d (j + 1) (by omega)) j 0 (by omega)
theorem l7Fits_ev (l s : List Int) (ho : isOrd l = true) (hs : s.length ≤ l.length) : Ev (fun k => spec_l7Fits.f k l s) (fits l s) := by
  unfold spec_l7Fits.f
  exact l7Fits_l l s ho hs s.length 0 (by omega)

/-! a sharing with one more place -/
theorem nth_append_lt (s : List Int) (x : Int) (i : Nat) (h : i < s.length) : nth (s ++ [x]) i = nth s i := by
  rw [nth_lt _ _ (by simp; omega), nth_lt _ _ h, List.getElem_append_left h]
theorem allFrom_congr (p q : Nat → Bool) : ∀ d i, (∀ j, i ≤ j → j < i + d → p j = q j) → allFrom p d i = allFrom q d i
  | 0, i, _ => rfl
  | d + 1, i, h => by
    rw [allFrom, allFrom, h i (by omega) (by omega), allFrom_congr p q d (i + 1) fun j h1 h2 => h j (by omega) (by omega)]
theorem allFrom_snoc (p : Nat → Bool) : ∀ d i, allFrom p (d + 1) i = (allFrom p d i && p (i + d))
  | 0, i => by simp [allFrom]
  | d + 1, i => by
    rw [allFrom, allFrom_snoc p d (i + 1), allFrom, Bool.and_assoc]
    congr 3
    omega
theorem mayB_append (l s : List Int) (x : Int) (j : Nat) (hj : j ≤ s.length) (y : Int) : mayB l (s ++ [x]) j y = mayB l s j y := by
  unfold mayB
  refine allFrom_congr _ _ j 0 fun i _ h => ?_
  rw [nth_append_lt s x i (by omega)]
theorem fits_snoc (l s : List Int) (x : Int) : fits l (s ++ [x]) = (fits l s && mayB l s s.length x) := by
  unfold fits
  rw [List.length_append, List.length_singleton, allFrom_snoc, Nat.zero_add, nth_snoc, mayB_append l s x s.length (Nat.le_refl _)]
  congr 1
  refine allFrom_congr _ _ _ _ fun j _ h => ?_
  rw [nth_append_lt s x j (by omega), mayB_append l s x j (by omega)]

/-! all fitting sharings over n stacks that begin with s, in order -/
def leaves (l : List Int) (n : Nat) : Nat → List Int → List (List Int)
  | 0, s => [s]
  | r + 1, s => (List.range' 0 n).flatMap fun (x : Nat) => if mayB l s s.length (x : Int) = true then leaves l n r (s ++ [(x : Int)]) else []
def stepL (l : List Int) (n r : Nat) (s : List Int) (x : Nat) : List (List Int) := if mayB l s s.length (x : Int) = true then leaves l n r (s ++ [(x : Int)]) else []
theorem leaves_succ (l : List Int) (n r : Nat) (s : List Int) : leaves l n (r + 1) s = (List.range' 0 n).flatMap (stepL l n r s) := rfl
theorem flatMap_bound {f : Nat → List (List Int)} {M : Nat} (h : ∀ x, (f x).length ≤ M) : ∀ xs : List Nat, (xs.flatMap f).length ≤ xs.length * M
  | [] => by simp
  | x :: xs => by
    have h1 := h x
    have h2 := flatMap_bound h xs
    rw [List.flatMap_cons, List.length_append, List.length_cons, Nat.succ_mul]
    omega
theorem leaves_bound (l : List Int) (n : Nat) : ∀ r s, (leaves l n r s).length ≤ n ^ r
  | 0, s => by simp [leaves]
  | r + 1, s => by
    have h := flatMap_bound (f := stepL l n r s) (M := n ^ r) (fun x => by
      unfold stepL
      split
      · exact leaves_bound l n r _
      · simp) (List.range' 0 n)
    rw [leaves_succ, Nat.pow_succ, Nat.mul_comm]
    simpa using h
theorem pow_small {n r : Nat} (hn : n ≤ 7) (hr : r ≤ 7) : n ^ r ≤ 823543 := by
  calc n ^ r ≤ 7 ^ r := Nat.pow_le_pow_left hn r
    _ ≤ 7 ^ 7 := Nat.pow_le_pow_right (by omega) hr
    _ = 823543 := by rfl

theorem head_append (A B : List (List Int)) : (A ++ B).headD [] = if A.length = 0 then B.headD [] else A.headD [] := by
  cases A <;> simp
theorem l7Go_l (l : List Int) (ho : isOrd l = true) (n : Nat) (hn : n ≤ 7) (r : Nat) (s : List Int) (hs : l.length = s.length + (r + 1)) (hf : fits l s = true)
    (ih : ∀ s, l.length = s.length + r → fits l s = true → Ev (fun k => spec_l7Go.f k l s n) ((leaves l n r s).headD [], ((leaves l n r s).length : Int))) :
    ∀ (d x : Nat) (A : List (List Int)), n = x + d → (A ++ (List.range' x d).flatMap (stepL l n r s)).length ≤ 1000000 → Ev (fun k => spec_l7Go.l0 k l s n (A.headD []) (A.length : Int) x) ((A ++ (List.range' x d).flatMap (stepL l n r s)).headD [], ((A ++ (List.range' x d).flatMap (stepL l n r s)).length : Int))
  | 0, x, A, h, hb => by
    refine Ev.step (fun k => by rw [spec_l7Go.l0]) ?_
    refine Ev.neg (by omega) (Ev.val ?_)
    simp
  | d + 1, x, A, h, hb => by
    have hl := isOrd_len ho
    have e1 : wrap64 ((x : Int) + 1) = ((x + 1 : Nat) : Int) := wup x (by omega)
    have hB : Ev (fun k => spec_l7Go.f k l (s ++ [(x : Int)]) n) ((stepL l n r s x).headD [], ((stepL l n r s x).length : Int)) := by
      unfold stepL
      by_cases hm : mayB l s s.length (x : Int) = true
      · rw [if_pos hm]
        exact ih (s ++ [(x : Int)]) (by simp; omega) (by rw [fits_snoc, hf, hm]; rfl)
      · rw [if_neg hm]
        refine Ev.step (fun k => by rw [spec_l7Go.f]) ?_
        refine Ev.bind (l7Fits_ev l (s ++ [(x : Int)]) ho (by simp; omega)) (Ev.neg ?_ (Ev.val rfl))
        rw [fits_snoc, hf]
        simp [hm]
    have hA := l7Go_l l ho n hn r s hs hf ih d (x + 1) (A ++ stepL l n r s x) (by omega)
    rw [List.range'_succ, List.flatMap_cons, ← List.append_assoc] at hb ⊢
    have hA := hA hb
    generalize stepL l n r s x = B at hB hA hb ⊢
    have hlen : A.length + B.length ≤ 1000000 := by
      rw [List.length_append, List.length_append] at hb
      omega
    have e2 : wrap64 ((A.length : Int) + (B.length : Int)) = ((A ++ B).length : Int) := by rw [w64 (by omega), List.length_append]; omega
    refine Ev.step (fun k => by rw [spec_l7Go.l0]) ?_
    simp only [l1Own_is s (by omega), Option.bind_some, e1]
    refine Ev.pos (by omega) (Ev.pos (by omega) (Ev.bind hB ?_))
    simp only [e2]
    rw [head_append] at hA
    refine Ev.ite (fun h0 => Ev.ite (fun h1 => ?_) (fun h1 => ?_)) (fun h0 => ?_)
    · rw [if_pos (by omega)] at hA; exact hA
    · have hb0 : B = [] := List.eq_nil_of_length_eq_zero (by omega)
      have ha0 : A = [] := List.eq_nil_of_length_eq_zero (by omega)
      subst hb0 ha0
      exact hA
    · rw [if_neg (by omega)] at hA; exact hA
theorem l7Go_ev (l : List Int) (ho : isOrd l = true) (n : Nat) (hn : n ≤ 7) : ∀ (r : Nat) (s : List Int), l.length = s.length + r → fits l s = true → Ev (fun k => spec_l7Go.f k l s n) ((leaves l n r s).headD [], ((leaves l n r s).length : Int))
  | 0, s, hs, hf => by
    refine Ev.step (fun k => by rw [spec_l7Go.f]) ?_
    exact Ev.bind (l7Fits_ev l s ho (by omega)) (Ev.pos hf (Ev.pos (by omega) (Ev.val rfl)))
  | r + 1, s, hs, hf => by
    have hl := isOrd_len ho
    refine Ev.step (fun k => by rw [spec_l7Go.f]) ?_
    refine Ev.bind (l7Fits_ev l s ho (by omega)) (Ev.pos hf (Ev.neg (by omega) ?_))
    have hb := leaves_bound l n (r + 1) s
    have hp := pow_small hn (show r + 1 ≤ 7 by omega)
    rw [leaves_succ] at hb
    exact l7Go_l l ho n hn r s hs hf (l7Go_ev l ho n hn r) n 0 [] (by omega) (by rw [List.nil_append]; omega)

def runL {σ : Type} (st : σ → List Int → σ × Bool) : List (List Int) → σ → σ × Bool
  | [], s => (s, false)
  | d :: ds, s => if (st s d).2 = true then ((st s d).1, true) else runL st ds (st s d).1
theorem runL_append {σ : Type} (st : σ → List Int → σ × Bool) : ∀ (A B : List (List Int)) (s : σ), runL st (A ++ B) s = if (runL st A s).2 = true then ((runL st A s).1, true) else runL st B (runL st A s).1
  | [], B, s => by simp [runL]
  | a :: A, B, s => by
    rw [List.cons_append, runL, runL, runL_append st A B]
    by_cases h : (st s a).2 = true
    · simp [h]
    · simp [h]
theorem sh_l {σ : Type} (of_ : Nat → σ → List Int → Option (σ × Bool)) (st : σ → List Int → σ × Bool) (l : List Int) (ho : isOrd l = true) (n : Nat) (hn : n ≤ 7) (r : Nat) (d : List Int) (hd : l.length = d.length + (r + 1))
    (ih : ∀ d s, l.length = d.length + r → Ev (fun k => impl_sharings_1.f of_ k l n s d) (runL st (leaves l n r d) s)) :
    ∀ (e x : Nat) (s : σ), n = x + e → Ev (fun k => impl_sharings_1.l0 of_ k l n s d x) (runL st ((List.range' x e).flatMap (stepL l n r d)) s)
  | 0, x, s, h => by
    refine Ev.step (fun k => by rw [impl_sharings_1.l0]) ?_
    exact Ev.neg (by omega) (Ev.val rfl)
  | e + 1, x, s, h => by
    have hl := isOrd_len ho
    rw [List.range'_succ, List.flatMap_cons, runL_append]
    refine Ev.step (fun k => by rw [impl_sharings_1.l0]) ?_
    refine Ev.pos (by omega) (Ev.pos (by omega) (Ev.bind (mayBe_ev l d ho d.length (by omega) (Nat.le_refl _) x) ?_))
    have hn1 : ((x : Int) + 1) = ((x + 1 : Nat) : Int) := by omega
    simp only [hn1]
    have hnext := fun s => sh_l of_ st l ho n hn r d hd ih e (x + 1) s (by omega)
    refine Ev.ite (fun hm => Ev.pos (by omega) ?_) (fun hm => ?_)
    · have e1 : stepL l n r d x = leaves l n r (d ++ [(x : Int)]) := by rw [stepL, if_pos hm]
      rw [e1]
      refine Ev.bind (ih (d ++ [(x : Int)]) s (by simp; omega)) (Ev.ite (fun h1 => ?_) (fun h1 => ?_))
      · rw [if_pos h1]; exact Ev.val rfl
      · rw [if_neg h1]; exact hnext _
    · have e1 : stepL l n r d x = [] := by rw [stepL, if_neg hm]
      rw [e1]
      exact hnext s
theorem sh_ev {σ : Type} (of_ : Nat → σ → List Int → Option (σ × Bool)) (st : σ → List Int → σ × Bool) (hof : ∀ s d, Ev (fun k => of_ k s d) (st s d)) (l : List Int) (ho : isOrd l = true) (n : Nat) (hn : n ≤ 7) : ∀ (r : Nat) (d : List Int) (s : σ), l.length = d.length + r → Ev (fun k => impl_sharings_1.f of_ k l n s d) (runL st (leaves l n r d) s)
  | 0, d, s, hd => by
    refine Ev.step (fun k => by rw [impl_sharings_1.f]) ?_
    refine Ev.pos (by omega) ((hof s d).to ?_)
    rw [leaves, runL, runL]
    by_cases h : (st s d).2 = true
    · rw [if_pos h, ← h]
    · rw [if_neg h, ← Bool.eq_false_iff.mpr h]
  | r + 1, d, s, hd => by
    refine Ev.step (fun k => by rw [impl_sharings_1.f]) ?_
    refine Ev.neg (by omega) ?_
    exact sh_l of_ st l ho n hn r d hd (fun d s h => sh_ev of_ st hof l ho n hn r d s h) n 0 s (by omega)
theorem sharings_ev {σ : Type} (of_ : Nat → σ → List Int → Option (σ × Bool)) (st : σ → List Int → σ × Bool) (hof : ∀ s d, Ev (fun k => of_ k s d) (st s d)) (l : List Int) (ho : isOrd l = true) (n : Nat) (hn : n ≤ 7) (s : σ) : Ev (fun k => impl_sharings.f of_ k l n s) (runL st (leaves l n l.length []) s).1 := by
  unfold impl_sharings.f
  exact Ev.bind (sh_ev of_ st hof l ho n hn l.length [] s (by simp)) (Ev.val rfl)

/-! the fewest stacks: the stacks need not be told apart -/
theorem flatMap_ne {α β : Type} {f : α → List β} {xs : List α} : xs.flatMap f ≠ [] ↔ ∃ x ∈ xs, f x ≠ [] := by
  rw [ne_eq, List.flatMap_eq_nil_iff]
  constructor
  · intro h
    exact Classical.byContradiction fun h2 => h fun x hx => Classical.byContradiction fun h3 => h2 ⟨x, hx, h3⟩
  · rintro ⟨x, hx, h⟩ h2
    exact h (h2 x hx)
theorem leaves_ne {l : List Int} {n r : Nat} {s : List Int} : leaves l n (r + 1) s ≠ [] ↔ ∃ x : Nat, x < n ∧ mayB l s s.length (x : Int) = true ∧ leaves l n r (s ++ [(x : Int)]) ≠ [] := by
  rw [leaves_succ, flatMap_ne]
  constructor
  · rintro ⟨x, hx, h⟩
    rw [List.mem_range'_1] at hx
    unfold stepL at h
    split at h
    · rename_i hm
      exact ⟨x, by omega, hm, h⟩
    · exact absurd rfl h
  · rintro ⟨x, hx, hm, h⟩
    refine ⟨x, by rw [List.mem_range'_1]; omega, ?_⟩
    rw [stepL, if_pos hm]
    exact h
theorem mayB_map {l s : List Int} {σ : Int → Int} (hi : ∀ x y, σ x = σ y → x = y) (x : Int) : mayB l (s.map σ) s.length (σ x) = mayB l s s.length x := by
  unfold mayB
  refine allFrom_congr _ _ _ _ fun i _ h => ?_
  have h1 : nth (s.map σ) i = σ (nth s i) := by rw [nth_lt _ _ (by simp; omega), nth_lt _ _ (by omega), List.getElem_map]
  rw [h1]
  have h2 : (σ (nth s i) = σ x) = (nth s i = x) := by
    apply propext
    exact ⟨hi _ _, fun h => by rw [h]⟩
  simp only [h2]
theorem leaves_map {l : List Int} {n : Nat} {σ : Int → Int} (hi : ∀ x y, σ x = σ y → x = y) (hr : ∀ x : Nat, x < n → ∃ y : Nat, y < n ∧ σ x = y) : ∀ (r : Nat) (s : List Int), leaves l n r s ≠ [] → leaves l n r (s.map σ) ≠ []
  | 0, s, h => by simp [leaves]
  | r + 1, s, h => by
    obtain ⟨x, hx, hm, h2⟩ := leaves_ne.1 h
    obtain ⟨y, hy, e⟩ := hr x hx
    refine leaves_ne.2 ⟨y, hy, ?_, ?_⟩
    · rw [← e, List.length_map, mayB_map hi]; exact hm
    · have := leaves_map hi hr r _ h2
      rw [List.map_append, List.map_cons, List.map_nil, e] at this
      exact this
def swapI (a b x : Int) : Int := if x = a then b else if x = b then a else x
theorem swapI_inj (a b x y : Int) (h : swapI a b x = swapI a b y) : x = y := by
  unfold swapI at h
  split at h <;> split at h <;> (try split at h) <;> (try split at h) <;> omega
def canM (l : List Int) (n : Nat) : Nat → List Int → Nat → Bool
  | 0, _, _ => true
  | r + 1, s, u => (List.range' 0 n).any fun (x : Nat) => decide (x ≤ u) && (mayB l s s.length (x : Int) && canM l n r (s ++ [(x : Int)]) (max u (x + 1)))
theorem canM_iff (l : List Int) (n : Nat) : ∀ (r : Nat) (s : List Int) (u : Nat), (∀ y ∈ s, y < u) → (canM l n r s u = true ↔ leaves l n r s ≠ [])
  | 0, s, u, h => by simp [canM, leaves]
  | r + 1, s, u, h => by
    have hnext : ∀ x : Nat, (canM l n r (s ++ [(x : Int)]) (max u (x + 1)) = true ↔ leaves l n r (s ++ [(x : Int)]) ≠ []) := fun x => canM_iff l n r _ _ (fun y hy => by
      rcases List.mem_append.1 hy with hy | hy
      · have := h y hy; omega
      · rw [List.mem_singleton] at hy; omega)
    rw [canM, List.any_eq_true]
    simp only [Bool.and_eq_true, decide_eq_true_eq, hnext, List.mem_range'_1]
    constructor
    · rintro ⟨x, hx, _, hm, h2⟩
      exact leaves_ne.2 ⟨x, by omega, hm, h2⟩
    · intro hL
      obtain ⟨x, hx, hm, h2⟩ := leaves_ne.1 hL
      by_cases hu : x ≤ u
      · exact ⟨x, by omega, hu, hm, h2⟩
      · have hs : s.map (swapI x u) = s := by
          conv => rhs; rw [← List.map_id s]
          apply List.map_congr_left
          intro y hy
          have := h y hy
          unfold swapI
          rw [if_neg (by omega), if_neg (by omega)]
          rfl
        have e : swapI x u x = u := by simp [swapI]
        refine ⟨u, by omega, Nat.le_refl _, ?_, ?_⟩
        · have := mayB_map (l := l) (s := s) (swapI_inj x u) x
          rw [hs, e] at this
          rw [this]; exact hm
        · have := leaves_map (l := l) (n := n) (swapI_inj x u) (fun z hz => by
            by_cases h1 : z = x
            · exact ⟨u, by omega, by subst h1; exact e⟩
            · by_cases h2 : z = u
              · exact ⟨x, hx, by subst h2; unfold swapI; rw [if_neg (by omega), if_pos rfl]⟩
              · exact ⟨z, hz, by unfold swapI; rw [if_neg (by omega), if_neg (by omega)]⟩) r _ h2
          rw [List.map_append, hs, List.map_cons, List.map_nil, e] at this
          exact this
theorem leaves_more {l : List Int} {n : Nat} : ∀ (r : Nat) (s : List Int), leaves l n r s ≠ [] → leaves l (n + 1) r s ≠ []
  | 0, s, _ => by simp [leaves]
  | r + 1, s, h => by
    obtain ⟨x, hx, hm, h2⟩ := leaves_ne.1 h
    exact leaves_ne.2 ⟨x, by omega, hm, leaves_more r _ h2⟩
theorem leaves_own {l : List Int} {n : Nat} : ∀ (r : Nat) (s : List Int), s.length + r ≤ n → (∀ y ∈ s, y < s.length) → leaves l n r s ≠ []
  | 0, s, _, _ => by simp [leaves]
  | r + 1, s, h, hs => by
    refine leaves_ne.2 ⟨s.length, by omega, ?_, leaves_own r _ (by simp; omega) (fun y hy => ?_)⟩
    · unfold mayB
      refine (allFrom_iff _ _ _).2 fun i _ hi => ?_
      have h1 := hs (nth s i) (by rw [nth_lt _ _ (by omega)]; exact List.getElem_mem _)
      have h2 : ¬ nth s i = (s.length : Int) := by omega
      simp [h2]
    · rw [List.length_append, List.length_singleton]
      rcases List.mem_append.1 hy with hy | hy
      · have := hs y hy; omega
      · rw [List.mem_singleton] at hy; omega
def hasL (l : List Int) (n : Nat) : Bool := !(leaves l n l.length []).isEmpty
theorem hasL_iff {l : List Int} {n : Nat} : hasL l n = true ↔ leaves l n l.length [] ≠ [] := by
  unfold hasL
  cases leaves l n l.length [] <;> simp
theorem hasL_7 {l : List Int} (h : l.length ≤ 7) : hasL l 7 = true := hasL_iff.2 (leaves_own _ _ (by simp; omega) (by simp))
theorem hasL_mono {l : List Int} {n m : Nat} (h : n ≤ m) (hn : hasL l n = true) : hasL l m = true := by
  induction m with
  | zero => obtain rfl : n = 0 := by omega
            exact hn
  | succ m ih =>
    by_cases e : n = m + 1
    · subst e; exact hn
    · exact hasL_iff.2 (leaves_more _ _ (hasL_iff.1 (ih (by omega))))
theorem canM_hasL (l : List Int) (n : Nat) : canM l n l.length [] 0 = hasL l n := Bool.eq_iff_iff.2 ((canM_iff l n l.length [] 0 (by simp)).trans hasL_iff.symm)
theorem l1Most_is (a b : Nat) : spec_l1Most.f a b = some ((max a b : Nat) : Int) := by
  unfold spec_l1Most.f
  by_cases h : (a : Int) > b
  · rw [if_pos h]; congr 1; omega
  · rw [if_neg h]; congr 1; omega
theorem any_none {u : Nat} (p : Nat → Bool) : ∀ (d x : Nat), u < x → (List.range' x d).any (fun y => decide (y ≤ u) && p y) = false
  | 0, x, _ => rfl
  | d + 1, x, h => by
    rw [List.range'_succ, List.any_cons, any_none p d (x + 1) (by omega)]
    have : ¬ x ≤ u := by omega
    simp [this]
theorem l7Can_l (l : List Int) (ho : isOrd l = true) (n : Nat) (hn : n ≤ 7) (r : Nat) (s : List Int) (u : Nat) (hu : u ≤ 7) (hs : l.length = s.length + (r + 1)) (hf : fits l s = true)
    (ih : ∀ (s : List Int) (u : Nat), u ≤ 7 → l.length = s.length + r → fits l s = true → Ev (fun k => spec_l7Can.f k l s (u : Int) (n : Int)) (canM l n r s u)) :
    ∀ (d x : Nat), n = x + d → Ev (fun k => spec_l7Can.l0 k l s (u : Int) (n : Int) (x : Int)) ((List.range' x d).any fun (x : Nat) => decide (x ≤ u) && (mayB l s s.length (x : Int) && canM l n r (s ++ [(x : Int)]) (max u (x + 1))))
  | 0, x, h => by
    refine Ev.step (fun k => by rw [spec_l7Can.l0]) ?_
    have e : decide ((x : Int) < n) = false := decide_eq_false (by omega)
    simp only [e]
    refine Ev.ite (fun _ => ?_) (fun _ => ?_)
    · refine Ev.step (fun k => by rw [spec_l7Can.j1]) ?_
      exact Ev.neg (by simp) (Ev.val rfl)
    · refine Ev.step (fun k => by rw [spec_l7Can.j1]) ?_
      exact Ev.neg (by simp) (Ev.val rfl)
  | d + 1, x, h => by
    have hl := isOrd_len ho
    refine Ev.step (fun k => by rw [spec_l7Can.l0]) ?_
    by_cases hxu : x ≤ u
    · have e : decide ((x : Int) < n) = true := decide_eq_true (by omega)
      simp only [e]
      refine Ev.pos (by omega) ?_
      refine Ev.step (fun k => by rw [spec_l7Can.j1]) ?_
      have e1 : wrap64 ((x : Int) + 1) = ((x + 1 : Nat) : Int) := wup x (by omega)
      simp only [e1, l1Own_is s (by omega), Option.bind_some, l1Most_is]
      refine Ev.pos trivial (Ev.pos (by omega) ?_)
      have hnext := l7Can_l l ho n hn r s u hu hs hf ih d (x + 1) (by omega)
      rw [List.range'_succ, List.any_cons, decide_eq_true hxu, Bool.true_and]
      by_cases hm : mayB l s s.length (x : Int) = true
      · rw [hm, Bool.true_and]
        refine Ev.bind (ih (s ++ [(x : Int)]) (max u (x + 1)) (by omega) (by simp; omega) (by rw [fits_snoc, hf, hm]; rfl)) (Ev.ite (fun hc => Ev.val ?_) (fun hc => ?_))
        · rw [hc]; rfl
        · rw [Bool.not_eq_true] at hc
          rw [hc, Bool.false_or]
          exact hnext
      · rw [Bool.not_eq_true] at hm
        rw [hm, Bool.false_and, Bool.false_or]
        refine Ev.bind (?_ : Ev _ false) (Ev.neg (by simp) hnext)
        refine Ev.step (fun k => by rw [spec_l7Can.f]) ?_
        refine Ev.bind (l7Fits_ev l (s ++ [(x : Int)]) ho (by simp; omega)) (Ev.neg ?_ (Ev.val rfl))
        rw [fits_snoc, hf, hm]
        simp
    · refine Ev.neg (by omega) ?_
      refine Ev.step (fun k => by rw [spec_l7Can.j1]) ?_
      refine Ev.neg (by simp) (Ev.val ?_)
      exact (any_none (fun (x : Nat) => mayB l s s.length (x : Int) && canM l n r (s ++ [(x : Int)]) (max u (x + 1))) (d + 1) x (by omega)).symm
theorem l7Can_ev (l : List Int) (ho : isOrd l = true) (n : Nat) (hn : n ≤ 7) : ∀ (r : Nat) (s : List Int) (u : Nat), u ≤ 7 → l.length = s.length + r → fits l s = true → Ev (fun k => spec_l7Can.f k l s (u : Int) (n : Int)) (canM l n r s u)
  | 0, s, u, hu, hs, hf => by
    refine Ev.step (fun k => by rw [spec_l7Can.f]) ?_
    exact Ev.bind (l7Fits_ev l s ho (by omega)) (Ev.pos hf (Ev.pos (by omega) (Ev.val rfl)))
  | r + 1, s, u, hu, hs, hf => by
    refine Ev.step (fun k => by rw [spec_l7Can.f]) ?_
    refine Ev.bind (l7Fits_ev l s ho (by omega)) (Ev.pos hf (Ev.neg (by omega) ?_))
    exact l7Can_l l ho n hn r s u hu hs hf (fun s u hu hs hf => l7Can_ev l ho n hn r s u hu hs hf) n 0 (by omega)
theorem can_ev (l : List Int) (ho : isOrd l = true) (n : Nat) (hn : n ≤ 7) : Ev (fun k => spec_l7Can.f k l [] 0 (n : Int)) (hasL l n) :=
  (l7Can_ev l ho n hn l.length [] 0 (by omega) (by simp) rfl).to (canM_hasL l n)
def stFirst (_s : List Int × Bool) (d : List Int) : (List Int × Bool) × Bool := ((d, true), true)
theorem firstSharing_ev (l : List Int) (ho : isOrd l = true) (n : Nat) (hn : n ≤ 7) : Ev (fun k => impl_firstSharing.f k l (n : Int)) ((leaves l n l.length []).headD [], hasL l n) := by
  unfold impl_firstSharing.f
  refine (sharings_ev impl_firstSharing_1.f stFirst (fun s d => Ev.val rfl) l ho n hn ([], false)).to ?_
  unfold hasL
  cases leaves l n l.length [] <;> simp [runL, stFirst]
def few (l : List Int) : Nat → Nat → Nat
  | 0, k => k
  | d + 1, k => if hasL l k = true then k else few l d (k + 1)
theorem few_ok (l : List Int) (h7 : hasL l 7 = true) : ∀ d k, k + d = 7 → k ≤ few l d k ∧ few l d k ≤ 7 ∧ hasL l (few l d k) = true ∧ ∀ j, k ≤ j → j < few l d k → hasL l j = false
  | 0, k, h => by
    obtain rfl : k = 7 := by omega
    exact ⟨Nat.le_refl _, Nat.le_refl _, h7, fun j h1 h2 => by simp only [few] at h2; omega⟩
  | d + 1, k, h => by
    rw [few]
    by_cases hk : hasL l k = true
    · rw [if_pos hk]
      exact ⟨Nat.le_refl _, by omega, hk, fun j h1 h2 => by omega⟩
    · rw [if_neg hk]
      have := few_ok l h7 d (k + 1) (by omega)
      refine ⟨by omega, this.2.1, this.2.2.1, fun j h1 h2 => ?_⟩
      by_cases e : j = k
      · subst e; simpa using hk
      · exact this.2.2.2 j (by omega) h2
theorem few_le {l : List Int} (h7 : hasL l 7 = true) (k : Nat) (hk : 1 ≤ k) : decide (few l 6 1 ≤ k) = hasL l k := by
  have h := few_ok l h7 6 1 (by omega)
  by_cases hc : few l 6 1 ≤ k
  · rw [decide_eq_true hc, hasL_mono hc h.2.2.1]
  · rw [decide_eq_false hc, h.2.2.2 k hk (by omega)]
theorem l7Fewest_l (l : List Int) (ho : isOrd l = true) (h7 : hasL l 7 = true) : ∀ (d c : Nat), c + d = 7 → Ev (fun k => spec_l7Fewest.l0 k l (c : Int)) ((few l d c : Nat) : Int)
  | 0, c, h => by
    obtain rfl : c = 7 := by omega
    refine Ev.step (fun k => by rw [spec_l7Fewest.l0]) ?_
    exact Ev.bind (can_ev l ho 7 (by omega)) (Ev.pos h7 (Ev.val rfl))
  | d + 1, c, h => by
    refine Ev.step (fun k => by rw [spec_l7Fewest.l0]) ?_
    have e1 : wrap64 ((c : Int) + 1) = ((c + 1 : Nat) : Int) := wup c (by omega)
    simp only [e1]
    rw [few]
    refine Ev.bind (can_ev l ho c (by omega)) (Ev.ite (fun hc => ?_) (fun hc => ?_))
    · rw [if_pos hc]; exact Ev.val rfl
    · rw [if_neg hc]; exact l7Fewest_l l ho h7 d (c + 1) (by omega)
theorem l7Fewest_ev (l : List Int) (ho : isOrd l = true) : Ev (fun k => spec_l7Fewest.f k l) ((few l 6 1 : Nat) : Int) := by
  unfold spec_l7Fewest.f
  exact l7Fewest_l l ho (hasL_7 (isOrd_len ho).2) 6 1 (by omega)
theorem fewestStacks_l (l : List Int) (ho : isOrd l = true) (h7 : hasL l 7 = true) : ∀ (d c : Nat), c + d = 7 → Ev (fun k => impl_fewestStacks.l0 k l (c : Int)) ((few l d c : Nat) : Int)
  | 0, c, h => by
    obtain rfl : c = 7 := by omega
    refine Ev.step (fun k => by rw [impl_fewestStacks.l0]) ?_
    exact Ev.bind (firstSharing_ev l ho 7 (by omega)) (Ev.pos h7 (Ev.val rfl))
  | d + 1, c, h => by
    refine Ev.step (fun k => by rw [impl_fewestStacks.l0]) ?_
    have e1 : wrap64 ((c : Int) + 1) = ((c + 1 : Nat) : Int) := wup c (by omega)
    simp only [e1]
    rw [few]
    refine Ev.bind (firstSharing_ev l ho c (by omega)) (Ev.ite (fun hc => ?_) (fun hc => ?_))
    · rw [if_pos hc]; exact Ev.val rfl
    · rw [if_neg hc]; exact fewestStacks_l l ho h7 d (c + 1) (by omega)
theorem fewestStacks_ev (l : List Int) (ho : isOrd l = true) : Ev (fun k => impl_fewestStacks.f k l) ((few l 6 1 : Nat) : Int) := by
  unfold impl_fewestStacks.f
  exact fewestStacks_l l ho (hasL_7 (isOrd_len ho).2) 6 1 (by omega)

def resFirstSharing (l : List Int) : List Int := if isOrd l = true then (if few l 6 1 ≤ 4 then (leaves l (few l 6 1) l.length []).headD [] else []) else []
def okFirstSharing (l : List Int) : Bool := isOrd l && decide (few l 6 1 ≤ 4)
theorem leaves_len (l : List Int) (n : Nat) : ∀ (r : Nat) (s : List Int), ∀ x ∈ leaves l n r s, x.length = s.length + r
  | 0, s, x, h => by
    simp only [leaves, List.mem_singleton] at h
    subst h; rfl
  | r + 1, s, x, h => by
    rw [leaves_succ, List.mem_flatMap] at h
    obtain ⟨y, _, h⟩ := h
    unfold stepL at h
    split at h
    · have := leaves_len l n r _ x h
      simp at this
      omega
    · simp at h
theorem resFirstSharing_length (l : List Int) : (resFirstSharing l).length ≤ 1000 := by
  unfold resFirstSharing
  split
  · rename_i h
    have := isOrd_len h
    split
    · cases e : leaves l (few l 6 1) l.length [] with
      | nil => simp
      | cons y L =>
        have := leaves_len l (few l 6 1) l.length [] y (by rw [e]; simp)
        simp at this
        simp
        omega
    · simp
  · simp
theorem specFirstSharing_ev (l : List Int) (hn : l.length ≤ 17592186044415) : Ev (fun k => spec_FirstSharing.f k l) (resFirstSharing l, okFirstSharing l) := by
  unfold spec_FirstSharing.f
  refine Ev.bind (l2Order_ev l (by omega)) (Ev.ite (fun ho => ?_) (fun ho => Ev.val ?_))
  · have h := few_ok l (hasL_7 (isOrd_len ho).2) 6 1 (by omega)
    refine Ev.bind (l7Fewest_ev l ho) (Ev.ite (fun hc => Ev.val ?_) (fun hc => ?_))
    · have : ¬ few l 6 1 ≤ 4 := by omega
      simp [resFirstSharing, okFirstSharing, ho, this]
    · have : few l 6 1 ≤ 4 := by omega
      exact Ev.bind (l7Go_ev l ho (few l 6 1) (by omega) l.length [] (by simp) rfl) (Ev.val (by simp [resFirstSharing, okFirstSharing, ho, this]))
  · simp [resFirstSharing, okFirstSharing, ho]
theorem implFirstSharing_ev (l : List Int) (hn : l.length ≤ 17592186044415) : Ev (fun k => impl_FirstSharing.f k l) (resFirstSharing l, okFirstSharing l) := by
  unfold impl_FirstSharing.f
  refine Ev.bind (isOrder_ev l (by omega)) (Ev.ite (fun ho => ?_) (fun ho => Ev.val ?_))
  · have h := few_ok l (hasL_7 (isOrd_len ho).2) 6 1 (by omega)
    refine Ev.bind (fewestStacks_ev l ho) (Ev.ite (fun hc => Ev.val ?_) (fun hc => ?_))
    · have : ¬ few l 6 1 ≤ 4 := by omega
      simp [resFirstSharing, okFirstSharing, ho, this]
    · have h4 : few l 6 1 ≤ 4 := by omega
      exact Ev.bind (firstSharing_ev l ho (few l 6 1) (by omega)) (Ev.val (by simp [resFirstSharing, okFirstSharing, ho, h4, h.2.2.1]))
  · simp [resFirstSharing, okFirstSharing, ho]

theorem FnExactFirstSharing : laws_FnExactFirstSharing.Pure := by
  intro l hm hr hw
  refine Ev.rounds (?_ : Ev (fun k => laws_FnExactFirstSharing.f k l) true)
  unfold laws_FnExactFirstSharing.f
  refine Ev.ite (fun _ => Ev.val rfl) (fun hc => ?_)
  have hR := resFirstSharing_length l
  have hm1 : (marked 1 l.length).length ≤ 17592186044415 := by rw [marked_length]; omega
  refine Ev.bind (toIntS_ev l (by omega)) ?_
  refine Ev.bind (specFirstSharing_ev l (by omega)) ?_
  refine Ev.bind (toIntS_ev l (by omega)) ?_
  refine Ev.bind (implFirstSharing_ev l (by omega)) ?_
  refine Ev.bind (eqIntS_ev _ _ (by simp only []; omega)) ?_
  refine Ev.pos (by simp) ?_
  refine Ev.step (fun k => by rw [laws_FnExactFirstSharing.j0]) ?_
  refine Ev.neg (by simp) ?_
  refine Ev.bind (toIntS_ev l (by omega)) ?_
  refine Ev.bind (eqIntS_ev l l (by omega)) (Ev.pos (by simp) ?_)
  refine Ev.bind (markIntS_ev l 1 (by omega) (by omega) (by omega)) (Ev.neg (by simp only []; omega) ?_)
  refine Ev.bind (eqIntS_ev _ _ (by simp only []; omega)) (Ev.pos (by simp) ?_)
  refine Ev.step (fun k => by rw [laws_FnExactFirstSharing.j1]) ?_
  refine Ev.neg (by simp) ?_
  refine Ev.bind (markIntS_ev _ 1 (by simp only []; omega) (by omega) (by omega)) ?_
  refine Ev.bind (heldIntS_ev _ 1 (by simp only []; omega) (by omega) (by omega)) (Ev.neg (by simp only []; omega) (Ev.pos (by simp only []) ?_))
  refine Ev.bind (toIntS_ev l (by omega)) ?_
  refine Ev.bind (implFirstSharing_ev l (by omega)) ?_
  refine Ev.bind (eqIntS_ev _ _ (by simp only []; omega)) (Ev.pos (by simp) ?_)
  refine Ev.step (fun k => by rw [laws_FnExactFirstSharing.j2]) ?_
  refine Ev.neg (by simp) ?_
  exact Ev.bind (heldIntS_ev _ 1 (by simp only []; omega) (by omega) (by omega)) (Ev.neg (by simp only []; omega) (Ev.pos (by simp only []) (Ev.val rfl)))

end Go.Proofs.Ytbbfgejnlfafpaa.Pure
