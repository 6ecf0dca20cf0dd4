/- The program's GreedySharing returns what the reference's returns, for every list, in memory of its own. -/
import Derived.Test.YtbbfgejnlfafpaaPFnExactGreedySharingx6
import Derived.Test.YtbbfgejnlfafpaaK
set_option linter.unusedVariables false
set_option linter.unusedSimpArgs false
namespace Go.Proofs.Ytbbfgejnlfafpaa.Pure
open Go.RowKit Go.Proofs.Ytbbfgejnlfafpaa.PFnExactGreedySharing Go.Proofs.YtbbfgejnlfafpaaW.PrintWords Go.Proofs.YtbbfgejnlfafpaaW.PrintLast Go.Proofs.YtbbfgejnlfafpaaW.PrintMore

theorem toIntS_l (x0 : List Int) (hn : x0.length ≤ 17592186044416) : ∀ (d i : Nat) (x3 : List Int), x3.length = x0.length → x3.take i = x0.take i → x0.length = i + d → Ev (fun k => laws_toIntS.l0 k x0 x3 i) x0
  | 0, i, x3, h1, h2, h3 => by
    refine Ev.step (fun k => by rw [laws_toIntS.l0]) ?_
    refine Ev.neg (by omega) (Ev.val ?_)
    rw [List.take_of_length_le (by omega), List.take_of_length_le (by omega)] at h2
    exact h2
  | d + 1, i, x3, h1, h2, h3 => by
    refine Ev.step (fun k => by rw [laws_toIntS.l0]) ?_
    refine Ev.pos (by omega) (Ev.pos (by omega) (Ev.pos (by omega) ?_))
    have e : wrap64 ((i : Int) + 1) = ((i + 1 : Nat) : Int) := by rw [w64 (by omega)]; omega
    simp only [e, Int.toNat_natCast]
    exact toIntS_l x0 hn d (i + 1) _ (by simpa using h1) (by rw [take_set_succ _ _ _ (by omega), h2, take_step _ _ (by omega), rd_nat]) (by omega)
theorem toIntS_ev (l : List Int) (hn : l.length ≤ 17592186044416) : Ev (fun k => laws_toIntS.f k l) l := by
  unfold laws_toIntS.f
  refine Ev.pos (by omega) (Ev.pos (by omega) ?_)
  exact toIntS_l l hn l.length 0 _ (by simp) (by simp) (by omega)

theorem eqIntS_l (a b : List Int) (hn : a.length ≤ 17592186044416) (hl : a.length = b.length) : ∀ (d i : Nat), a.length = i + d → Ev (fun k => laws_eqIntS.l0 k a b i) (decide (a.drop i = b.drop i))
  | 0, i, h => by
    refine Ev.step (fun k => by rw [laws_eqIntS.l0]) ?_
    refine Ev.neg (by omega) (Ev.val ?_)
    rw [List.drop_of_length_le (by omega), List.drop_of_length_le (by omega)]
    simp
  | d + 1, i, h => by
    refine Ev.step (fun k => by rw [laws_eqIntS.l0]) ?_
    refine Ev.pos (by omega) (Ev.pos (by omega) (Ev.pos (by omega) ?_))
    have e : wrap64 ((i : Int) + 1) = ((i + 1 : Nat) : Int) := by rw [w64 (by omega)]; omega
    simp only [e]
    rw [drop_step a i (by omega), drop_step b i (by omega)]
    refine Ev.ite (fun hc => ?_) (fun hc => Ev.val ?_)
    · have hc' : nth a i = nth b i := hc
      refine (eqIntS_l a b hn hl d (i + 1) (by omega)).to ?_
      rw [hc']
      simp
    · have hc' : ¬ nth a i = nth b i := hc
      simp [hc']
theorem eqIntS_ev (a b : List Int) (hn : a.length ≤ 17592186044416) : Ev (fun k => laws_eqIntS.f k a b) (decide (a = b)) := by
  unfold laws_eqIntS.f
  refine Ev.ite (fun hc => ?_) (fun hc => Ev.val ?_)
  · exact (eqIntS_l a b hn (by omega) a.length 0 (by omega)).to (by simp)
  · have : ¬ a = b := fun h => hc (by rw [h])
    simp [this]

theorem markIntS_l : ∀ (d i : Nat) (x0 : List Int) (x1 : Int), x0.length = i + d → x0.length ≤ 17592186044416 → -1000000000000000000 ≤ x1 → x1 + d ≤ 1000000000000000000 → Ev (fun k => laws_markIntS.l0 k x0 x1 i) (x1 + d, x0.take i ++ marked x1 d)
  | 0, i, x0, x1, h, hn, h1, h2 => by
    refine Ev.step (fun k => by rw [laws_markIntS.l0]) ?_
    refine Ev.neg (by omega) (Ev.val ?_)
    rw [List.take_of_length_le (by omega)]
    simp [marked]
  | d + 1, i, x0, x1, h, hn, h1, h2 => by
    refine Ev.step (fun k => by rw [laws_markIntS.l0]) ?_
    refine Ev.pos (by omega) (Ev.pos (by omega) ?_)
    have e : wrap64 ((i : Int) + 1) = ((i + 1 : Nat) : Int) := by rw [w64 (by omega)]; omega
    have e1 : wrap64 (x1 + 1) = x1 + 1 := w64 (by omega)
    simp only [e, e1, Int.toNat_natCast]
    refine (markIntS_l d (i + 1) (x0.set i x1) (x1 + 1) (by simpa using (by omega)) (by simpa using hn) (by omega) (by omega)).to ?_
    rw [take_set_succ _ _ _ (by omega)]
    simp [marked]
    omega
theorem markIntS_ev (l : List Int) (a : Int) (hn : l.length ≤ 17592186044416) (h1 : -1000000000000000 ≤ a) (h2 : a ≤ 1000000000000000) : Ev (fun k => laws_markIntS.f k l a) (a + l.length, marked a l.length) := by
  unfold laws_markIntS.f
  exact (markIntS_l l.length 0 l a (by omega) hn (by omega) (by omega)).to (by simp)

theorem heldIntS_l (n : Nat) (a : Int) (hn : n ≤ 17592186044416) (h1 : -1000000000000000 ≤ a) (h2 : a ≤ 1000000000000000) : ∀ (d i : Nat), n = i + d → Ev (fun k => laws_heldIntS.l0 k (marked a n) (a + i) i) (a + n)
  | 0, i, h => by
    refine Ev.step (fun k => by rw [laws_heldIntS.l0]) ?_
    refine Ev.neg (by rw [marked_length]; omega) (Ev.val ?_)
    omega
  | d + 1, i, h => by
    refine Ev.step (fun k => by rw [laws_heldIntS.l0]) ?_
    refine Ev.pos (by rw [marked_length]; omega) (Ev.pos (by omega) (Ev.pos (by rw [rd_nat, marked_nth n a i (by omega)]) ?_))
    have e : wrap64 ((i : Int) + 1) = ((i + 1 : Nat) : Int) := by rw [w64 (by omega)]; omega
    have e1 : wrap64 (a + i + 1) = a + ((i + 1 : Nat) : Int) := by rw [w64 (by omega)]; omega
    simp only [e, e1]
    exact heldIntS_l n a hn h1 h2 d (i + 1) (by omega)
theorem heldIntS_ev (n : Nat) (a : Int) (hn : n ≤ 17592186044416) (h1 : -1000000000000000 ≤ a) (h2 : a ≤ 1000000000000000) : Ev (fun k => laws_heldIntS.f k (marked a n) a) (a + n) := by
  unfold laws_heldIntS.f
  have := heldIntS_l n a hn h1 h2 n 0 (by omega)
  rw [show a + ((0 : Nat) : Int) = a by omega] at this
  exact this

theorem l1In_is (a b c : Int) : spec_l1In.f a b c = some (decide (b ≤ a ∧ a ≤ c)) := by
  unfold spec_l1In.f
  by_cases h : a ≥ b
  · rw [if_pos h]; simp [h]
  · rw [if_neg h]; simp; omega

theorem l1Has_l (l : List Int) (x : Int) (hn : l.length ≤ 17592186044416) : ∀ (d i : Nat), l.length = i + d → Ev (fun k => spec_l1Has.l0 k l x i) ((l.drop i).contains x)
  | 0, i, h => by
    refine Ev.step (fun k => by rw [spec_l1Has.l0]) ?_
    refine Ev.neg (by omega) (Ev.val ?_)
    rw [List.drop_of_length_le (by omega)]
    simp
  | d + 1, i, h => by
    refine Ev.step (fun k => by rw [spec_l1Has.l0]) ?_
    have e : wrap64 ((i : Int) + 1) = ((i + 1 : Nat) : Int) := by rw [w64 (by omega)]; omega
    simp only [e]
    rw [drop_step l i (by omega)]
    refine Ev.pos (by omega) (Ev.pos (by omega) (Ev.ite (fun hc => Ev.val ?_) (fun hc => ?_)))
    · have hc' : nth l i = x := hc
      rw [hc']; simp
    · have hc' : ¬ nth l i = x := hc
      refine (l1Has_l l x hn d (i + 1) (by omega)).to ?_
      have : ¬ x = nth l i := fun h => hc' h.symm
      rw [List.contains_cons]
      simp [this]
theorem l1Has_ev (l : List Int) (x : Int) (hn : l.length ≤ 17592186044416) : Ev (fun k => spec_l1Has.f k l x) (l.contains x) := by
  unfold spec_l1Has.f
  exact (l1Has_l l x hn l.length 0 (by omega)).to (by simp)

theorem l2Order_l (l : List Int) (hn : l.length ≤ 17592186044416) : ∀ (d i : Nat), l.length = i + d → Ev (fun k => spec_l2Order.l0 k l i) (allFrom (ordAt l) d i)
  | 0, i, h => by
    refine Ev.step (fun k => by rw [spec_l2Order.l0]) ?_
    exact Ev.neg (by omega) (Ev.val rfl)
  | d + 1, i, h => by
    refine Ev.step (fun k => by rw [spec_l2Order.l0]) ?_
    have e : wrap64 ((i : Int) + 1) = ((i + 1 : Nat) : Int) := by rw [w64 (by omega)]; omega
    simp only [e, l1In_is, Option.bind_some, rd_nat, Int.toNat_natCast, decide_eq_true_eq]
    refine Ev.pos (by omega) (Ev.pos (by omega) (Ev.ite (fun hc => Ev.pos (by omega) ?_) (fun hc => Ev.val ?_)))
    · refine Ev.bind (l1Has_ev _ _ (by simp; omega)) ?_
      refine Ev.ite (fun hb => Ev.val ?_) (fun hb => (l2Order_l l hn d (i + 1) (by omega)).to ?_)
      · rw [allFrom, ordAt, hb]; simp
      · rw [Bool.not_eq_true] at hb
        rw [allFrom, ordAt, hb]; simp [hc]
    · rw [allFrom, ordAt]
      by_cases h1 : 1 ≤ nth l i
      · have : ¬ nth l i ≤ l.length := fun h2 => hc ⟨h1, h2⟩
        simp [this]
      · simp [h1]
theorem l2Order_ev (l : List Int) (hn : l.length ≤ 17592186044416) : Ev (fun k => spec_l2Order.f k l) (isOrd l) := by
  unfold spec_l2Order.f
  simp only [l1In_is, Option.bind_some, decide_eq_true_eq]
  refine Ev.ite (fun hc => (l2Order_l l hn l.length 0 (by omega)).to ?_) (fun hc => Ev.val ?_)
  · have h1 : 1 ≤ l.length := by omega
    have h2 : l.length ≤ 7 := by omega
    simp [isOrd, h1, h2]
  · rw [isOrd]
    by_cases h1 : 1 ≤ l.length
    · have : ¬ l.length ≤ 7 := by omega
      simp [this]
    · simp [h1]

theorem Index_l (l : List Int) (x : Int) (hn : l.length ≤ 17592186044416) : ∀ (d i : Nat), l.length = i + d → (∀ j, j < i → nth l j ≠ x) → Ev (fun k => slices_Index_int_int.l0 k l x (l.length : Int) i) (idx l x)
  | 0, i, h, hq => by
    refine Ev.step (fun k => by rw [slices_Index_int_int.l0]) ?_
    refine Ev.neg (by omega) (Ev.val ?_)
    exact (idx_none l x fun j hj => hq j (by omega)).symm
  | d + 1, i, h, hq => by
    refine Ev.step (fun k => by rw [slices_Index_int_int.l0]) ?_
    have e : wrap64 ((i : Int) + 1) = ((i + 1 : Nat) : Int) := by rw [w64 (by omega)]; omega
    simp only [e]
    refine Ev.pos (by omega) (Ev.pos (by omega) (Ev.pos (by omega) (Ev.ite (fun hc => Ev.val ?_) (fun hc => ?_))))
    · exact (idx_some l x i (by omega) (by rw [hc]; rfl) hq).symm
    · refine Index_l l x hn d (i + 1) (by omega) (fun j hj => ?_)
      by_cases e : j = i
      · subst e; exact fun h => hc h.symm
      · exact hq j (by omega)
theorem Index_ev (l : List Int) (x : Int) (hn : l.length ≤ 17592186044416) : Ev (fun k => slices_Index_int_int.f k l x) (idx l x) := by
  unfold slices_Index_int_int.f
  exact Index_l l x hn l.length 0 (by omega) (fun j hj => by omega)

theorem Contains_ev (l : List Int) (x : Int) (hn : l.length ≤ 17592186044416) : Ev (fun k => slices_Contains_int_int.f k l x) (l.contains x) := by
  unfold slices_Contains_int_int.f
  exact Ev.bind (Index_ev l x hn) (Ev.val (idx_contains l x))

theorem isOrder_l (l : List Int) (hn : l.length ≤ 17592186044416) : ∀ (d i : Nat), l.length = i + d → Ev (fun k => impl_isOrder.l0 k l l (l.length : Int) i) (allFrom (ordAt l) d i)
  | 0, i, h => by
    refine Ev.step (fun k => by rw [impl_isOrder.l0]) ?_
    exact Ev.neg (by omega) (Ev.val rfl)
  | d + 1, i, h => by
    refine Ev.step (fun k => by rw [impl_isOrder.l0]) ?_
    have e : wrap64 ((i : Int) + 1) = ((i + 1 : Nat) : Int) := by rw [w64 (by omega)]; omega
    simp only [e, rd_nat, Int.toNat_natCast]
    refine Ev.pos (by omega) (Ev.pos (by omega) (Ev.pos (by omega) (Ev.ite (fun hc => Ev.val ?_) (fun hc => Ev.ite (fun hd => Ev.val ?_) (fun hd => Ev.pos (by omega) ?_)))))
    · have : ¬ 1 ≤ nth l i := by omega
      rw [allFrom, ordAt]; simp [this]
    · have : ¬ nth l i ≤ l.length := by omega
      rw [allFrom, ordAt]; simp [this]
    · refine Ev.bind (Contains_ev _ _ (by simp; omega)) ?_
      refine Ev.ite (fun hb => Ev.val ?_) (fun hb => (isOrder_l l hn d (i + 1) (by omega)).to ?_)
      · rw [allFrom, ordAt, hb]; simp
      · rw [Bool.not_eq_true] at hb
        have h1 : 1 ≤ nth l i := by omega
        have h2 : nth l i ≤ l.length := by omega
        rw [allFrom, ordAt, hb]; simp [h1, h2]
theorem isOrder_ev (l : List Int) (hn : l.length ≤ 17592186044416) : Ev (fun k => impl_isOrder.f k l) (isOrd l) := by
  unfold impl_isOrder.f
  refine Ev.ite (fun hc => ?_) (fun hc => ?_)
  · refine Ev.step (fun k => by rw [impl_isOrder.j0]) ?_
    refine Ev.pos rfl (Ev.val ?_)
    have : ¬ 1 ≤ l.length := by omega
    simp [isOrd, this]
  · refine Ev.step (fun k => by rw [impl_isOrder.j0]) ?_
    simp only [decide_eq_true_eq]
    refine Ev.ite (fun hd => Ev.val ?_) (fun hd => (isOrder_l l hn l.length 0 (by omega)).to ?_)
    · have : ¬ l.length ≤ 7 := by omega
      simp [isOrd, this]
    · have h1 : 1 ≤ l.length := by omega
      have h2 : l.length ≤ 7 := by omega
      simp [isOrd, h1, h2]

theorem l1Own_is (l : List Int) (h : l.length < 17592186044416) : spec_l1Own.f l = some l := by
  unfold spec_l1Own.f
  simp [h]

theorem IndexFunc_l (of_ : Nat → Int → Option Bool) (p : Int → Bool) (l : List Int) (hn : l.length ≤ 17592186044416) (hof : ∀ k x, x ∈ l → of_ k x = some (p x)) : ∀ (d i : Nat), l.length = i + d → Ev (fun k => slices_IndexFunc_int_int.l0 of_ k l (l.length : Int) i) (if idxF p (l.drop i) < 0 then -1 else idxF p (l.drop i) + i)
  | 0, i, h => by
    refine Ev.step (fun k => by rw [slices_IndexFunc_int_int.l0]) ?_
    refine Ev.neg (by omega) (Ev.val ?_)
    rw [List.drop_of_length_le (by omega)]; rfl
  | d + 1, i, h => by
    refine Ev.step (fun k => by rw [slices_IndexFunc_int_int.l0]) ?_
    have e : wrap64 ((i : Int) + 1) = ((i + 1 : Nat) : Int) := by rw [w64 (by omega)]; omega
    have hm : nth l i ∈ l := by rw [nth_lt l i (by omega)]; exact List.getElem_mem _
    have hq : ∀ k, of_ k (nth l i) = some (p (nth l i)) := fun k => hof k _ hm
    simp only [e, rd_nat, hq, Option.bind_some]
    rw [drop_step l i (by omega)]
    have hg := idxF_ge p (l.drop (i + 1))
    refine Ev.pos (by omega) (Ev.pos (by omega) (Ev.pos (by omega) (Ev.ite (fun hc => Ev.val ?_) (fun hc => ?_))))
    · simp [idxF, hc]
    · refine (IndexFunc_l of_ p l hn hof d (i + 1) (by omega)).to ?_
      simp only [idxF, if_neg hc]
      split
      · simp
      · rw [if_neg (by omega)]; omega
theorem ContainsFunc_ev (of_ : Nat → Int → Option Bool) (p : Int → Bool) (l : List Int) (s : ByteArray) (hn : l.length ≤ 17592186044416) (hof : ∀ k x, x ∈ l → of_ k x = some (p x)) : Ev (fun k => slices_ContainsFunc_int_int.f of_ k l s) (l.any p) := by
  unfold slices_ContainsFunc_int_int.f slices_IndexFunc_int_int.f
  refine Ev.bind (IndexFunc_l of_ p l hn hof l.length 0 (by omega)) (Ev.val ?_)
  rw [← idxF_any p l, List.drop_zero]
  have hg := idxF_ge p l
  by_cases h : idxF p l < 0
  · have : ¬ 0 ≤ idxF p l := by omega
    simp [h, this]
  · have h1 : 0 ≤ idxF p l := by omega
    simp [h, h1]

/-! conflicts -/
theorem isOrd_ne2 {l : List Int} (h : isOrd l = true) (i j : Nat) (h0 : i < j) (hi : j < l.length) : nth l i ≠ nth l j := by
  intro e
  refine (isOrd_at h j hi).2.2 ?_
  rw [← e, nth_lt l i (by omega), List.mem_take_iff_getElem]
  exact ⟨i, by omega, rfl⟩
def lessThan (n x : Int) : Bool := decide (x < n)
def conf (l : List Int) (i j : Nat) : Bool := decide (nth l i < nth l j) && (l.drop (j + 1)).any (lessThan (nth l i))
theorem l7Conflict_l (l : List Int) (hn : l.length ≤ 1000) (i : Nat) (hi : i < l.length) : ∀ (d j : Nat), l.length = j + d → Ev (fun k => spec_l7Conflict.l0 k l i j) ((l.drop j).any (lessThan (nth l i)))
  | 0, j, h => by
    refine Ev.step (fun k => by rw [spec_l7Conflict.l0]) ?_
    refine Ev.neg (by omega) (Ev.val ?_)
    rw [List.drop_of_length_le (by omega)]; rfl
  | d + 1, j, h => by
    refine Ev.step (fun k => by rw [spec_l7Conflict.l0]) ?_
    have e : wrap64 ((j : Int) + 1) = ((j + 1 : Nat) : Int) := by rw [w64 (by omega)]; omega
    simp only [e, rd_nat]
    rw [drop_step l j (by omega), List.any_cons]
    refine Ev.pos (by omega) (Ev.pos (by omega) (Ev.pos (by omega) (Ev.pos (by omega) (Ev.ite (fun hc => Ev.val ?_) (fun hc => ?_)))))
    · simp [lessThan, hc]
    · have hb : lessThan (nth l i) (nth l j) = false := by simp [lessThan]; omega
      rw [hb, Bool.false_or]
      exact l7Conflict_l l hn i hi d (j + 1) (by omega)
theorem specConflict_ev (l : List Int) (ho : isOrd l = true) (i j : Nat) (hij : i < j) (hj : j < l.length) : Ev (fun k => spec_l7Conflict.f k l i j) (conf l i j) := by
  have hl := isOrd_len ho
  have hne := isOrd_ne2 ho i j hij hj
  unfold spec_l7Conflict.f
  have e : wrap64 ((j : Int) + 1) = ((j + 1 : Nat) : Int) := by rw [w64 (by omega)]; omega
  simp only [e, rd_nat]
  refine Ev.pos (by omega) (Ev.pos (by omega) (Ev.pos (by omega) (Ev.pos (by omega) (Ev.ite (fun hc => Ev.val ?_) (fun hc => ?_)))))
  · have : ¬ nth l i < nth l j := by omega
    simp [conf, this]
  · have h1 : nth l i < nth l j := by omega
    refine (l7Conflict_l l (by omega) i (by omega) (l.length - (j + 1)) (j + 1) (by omega)).to ?_
    simp [conf, h1]
theorem implConflict_ev (l : List Int) (ho : isOrd l = true) (i j : Nat) (hij : i < j) (hj : j < l.length) : Ev (fun k => impl_isConflict.f k l i j) (conf l i j) := by
  have hl := isOrd_len ho
  unfold impl_isConflict.f
  have e : wrap64 ((j : Int) + 1) = ((j + 1 : Nat) : Int) := by rw [w64 (by omega)]; omega
  simp only [e, rd_nat, Int.toNat_natCast]
  refine Ev.pos (by omega) (Ev.pos (by omega) (Ev.pos (by omega) (Ev.pos (by omega) (Ev.ite (fun hc => Ev.pos (by omega) (Ev.pos (by omega) ?_)) (fun hc => Ev.val ?_)))))
  · refine Ev.bind (ContainsFunc_ev _ (lessThan (nth l i)) _ _ (by simp; omega) (fun k x _ => ?_)) (Ev.val ?_)
    · unfold impl_isConflict_1.f
      rw [if_pos (by omega), if_pos (by omega)]
      rfl
    · have h1 : nth l i < nth l j := by omega
      simp [conf, h1]
  · have : ¬ nth l i < nth l j := by omega
    simp [conf, this]
def mayB (l s : List Int) (j : Nat) (x : Int) : Bool := allFrom (fun i => !(decide (nth s i = x) && conf l i j)) j 0
theorem mayBe_l (l s : List Int) (ho : isOrd l = true) (j : Nat) (hj : j < l.length) (hs : j ≤ s.length) (x : Int) : ∀ (d i : Nat), j = i + d → Ev (fun k => impl_mayBe.l0 k l s j x j i) (allFrom (fun i => !(decide (nth s i = x) && conf l i j)) d i)
  | 0, i, h => by
    refine Ev.step (fun k => by rw [impl_mayBe.l0]) ?_
    exact Ev.neg (by omega) (Ev.val rfl)
  | d + 1, i, h => by
    have hl := isOrd_len ho
    refine Ev.step (fun k => by rw [impl_mayBe.l0]) ?_
    have e : wrap64 ((i : Int) + 1) = ((i + 1 : Nat) : Int) := by rw [w64 (by omega)]; omega
    simp only [e, rd_nat, allFrom]
    refine Ev.pos (by omega) (Ev.pos (by omega) (Ev.pos (by omega) (Ev.ite (fun hc => ?_) (fun hc => ?_))))
    · refine Ev.bind (implConflict_ev l ho i j (by omega) hj) (Ev.ite (fun hd => Ev.val ?_) (fun hd => (mayBe_l l s ho j hj hs x d (i + 1) (by omega)).to ?_))
      · simp [hc, hd]
      · rw [Bool.not_eq_true] at hd; simp [hd]
    · refine (mayBe_l l s ho j hj hs x d (i + 1) (by omega)).to ?_
      simp [hc]
theorem mayBe_ev (l s : List Int) (ho : isOrd l = true) (j : Nat) (hj : j < l.length) (hs : j ≤ s.length) (x : Int) : Ev (fun k => impl_mayBe.f k l s j x) (mayB l s j x) := by
  unfold impl_mayBe.f
  exact mayBe_l l s ho j hj hs x j 0 (by omega)
def fits (l s : List Int) : Bool := allFrom (fun j => mayB l s j (nth s j)) s.length 0
theorem l7Fits_l1 (l s : List Int) (ho : isOrd l = true) (j : Nat) (hj : j < s.length) (hs : s.length ≤ l.length) (r : Bool) (hr : Ev (fun k => spec_l7Fits.l0 k l s ((j + 1 : Nat) : Int)) r) : ∀ (d i : Nat), j = i + d → Ev (fun k => spec_l7Fits.l1 k l s j i) (allFrom (fun i => !(decide (nth s i = nth s j) && conf l i j)) d i && r)
  | 0, i, h => by
    have hl := isOrd_len ho
    refine Ev.step (fun k => by rw [spec_l7Fits.l1]) ?_
    have e : wrap64 ((j : Int) + 1) = ((j + 1 : Nat) : Int) := by rw [w64 (by omega)]; omega
    simp only [e]
    exact Ev.neg (by omega) (hr.to (by simp [allFrom]))
  | d + 1, i, h => by
    have hl := isOrd_len ho
    refine Ev.step (fun k => by rw [spec_l7Fits.l1]) ?_
    have e : wrap64 ((i : Int) + 1) = ((i + 1 : Nat) : Int) := by rw [w64 (by omega)]; omega
    simp only [e, rd_nat, allFrom]
    refine Ev.pos (by omega) (Ev.pos (by omega) (Ev.pos (by omega) (Ev.pos (by omega) (Ev.pos (by omega) (Ev.ite (fun hc => ?_) (fun hc => ?_))))))
    · refine Ev.bind (specConflict_ev l ho i j (by omega) (by omega)) (Ev.ite (fun hd => Ev.val ?_) (fun hd => (l7Fits_l1 l s ho j hj hs r hr d (i + 1) (by omega)).to ?_))
      · simp [hc, hd]
      · rw [Bool.not_eq_true] at hd; simp [hd]
    · refine (l7Fits_l1 l s ho j hj hs r hr d (i + 1) (by omega)).to ?_
      simp [hc]
theorem l7Fits_l (l s : List Int) (ho : isOrd l = true) (hs : s.length ≤ l.length) : ∀ (d j : Nat), s.length = j + d → Ev (fun k => spec_l7Fits.l0 k l s j) (allFrom (fun j => mayB l s j (nth s j)) d j)
  | 0, j, h => by
    refine Ev.step (fun k => by rw [spec_l7Fits.l0]) ?_
    exact Ev.neg (by omega) (Ev.val rfl)
  | d + 1, j, h => by
    refine Ev.step (fun k => by rw [spec_l7Fits.l0]) ?_
    refine Ev.pos (by omega) ?_
    exact l7Fits_l1 l s ho j (by omega) hs _ (l7Fits_l l s ho hs d (j + 1) (by omega)) j 0 (by omega)
theorem l7Fits_ev (l s : List Int) (ho : isOrd l = true) (hs : s.length ≤ l.length) : Ev (fun k => spec_l7Fits.f k l s) (fits l s) := by
  unfold spec_l7Fits.f
  exact l7Fits_l l s ho hs s.length 0 (by omega)

/-! greedy sharings -/
theorem nth_append_lt (s : List Int) (x : Int) (i : Nat) (h : i < s.length) : nth (s ++ [x]) i = nth s i := by
  rw [nth_lt _ _ (by simp; omega), nth_lt _ _ h, List.getElem_append_left h]
theorem allFrom_congr (p q : Nat → Bool) : ∀ d i, (∀ j, i ≤ j → j < i + d → p j = q j) → allFrom p d i = allFrom q d i
  | 0, i, _ => rfl
  | d + 1, i, h => by
    rw [allFrom, allFrom, h i (by omega) (by omega), allFrom_congr p q d (i + 1) fun j h1 h2 => h j (by omega) (by omega)]
theorem allFrom_snoc (p : Nat → Bool) : ∀ d i, allFrom p (d + 1) i = (allFrom p d i && p (i + d))
  | 0, i => by simp [allFrom]
  | d + 1, i => by
    rw [allFrom, allFrom_snoc p d (i + 1), allFrom, Bool.and_assoc]
    congr 3
    omega
theorem mayB_append (l s : List Int) (x : Int) (j : Nat) (hj : j ≤ s.length) (y : Int) : mayB l (s ++ [x]) j y = mayB l s j y := by
  unfold mayB
  refine allFrom_congr _ _ j 0 fun i _ h => ?_
  rw [nth_append_lt s x i (by omega)]
theorem fits_snoc (l s : List Int) (x : Int) : fits l (s ++ [x]) = (fits l s && mayB l s s.length x) := by
  unfold fits
  rw [List.length_append, List.length_singleton, allFrom_snoc, Nat.zero_add, nth_snoc, mayB_append l s x s.length (Nat.le_refl _)]
  congr 1
  refine allFrom_congr _ _ _ _ fun j _ h => ?_
  rw [nth_append_lt s x j (by omega), mayB_append l s x j (by omega)]
def gfind (l s : List Int) : Nat → Int → Int
  | 0, x => x
  | d + 1, x => if mayB l s s.length x then x else gfind l s d (x + 1)
theorem gfind_ok (l s : List Int) : ∀ d x, x ≤ gfind l s d x ∧ gfind l s d x ≤ x + d ∧ (gfind l s d x < x + d → mayB l s s.length (gfind l s d x) = true)
  | 0, x => by simp [gfind]
  | d + 1, x => by
    have := gfind_ok l s d (x + 1)
    rw [gfind]
    split
    · rename_i h
      exact ⟨by omega, by omega, fun _ => h⟩
    · refine ⟨by omega, by omega, fun h => this.2.2 (by omega)⟩
def greedy (l : List Int) : Nat → List Int → List Int × Bool
  | 0, s => (s, true)
  | d + 1, s => if gfind l s 4 0 = 4 then ([], false) else greedy l d (s ++ [gfind l s 4 0])
theorem greedy_length (l : List Int) : ∀ d s, (greedy l d s).1.length ≤ s.length + d
  | 0, s => by simp [greedy]
  | d + 1, s => by
    rw [greedy]
    split
    · simp
    · have := greedy_length l d (s ++ [gfind l s 4 0])
      simp at this
      omega
theorem implGreedy_l1 (l s : List Int) (ho : isOrd l = true) (hs : s.length < l.length) (R : Int → List Int × Bool) (hR : ∀ x, 0 ≤ x → x < 4 → Ev (fun k => impl_GreedySharing.l0 k l (s ++ [x]) (l.length : Int) ((s.length + 1 : Nat) : Int)) (R x)) : ∀ (d : Nat) (x : Int), x + d = 4 → 0 ≤ x → Ev (fun k => impl_GreedySharing.l1 k l s s.length x (l.length : Int) s.length) (if gfind l s d x = 4 then ([], false) else R (gfind l s d x))
  | 0, x, h, h0 => by
    refine Ev.step (fun k => by rw [impl_GreedySharing.l1]) ?_
    refine Ev.neg (by omega) (Ev.pos (by omega) (Ev.val ?_))
    have : x = 4 := by omega
    simp [gfind, this]
  | d + 1, x, h, h0 => by
    have hl := isOrd_len ho
    refine Ev.step (fun k => by rw [impl_GreedySharing.l1]) ?_
    have e : wrap64 ((s.length : Int) + 1) = ((s.length + 1 : Nat) : Int) := by rw [w64 (by omega)]; omega
    have e1 : wrap64 (x + 1) = x + 1 := w64 (by omega)
    simp only [e, e1]
    rw [gfind]
    refine Ev.pos (by omega) (Ev.bind (mayBe_ev l s ho s.length hs (Nat.le_refl _) x) (Ev.ite (fun hc => Ev.neg (by omega) (Ev.pos (by omega) ?_)) (fun hc => ?_)))
    · rw [if_pos hc, if_neg (by omega)]
      exact hR x h0 (by omega)
    · rw [if_neg hc]
      exact implGreedy_l1 l s ho hs R hR d (x + 1) (by omega) (by omega)
theorem implGreedy_l (l : List Int) (ho : isOrd l = true) : ∀ (d : Nat) (s : List Int), l.length = s.length + d → Ev (fun k => impl_GreedySharing.l0 k l s (l.length : Int) s.length) (greedy l d s)
  | 0, s, h => by
    refine Ev.step (fun k => by rw [impl_GreedySharing.l0]) ?_
    exact Ev.neg (by omega) (Ev.val rfl)
  | d + 1, s, h => by
    refine Ev.step (fun k => by rw [impl_GreedySharing.l0]) ?_
    refine Ev.pos (by omega) ?_
    rw [greedy]
    refine implGreedy_l1 l s ho (by omega) (fun x => greedy l d (s ++ [x])) (fun x h0 h1 => ?_) 4 0 (by omega) (by omega)
    have := implGreedy_l l ho d (s ++ [x]) (by simp; omega)
    rw [List.length_append, List.length_singleton] at this
    exact this
theorem specGreedy_l1 (l s : List Int) (ho : isOrd l = true) (hs : s.length < l.length) (hf : fits l s = true) (R : Int → List Int × Bool) (hR : ∀ x, 0 ≤ x → x < 4 → mayB l s s.length x = true → Ev (fun k => spec_GreedySharing.l0 k l (s ++ [x])) (R x)) : ∀ (d : Nat) (x : Int), x + d = 4 → 0 ≤ x → Ev (fun k => spec_GreedySharing.l1 k l s x) (if gfind l s d x = 4 then ([], false) else R (gfind l s d x))
  | 0, x, h, h0 => by
    refine Ev.step (fun k => by rw [spec_GreedySharing.l1]) ?_
    refine Ev.neg (by omega) (Ev.pos (by omega) (Ev.val ?_))
    have : x = 4 := by omega
    simp [gfind, this]
  | d + 1, x, h, h0 => by
    have hl := isOrd_len ho
    refine Ev.step (fun k => by rw [spec_GreedySharing.l1]) ?_
    have e1 : wrap64 (x + 1) = x + 1 := w64 (by omega)
    simp only [e1, l1Own_is s (by omega), Option.bind_some]
    rw [gfind]
    refine Ev.pos (by omega) (Ev.pos (by omega) (Ev.bind (l7Fits_ev l (s ++ [x]) ho (by simp; omega)) ?_))
    rw [fits_snoc, hf, Bool.true_and]
    refine Ev.ite (fun hc => Ev.neg (by omega) (Ev.pos (by omega) ?_)) (fun hc => ?_)
    · rw [if_pos hc, if_neg (by omega)]
      exact hR x h0 (by omega) hc
    · rw [if_neg hc]
      exact specGreedy_l1 l s ho hs hf R hR d (x + 1) (by omega) (by omega)
theorem specGreedy_l (l : List Int) (ho : isOrd l = true) : ∀ (d : Nat) (s : List Int), l.length = s.length + d → fits l s = true → Ev (fun k => spec_GreedySharing.l0 k l s) (greedy l d s)
  | 0, s, h, hf => by
    refine Ev.step (fun k => by rw [spec_GreedySharing.l0]) ?_
    exact Ev.neg (by omega) (Ev.val rfl)
  | d + 1, s, h, hf => by
    refine Ev.step (fun k => by rw [spec_GreedySharing.l0]) ?_
    refine Ev.pos (by omega) ?_
    rw [greedy]
    refine specGreedy_l1 l s ho (by omega) hf (fun x => greedy l d (s ++ [x])) (fun x h0 h1 hm => ?_) 4 0 (by omega) (by omega)
    exact specGreedy_l l ho d (s ++ [x]) (by simp; omega) (by rw [fits_snoc, hf, hm]; rfl)
def resGreedySharing (l : List Int) : List Int := if isOrd l then (greedy l l.length []).1 else []
def okGreedySharing (l : List Int) : Bool := if isOrd l then (greedy l l.length []).2 else false
theorem resGreedySharing_length (l : List Int) : (resGreedySharing l).length ≤ 1000 := by
  unfold resGreedySharing
  split
  · rename_i h
    have := isOrd_len h
    have := greedy_length l l.length []
    simp at this
    omega
  · simp
theorem specGreedySharing_ev (l : List Int) (hn : l.length ≤ 17592186044415) : Ev (fun k => spec_GreedySharing.f k l) (resGreedySharing l, okGreedySharing l) := by
  unfold spec_GreedySharing.f
  refine Ev.bind (l2Order_ev l (by omega)) (Ev.ite (fun hc => ?_) (fun hc => Ev.val ?_))
  · exact (specGreedy_l l hc l.length [] (by simp) rfl).to (by simp [resGreedySharing, okGreedySharing, hc])
  · simp [resGreedySharing, okGreedySharing, hc]
theorem implGreedySharing_ev (l : List Int) (hn : l.length ≤ 17592186044415) : Ev (fun k => impl_GreedySharing.f k l) (resGreedySharing l, okGreedySharing l) := by
  unfold impl_GreedySharing.f
  refine Ev.bind (isOrder_ev l (by omega)) (Ev.ite (fun hc => ?_) (fun hc => Ev.val ?_))
  · exact (implGreedy_l l hc l.length [] (by simp)).to (by simp [resGreedySharing, okGreedySharing, hc])
  · simp [resGreedySharing, okGreedySharing, hc]

theorem FnExactGreedySharing : laws_FnExactGreedySharing.Pure := by
  intro l hm hr hw
  refine Ev.rounds (?_ : Ev (fun k => laws_FnExactGreedySharing.f k l) true)
  unfold laws_FnExactGreedySharing.f
  refine Ev.ite (fun _ => Ev.val rfl) (fun hc => ?_)
  have hR := resGreedySharing_length l
  have hm1 : (marked 1 l.length).length ≤ 17592186044415 := by rw [marked_length]; omega
  refine Ev.bind (toIntS_ev l (by omega)) ?_
  refine Ev.bind (specGreedySharing_ev l (by omega)) ?_
  refine Ev.bind (toIntS_ev l (by omega)) ?_
  refine Ev.bind (implGreedySharing_ev l (by omega)) ?_
  refine Ev.bind (eqIntS_ev _ _ (by simp only []; omega)) ?_
  refine Ev.pos (by simp) ?_
  refine Ev.step (fun k => by rw [laws_FnExactGreedySharing.j0]) ?_
  refine Ev.neg (by simp) ?_
  refine Ev.bind (toIntS_ev l (by omega)) ?_
  refine Ev.bind (eqIntS_ev l l (by omega)) (Ev.pos (by simp) ?_)
  refine Ev.bind (markIntS_ev l 1 (by omega) (by omega) (by omega)) (Ev.neg (by simp only []; omega) ?_)
  refine Ev.bind (eqIntS_ev _ _ (by simp only []; omega)) (Ev.pos (by simp) ?_)
  refine Ev.step (fun k => by rw [laws_FnExactGreedySharing.j1]) ?_
  refine Ev.neg (by simp) ?_
  refine Ev.bind (markIntS_ev _ 1 (by simp only []; omega) (by omega) (by omega)) ?_
  refine Ev.bind (heldIntS_ev _ 1 (by simp only []; omega) (by omega) (by omega)) (Ev.neg (by simp only []; omega) (Ev.pos (by simp only []) ?_))
  refine Ev.bind (toIntS_ev l (by omega)) ?_
  refine Ev.bind (implGreedySharing_ev l (by omega)) ?_
  refine Ev.bind (eqIntS_ev _ _ (by simp only []; omega)) (Ev.pos (by simp) ?_)
  refine Ev.step (fun k => by rw [laws_FnExactGreedySharing.j2]) ?_
  refine Ev.neg (by simp) ?_
  exact Ev.bind (heldIntS_ev _ 1 (by simp only []; omega) (by omega) (by omega)) (Ev.neg (by simp only []; omega) (Ev.pos (by simp only []) (Ev.val rfl)))

end Go.Proofs.Ytbbfgejnlfafpaa.Pure
