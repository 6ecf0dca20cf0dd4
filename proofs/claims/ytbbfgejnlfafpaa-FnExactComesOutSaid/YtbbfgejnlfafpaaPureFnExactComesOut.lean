/- The program's ComesOut returns what the reference's returns, for all arguments, in memory of its own. -/
import Derived.Test.YtbbfgejnlfafpaaPFnExactComesOutx8
import Derived.Test.YtbbfgejnlfafpaaK
set_option linter.unusedVariables false
set_option linter.unusedSimpArgs false
namespace Go.Proofs.Ytbbfgejnlfafpaa.Pure
open Go.RowKit Go.Proofs.Ytbbfgejnlfafpaa.PFnExactComesOut Go.Proofs.YtbbfgejnlfafpaaW.PrintWords Go.Proofs.YtbbfgejnlfafpaaW.PrintLast Go.Proofs.YtbbfgejnlfafpaaW.PrintMore

theorem toIntS_l (x0 : List Int) (hn : x0.length ≤ 17592186044416) : ∀ (d i : Nat) (x3 : List Int), x3.length = x0.length → x3.take i = x0.take i → x0.length = i + d → Ev (fun k => laws_toIntS.l0 k x0 x3 i) x0
  | 0, i, x3, h1, h2, h3 => by
    refine Ev.step (fun k => by rw [laws_toIntS.l0]) ?_
    refine Ev.neg (by omega) (Ev.val ?_)
    rw [List.take_of_length_le (by omega), List.take_of_length_le (by omega)] at h2
    exact h2
  | d + 1, i, x3, h1, h2, h3 => by
    refine Ev.step (fun k => by rw [laws_toIntS.l0]) ?_
    refine Ev.pos (by omega) (Ev.pos (by omega) (Ev.pos (by omega) ?_))
    have e : wrap64 ((i : Int) + 1) = ((i + 1 : Nat) : Int) := by rw [w64 (by omega)]; omega
    simp only [e, Int.toNat_natCast]
    exact toIntS_l x0 hn d (i + 1) _ (by simpa using h1) (by rw [take_set_succ _ _ _ (by omega), h2, take_step _ _ (by omega), rd_nat]) (by omega)
theorem toIntS_ev (l : List Int) (hn : l.length ≤ 17592186044416) : Ev (fun k => laws_toIntS.f k l) l := by
  unfold laws_toIntS.f
  refine Ev.pos (by omega) (Ev.pos (by omega) ?_)
  exact toIntS_l l hn l.length 0 _ (by simp) (by simp) (by omega)

theorem eqIntS_l (a b : List Int) (hn : a.length ≤ 17592186044416) (hl : a.length = b.length) : ∀ (d i : Nat), a.length = i + d → Ev (fun k => laws_eqIntS.l0 k a b i) (decide (a.drop i = b.drop i))
  | 0, i, h => by
    refine Ev.step (fun k => by rw [laws_eqIntS.l0]) ?_
    refine Ev.neg (by omega) (Ev.val ?_)
    rw [List.drop_of_length_le (by omega), List.drop_of_length_le (by omega)]
    simp
  | d + 1, i, h => by
    refine Ev.step (fun k => by rw [laws_eqIntS.l0]) ?_
    refine Ev.pos (by omega) (Ev.pos (by omega) (Ev.pos (by omega) ?_))
    have e : wrap64 ((i : Int) + 1) = ((i + 1 : Nat) : Int) := by rw [w64 (by omega)]; omega
    simp only [e]
    rw [drop_step a i (by omega), drop_step b i (by omega)]
    refine Ev.ite (fun hc => ?_) (fun hc => Ev.val ?_)
    · have hc' : nth a i = nth b i := hc
      refine (eqIntS_l a b hn hl d (i + 1) (by omega)).to ?_
      rw [hc']
      simp
    · have hc' : ¬ nth a i = nth b i := hc
      simp [hc']
theorem eqIntS_ev (a b : List Int) (hn : a.length ≤ 17592186044416) : Ev (fun k => laws_eqIntS.f k a b) (decide (a = b)) := by
  unfold laws_eqIntS.f
  refine Ev.ite (fun hc => ?_) (fun hc => Ev.val ?_)
  · exact (eqIntS_l a b hn (by omega) a.length 0 (by omega)).to (by simp)
  · have : ¬ a = b := fun h => hc (by rw [h])
    simp [this]

theorem markIntS_l : ∀ (d i : Nat) (x0 : List Int) (x1 : Int), x0.length = i + d → x0.length ≤ 17592186044416 → -1000000000000000000 ≤ x1 → x1 + d ≤ 1000000000000000000 → Ev (fun k => laws_markIntS.l0 k x0 x1 i) (x1 + d, x0.take i ++ marked x1 d)
  | 0, i, x0, x1, h, hn, h1, h2 => by
    refine Ev.step (fun k => by rw [laws_markIntS.l0]) ?_
    refine Ev.neg (by omega) (Ev.val ?_)
    rw [List.take_of_length_le (by omega)]
    simp [marked]
  | d + 1, i, x0, x1, h, hn, h1, h2 => by
    refine Ev.step (fun k => by rw [laws_markIntS.l0]) ?_
    refine Ev.pos (by omega) (Ev.pos (by omega) ?_)
    have e : wrap64 ((i : Int) + 1) = ((i + 1 : Nat) : Int) := by rw [w64 (by omega)]; omega
    have e1 : wrap64 (x1 + 1) = x1 + 1 := w64 (by omega)
    simp only [e, e1, Int.toNat_natCast]
    refine (markIntS_l d (i + 1) (x0.set i x1) (x1 + 1) (by simpa using (by omega)) (by simpa using hn) (by omega) (by omega)).to ?_
    rw [take_set_succ _ _ _ (by omega)]
    simp [marked]
    omega
theorem markIntS_ev (l : List Int) (a : Int) (hn : l.length ≤ 17592186044416) (h1 : -1000000000000000 ≤ a) (h2 : a ≤ 1000000000000000) : Ev (fun k => laws_markIntS.f k l a) (a + l.length, marked a l.length) := by
  unfold laws_markIntS.f
  exact (markIntS_l l.length 0 l a (by omega) hn (by omega) (by omega)).to (by simp)

theorem heldIntS_l (n : Nat) (a : Int) (hn : n ≤ 17592186044416) (h1 : -1000000000000000 ≤ a) (h2 : a ≤ 1000000000000000) : ∀ (d i : Nat), n = i + d → Ev (fun k => laws_heldIntS.l0 k (marked a n) (a + i) i) (a + n)
  | 0, i, h => by
    refine Ev.step (fun k => by rw [laws_heldIntS.l0]) ?_
    refine Ev.neg (by rw [marked_length]; omega) (Ev.val ?_)
    omega
  | d + 1, i, h => by
    refine Ev.step (fun k => by rw [laws_heldIntS.l0]) ?_
    refine Ev.pos (by rw [marked_length]; omega) (Ev.pos (by omega) (Ev.pos (by rw [rd_nat, marked_nth n a i (by omega)]) ?_))
    have e : wrap64 ((i : Int) + 1) = ((i + 1 : Nat) : Int) := by rw [w64 (by omega)]; omega
    have e1 : wrap64 (a + i + 1) = a + ((i + 1 : Nat) : Int) := by rw [w64 (by omega)]; omega
    simp only [e, e1]
    exact heldIntS_l n a hn h1 h2 d (i + 1) (by omega)
theorem heldIntS_ev (n : Nat) (a : Int) (hn : n ≤ 17592186044416) (h1 : -1000000000000000 ≤ a) (h2 : a ≤ 1000000000000000) : Ev (fun k => laws_heldIntS.f k (marked a n) a) (a + n) := by
  unfold laws_heldIntS.f
  have := heldIntS_l n a hn h1 h2 n 0 (by omega)
  rw [show a + ((0 : Nat) : Int) = a by omega] at this
  exact this

theorem l1In_is (a b c : Int) : spec_l1In.f a b c = some (decide (b ≤ a ∧ a ≤ c)) := by
  unfold spec_l1In.f
  by_cases h : a ≥ b
  · rw [if_pos h]; simp [h]
  · rw [if_neg h]; simp; omega

theorem l1Has_l (l : List Int) (x : Int) (hn : l.length ≤ 17592186044416) : ∀ (d i : Nat), l.length = i + d → Ev (fun k => spec_l1Has.l0 k l x i) ((l.drop i).contains x)
  | 0, i, h => by
    refine Ev.step (fun k => by rw [spec_l1Has.l0]) ?_
    refine Ev.neg (by omega) (Ev.val ?_)
    rw [List.drop_of_length_le (by omega)]
    simp
  | d + 1, i, h => by
    refine Ev.step (fun k => by rw [spec_l1Has.l0]) ?_
    have e : wrap64 ((i : Int) + 1) = ((i + 1 : Nat) : Int) := by rw [w64 (by omega)]; omega
    simp only [e]
    rw [drop_step l i (by omega)]
    refine Ev.pos (by omega) (Ev.pos (by omega) (Ev.ite (fun hc => Ev.val ?_) (fun hc => ?_)))
    · have hc' : nth l i = x := hc
      rw [hc']; simp
    · have hc' : ¬ nth l i = x := hc
      refine (l1Has_l l x hn d (i + 1) (by omega)).to ?_
      have : ¬ x = nth l i := fun h => hc' h.symm
      rw [List.contains_cons]
      simp [this]
theorem l1Has_ev (l : List Int) (x : Int) (hn : l.length ≤ 17592186044416) : Ev (fun k => spec_l1Has.f k l x) (l.contains x) := by
  unfold spec_l1Has.f
  exact (l1Has_l l x hn l.length 0 (by omega)).to (by simp)

theorem l2Order_l (l : List Int) (hn : l.length ≤ 17592186044416) : ∀ (d i : Nat), l.length = i + d → Ev (fun k => spec_l2Order.l0 k l i) (allFrom (ordAt l) d i)
  | 0, i, h => by
    refine Ev.step (fun k => by rw [spec_l2Order.l0]) ?_
    exact Ev.neg (by omega) (Ev.val rfl)
  | d + 1, i, h => by
    refine Ev.step (fun k => by rw [spec_l2Order.l0]) ?_
    have e : wrap64 ((i : Int) + 1) = ((i + 1 : Nat) : Int) := by rw [w64 (by omega)]; omega
    simp only [e, l1In_is, Option.bind_some, rd_nat, Int.toNat_natCast, decide_eq_true_eq]
    refine Ev.pos (by omega) (Ev.pos (by omega) (Ev.ite (fun hc => Ev.pos (by omega) ?_) (fun hc => Ev.val ?_)))
    · refine Ev.bind (l1Has_ev _ _ (by simp; omega)) ?_
      refine Ev.ite (fun hb => Ev.val ?_) (fun hb => (l2Order_l l hn d (i + 1) (by omega)).to ?_)
      · rw [allFrom, ordAt, hb]; simp
      · rw [Bool.not_eq_true] at hb
        rw [allFrom, ordAt, hb]; simp [hc]
    · rw [allFrom, ordAt]
      by_cases h1 : 1 ≤ nth l i
      · have : ¬ nth l i ≤ l.length := fun h2 => hc ⟨h1, h2⟩
        simp [this]
      · simp [h1]
theorem l2Order_ev (l : List Int) (hn : l.length ≤ 17592186044416) : Ev (fun k => spec_l2Order.f k l) (isOrd l) := by
  unfold spec_l2Order.f
  simp only [l1In_is, Option.bind_some, decide_eq_true_eq]
  refine Ev.ite (fun hc => (l2Order_l l hn l.length 0 (by omega)).to ?_) (fun hc => Ev.val ?_)
  · have h1 : 1 ≤ l.length := by omega
    have h2 : l.length ≤ 7 := by omega
    simp [isOrd, h1, h2]
  · rw [isOrd]
    by_cases h1 : 1 ≤ l.length
    · have : ¬ l.length ≤ 7 := by omega
      simp [this]
    · simp [h1]

theorem Index_l (l : List Int) (x : Int) (hn : l.length ≤ 17592186044416) : ∀ (d i : Nat), l.length = i + d → (∀ j, j < i → nth l j ≠ x) → Ev (fun k => slices_Index_int_int.l0 k l x (l.length : Int) i) (idx l x)
  | 0, i, h, hq => by
    refine Ev.step (fun k => by rw [slices_Index_int_int.l0]) ?_
    refine Ev.neg (by omega) (Ev.val ?_)
    exact (idx_none l x fun j hj => hq j (by omega)).symm
  | d + 1, i, h, hq => by
    refine Ev.step (fun k => by rw [slices_Index_int_int.l0]) ?_
    have e : wrap64 ((i : Int) + 1) = ((i + 1 : Nat) : Int) := by rw [w64 (by omega)]; omega
    simp only [e]
    refine Ev.pos (by omega) (Ev.pos (by omega) (Ev.pos (by omega) (Ev.ite (fun hc => Ev.val ?_) (fun hc => ?_))))
    · exact (idx_some l x i (by omega) (by rw [hc]; rfl) hq).symm
    · refine Index_l l x hn d (i + 1) (by omega) (fun j hj => ?_)
      by_cases e : j = i
      · subst e; exact fun h => hc h.symm
      · exact hq j (by omega)
theorem Index_ev (l : List Int) (x : Int) (hn : l.length ≤ 17592186044416) : Ev (fun k => slices_Index_int_int.f k l x) (idx l x) := by
  unfold slices_Index_int_int.f
  exact Index_l l x hn l.length 0 (by omega) (fun j hj => by omega)

theorem Contains_ev (l : List Int) (x : Int) (hn : l.length ≤ 17592186044416) : Ev (fun k => slices_Contains_int_int.f k l x) (l.contains x) := by
  unfold slices_Contains_int_int.f
  exact Ev.bind (Index_ev l x hn) (Ev.val (idx_contains l x))

theorem isOrder_l (l : List Int) (hn : l.length ≤ 17592186044416) : ∀ (d i : Nat), l.length = i + d → Ev (fun k => impl_isOrder.l0 k l l (l.length : Int) i) (allFrom (ordAt l) d i)
  | 0, i, h => by
    refine Ev.step (fun k => by rw [impl_isOrder.l0]) ?_
    exact Ev.neg (by omega) (Ev.val rfl)
  | d + 1, i, h => by
    refine Ev.step (fun k => by rw [impl_isOrder.l0]) ?_
    have e : wrap64 ((i : Int) + 1) = ((i + 1 : Nat) : Int) := by rw [w64 (by omega)]; omega
    simp only [e, rd_nat, Int.toNat_natCast]
    refine Ev.pos (by omega) (Ev.pos (by omega) (Ev.pos (by omega) (Ev.ite (fun hc => Ev.val ?_) (fun hc => Ev.ite (fun hd => Ev.val ?_) (fun hd => Ev.pos (by omega) ?_)))))
    · have : ¬ 1 ≤ nth l i := by omega
      rw [allFrom, ordAt]; simp [this]
    · have : ¬ nth l i ≤ l.length := by omega
      rw [allFrom, ordAt]; simp [this]
    · refine Ev.bind (Contains_ev _ _ (by simp; omega)) ?_
      refine Ev.ite (fun hb => Ev.val ?_) (fun hb => (isOrder_l l hn d (i + 1) (by omega)).to ?_)
      · rw [allFrom, ordAt, hb]; simp
      · rw [Bool.not_eq_true] at hb
        have h1 : 1 ≤ nth l i := by omega
        have h2 : nth l i ≤ l.length := by omega
        rw [allFrom, ordAt, hb]; simp [h1, h2]
theorem isOrder_ev (l : List Int) (hn : l.length ≤ 17592186044416) : Ev (fun k => impl_isOrder.f k l) (isOrd l) := by
  unfold impl_isOrder.f
  refine Ev.ite (fun hc => ?_) (fun hc => ?_)
  · refine Ev.step (fun k => by rw [impl_isOrder.j0]) ?_
    refine Ev.pos rfl (Ev.val ?_)
    have : ¬ 1 ≤ l.length := by omega
    simp [isOrd, this]
  · refine Ev.step (fun k => by rw [impl_isOrder.j0]) ?_
    simp only [decide_eq_true_eq]
    refine Ev.ite (fun hd => Ev.val ?_) (fun hd => (isOrder_l l hn l.length 0 (by omega)).to ?_)
    · have : ¬ l.length ≤ 7 := by omega
      simp [isOrd, this]
    · have h1 : 1 ≤ l.length := by omega
      have h2 : l.length ≤ 7 := by omega
      simp [isOrd, h1, h2]

theorem IndexFunc_l (of_ : Nat → Int → Option Bool) (p : Int → Bool) (l : List Int) (hn : l.length ≤ 17592186044416) (hof : ∀ k x, x ∈ l → of_ k x = some (p x)) : ∀ (d i : Nat), l.length = i + d → Ev (fun k => slices_IndexFunc_int_int.l0 of_ k l (l.length : Int) i) (if idxF p (l.drop i) < 0 then -1 else idxF p (l.drop i) + i)
  | 0, i, h => by
    refine Ev.step (fun k => by rw [slices_IndexFunc_int_int.l0]) ?_
    refine Ev.neg (by omega) (Ev.val ?_)
    rw [List.drop_of_length_le (by omega)]; rfl
  | d + 1, i, h => by
    refine Ev.step (fun k => by rw [slices_IndexFunc_int_int.l0]) ?_
    have e : wrap64 ((i : Int) + 1) = ((i + 1 : Nat) : Int) := by rw [w64 (by omega)]; omega
    have hm : nth l i ∈ l := by rw [nth_lt l i (by omega)]; exact List.getElem_mem _
    have hq : ∀ k, of_ k (nth l i) = some (p (nth l i)) := fun k => hof k _ hm
    simp only [e, rd_nat, hq, Option.bind_some]
    rw [drop_step l i (by omega)]
    have hg := idxF_ge p (l.drop (i + 1))
    refine Ev.pos (by omega) (Ev.pos (by omega) (Ev.pos (by omega) (Ev.ite (fun hc => Ev.val ?_) (fun hc => ?_))))
    · simp [idxF, hc]
    · refine (IndexFunc_l of_ p l hn hof d (i + 1) (by omega)).to ?_
      simp only [idxF, if_neg hc]
      split
      · simp
      · rw [if_neg (by omega)]; omega
theorem ContainsFunc_ev (of_ : Nat → Int → Option Bool) (p : Int → Bool) (l : List Int) (s : ByteArray) (hn : l.length ≤ 17592186044416) (hof : ∀ k x, x ∈ l → of_ k x = some (p x)) : Ev (fun k => slices_ContainsFunc_int_int.f of_ k l s) (l.any p) := by
  unfold slices_ContainsFunc_int_int.f slices_IndexFunc_int_int.f
  refine Ev.bind (IndexFunc_l of_ p l hn hof l.length 0 (by omega)) (Ev.val ?_)
  rw [← idxF_any p l, List.drop_zero]
  have hg := idxF_ge p l
  by_cases h : idxF p l < 0
  · have : ¬ 0 ≤ idxF p l := by omega
    simp [h, this]
  · have h1 : 0 ≤ idxF p l := by omega
    simp [h, h1]

/-! sharings -/
def badStack (x : Int) : Bool := decide (x < 0) || decide (4 ≤ x)
def isShar (l0 l1 : List Int) : Bool := isOrd l0 && (decide (l1.length = l0.length) && !l1.any badStack)
theorem l7Sharing_l (l0 l : List Int) (hn : l.length ≤ 17592186044416) : ∀ (d i : Nat), l.length = i + d → Ev (fun k => spec_l7Sharing.l0 k l i) (!(l.drop i).any badStack)
  | 0, i, h => by
    refine Ev.step (fun k => by rw [spec_l7Sharing.l0]) ?_
    refine Ev.neg (by omega) (Ev.val ?_)
    rw [List.drop_of_length_le (by omega)]; rfl
  | d + 1, i, h => by
    refine Ev.step (fun k => by rw [spec_l7Sharing.l0]) ?_
    have e : wrap64 ((i : Int) + 1) = ((i + 1 : Nat) : Int) := by rw [w64 (by omega)]; omega
    simp only [e, l1In_is, Option.bind_some, rd_nat, decide_eq_true_eq]
    rw [drop_step l i (by omega), List.any_cons]
    refine Ev.pos (by omega) (Ev.pos (by omega) (Ev.ite (fun hc => ?_) (fun hc => Ev.val ?_)))
    · have hb : badStack (nth l i) = false := by simp [badStack]; omega
      rw [hb, Bool.false_or]
      exact l7Sharing_l l0 l hn d (i + 1) (by omega)
    · have hb : badStack (nth l i) = true := by
        simp only [badStack, Bool.or_eq_true, decide_eq_true_eq]; omega
      rw [hb]; rfl
theorem specIsSharing_ev (l0 l1 : List Int) (hn0 : l0.length ≤ 17592186044415) (hn1 : l1.length ≤ 17592186044415) : Ev (fun k => spec_l7Sharing.f k l0 l1) (isShar l0 l1) := by
  have hj : ∀ b : Bool, Ev (fun k => spec_l7Sharing.j0 k l1 b) (!b && !l1.any badStack) := by
    intro b
    refine Ev.step (fun k => by rw [spec_l7Sharing.j0]) ?_
    refine Ev.ite (fun hc => Ev.val ?_) (fun hc => (l7Sharing_l l0 l1 (by omega) l1.length 0 (by omega)).to ?_)
    · simp [hc]
    · simp [hc]
  unfold spec_l7Sharing.f
  refine Ev.bind (l2Order_ev l0 (by omega)) (Ev.ite (fun hc => (hj _).to ?_) (fun hc => (hj _).to ?_))
  · by_cases e : l1.length = l0.length
    · simp [isShar, hc, e]
    · have e' : ¬ (l1.length : Int) = l0.length := by omega
      simp [isShar, e, e']
  · rw [Bool.not_eq_true] at hc
    simp [isShar, hc]
theorem isSharing_1_is (x : Int) : impl_isSharing_1.f x = some (badStack x) := by
  unfold impl_isSharing_1.f badStack
  by_cases h : x < 0
  · rw [if_pos h]; simp [h]
  · rw [if_neg h]; simp [h]
theorem implIsSharing_ev (l0 l1 : List Int) (hn0 : l0.length ≤ 17592186044415) (hn1 : l1.length ≤ 17592186044415) : Ev (fun k => impl_isSharing.f k l0 l1) (isShar l0 l1) := by
  unfold impl_isSharing.f
  refine Ev.bind (isOrder_ev l0 (by omega)) (Ev.ite (fun hc => Ev.ite (fun hd => ?_) (fun hd => Ev.val ?_)) (fun hc => Ev.val ?_))
  · refine Ev.bind (ContainsFunc_ev _ badStack l1 _ (by omega) (fun k x _ => isSharing_1_is x)) (Ev.val ?_)
    have : l1.length = l0.length := by omega
    simp [isShar, hc, this]
  · have : ¬ l1.length = l0.length := by omega
    simp [isShar, this]
  · rw [Bool.not_eq_true] at hc
    simp [isShar, hc]

/-! numbers on four stacks, coming out at once -/
def tot (s : Pl) : Nat := (s.x 0).length + (s.x 1).length + (s.x 2).length + (s.x 3).length
def nf : Nat → Pl → Pl
  | 0, s => s
  | n + 1, s => if s.hit 0 then nf n (s.pop 0) else if s.hit 1 then nf n (s.pop 1) else if s.hit 2 then nf n (s.pop 2) else if s.hit 3 then nf n (s.pop 3) else s
def NF (s : Pl) : Pl := nf (tot s) s
theorem four (j : Nat) (hj : j < 4) : j = 0 ∨ j = 1 ∨ j = 2 ∨ j = 3 := by omega
theorem pop_x4 (s : Pl) (j : Nat) (hj : j < 4) : (s.pop j).x 4 = s.x 4 ++ [lastOf (s.x j)] := by
  unfold Pl.pop
  dsimp only
  rw [upd_ne _ _ (by omega), upd_same]
theorem pop_same (s : Pl) (j : Nat) (hj : j < 4) : (s.pop j).x j = (s.x j).take ((s.x j).length - 1) := by
  unfold Pl.pop
  dsimp only
  rw [upd_same]
theorem pop_ne (s : Pl) (j a : Nat) (hj : j < 4) (ha : a < 4) (h : a ≠ j) : (s.pop j).x a = s.x a := by
  unfold Pl.pop
  dsimp only
  rw [upd_ne _ _ h, upd_ne _ _ (by omega)]
theorem tot_upd (x : Nat → List Int) (j : Nat) (hj : j < 4) (l : List Int) : tot ⟨upd x j l, [], fun _ => 0⟩ + (x j).length = tot ⟨x, [], fun _ => 0⟩ + l.length := by
  unfold tot
  rcases four j hj with rfl | rfl | rfl | rfl <;> simp [upd] <;> omega
theorem tot_pop (s : Pl) (j : Nat) (hj : j < 4) (h : 0 < (s.x j).length) : tot (s.pop j) + 1 = tot s := by
  have h1 := pop_same s j hj
  have e : ∀ a, a < 4 → a ≠ j → (s.pop j).x a = s.x a := fun a ha hne => pop_ne s j a hj ha hne
  unfold tot
  rcases four j hj with rfl | rfl | rfl | rfl
  · rw [h1, e 1 (by omega) (by omega), e 2 (by omega) (by omega), e 3 (by omega) (by omega)]; simp; omega
  · rw [h1, e 0 (by omega) (by omega), e 2 (by omega) (by omega), e 3 (by omega) (by omega)]; simp; omega
  · rw [h1, e 1 (by omega) (by omega), e 0 (by omega) (by omega), e 3 (by omega) (by omega)]; simp; omega
  · rw [h1, e 1 (by omega) (by omega), e 2 (by omega) (by omega), e 0 (by omega) (by omega)]; simp; omega
structure PInv (o : List Int) (i : Nat) (s : Pl) : Prop where
  D : ∀ a b, a < 4 → b < 4 → ∀ v, v ∈ s.x a → v ∈ s.x b → a = b
  M : ∀ a, a < 4 → ∀ v, v ∈ s.x a → v ∈ o.take i
  T : tot s + (s.x 4).length = i
  V : s.mv.length = i + (s.x 4).length
theorem lastOf_mem (l : List Int) (h : 0 < l.length) : lastOf l ∈ l := by
  unfold lastOf
  rw [show ((l.length : Int) - 1) = ((l.length - 1 : Nat) : Int) by omega, rd_nat, nth_lt l _ (by omega)]
  exact List.getElem_mem _
theorem PInv.pop {o : List Int} {i : Nat} {s : Pl} (h : PInv o i s) (j : Nat) (hj : j < 4) (hh : 0 < (s.x j).length) : PInv o i (s.pop j) := by
  have sub : ∀ a, a < 4 → ∀ v, v ∈ (s.pop j).x a → v ∈ s.x a := by
    intro a ha v hv
    by_cases e : a = j
    · subst e
      rw [pop_same s a hj] at hv
      exact List.mem_of_mem_take hv
    · rw [pop_ne s j a hj ha e] at hv
      exact hv
  refine ⟨fun a b ha hb v h1 h2 => h.D a b ha hb v (sub a ha v h1) (sub b hb v h2), fun a ha v hv => h.M a ha v (sub a ha v hv), ?_, ?_⟩
  · have h1 := tot_pop s j hj hh
    have h2 := h.T
    rw [pop_x4 s j hj, List.length_append, List.length_singleton]
    omega
  · have h2 := h.V
    rw [pop_x4 s j hj, List.length_append, List.length_singleton]
    show (s.mv ++ [97 + (j : Int)]).length = _
    rw [List.length_append, List.length_singleton]
    omega
theorem PInv.uniq {o : List Int} {i : Nat} {s : Pl} (h : PInv o i s) {a b : Nat} (ha : a < 4) (hb : b < 4) (h1 : s.hit a) (h2 : s.hit b) : a = b := by
  refine h.D a b ha hb (lastOf (s.x a)) (lastOf_mem _ h1.1) ?_
  rw [h1.2, ← h2.2]
  exact lastOf_mem _ h2.1
theorem PInv.ok {o : List Int} {i : Nat} {s : Pl} (h : PInv o i s) (hi : i ≤ 7) : s.ok := by
  have h1 := h.T
  have h2 := h.V
  unfold tot at h1
  refine ⟨⟨by omega, by omega⟩, fun j hj => ?_⟩
  rcases four j hj with rfl | rfl | rfl | rfl <;> omega
theorem NF_pop {o : List Int} {i : Nat} {s : Pl} (h : PInv o i s) (j : Nat) (hj : j < 4) (hh : s.hit j) : NF s = NF (s.pop j) := by
  have ht := tot_pop s j hj hh.1
  unfold NF
  rw [← ht, nf]
  have hn : ∀ a, a < 4 → a ≠ j → ¬ s.hit a := fun a ha hne hk => hne (h.uniq ha hj hk hh)
  rcases four j hj with rfl | rfl | rfl | rfl
  · rw [if_pos hh]
  · rw [if_neg (hn 0 (by omega) (by omega)), if_pos hh]
  · rw [if_neg (hn 0 (by omega) (by omega)), if_neg (hn 1 (by omega) (by omega)), if_pos hh]
  · rw [if_neg (hn 0 (by omega) (by omega)), if_neg (hn 1 (by omega) (by omega)), if_neg (hn 2 (by omega) (by omega)), if_pos hh]
theorem NF_none (s : Pl) (h : ∀ j, j < 4 → ¬ s.hit j) : NF s = s := by
  unfold NF
  cases tot s with
  | zero => rfl
  | succ n => rw [nf, if_neg (h 0 (by omega)), if_neg (h 1 (by omega)), if_neg (h 2 (by omega)), if_neg (h 3 (by omega))]
theorem NF_inv {o : List Int} {i : Nat} : ∀ (n : Nat) (s : Pl), PInv o i s → tot s = n → PInv o i (NF s)
  | n, s, h, hn => by
    by_cases hx : ∃ j, j < 4 ∧ s.hit j
    · obtain ⟨j, hj, hh⟩ := hx
      rw [NF_pop h j hj hh]
      have ht := tot_pop s j hj hh.1
      match n, hn with
      | 0, hn => omega
      | n + 1, hn => exact NF_inv n (s.pop j) (h.pop j hj hh.1) (by omega)
    · rw [NF_none s (fun j hj hh => hx ⟨j, hj, hh⟩)]
      exact h
theorem popGo_ev {o : List Int} {i : Nat} (hi : i ≤ 7) : ∀ (n d j : Nat) (s : Pl), PInv o i s → tot s = n → j + d = 4 → (∀ a, a < j → ¬ s.hit a) → Ev (fun k => popGo k j s) (NF s)
  | n, 0, j, s, h, hn, hj, hno => by
    refine Ev.step (fun k => by rw [popGo]) ?_
    refine Ev.neg (by omega) (Ev.val ?_)
    exact (NF_none s (fun a ha => hno a (by omega))).symm
  | 0, d + 1, j, s, h, hn, hj, hno => by
    have hk : ¬ s.hit j := fun hh => by have := tot_pop s j (by omega) hh.1; omega
    refine Ev.step (fun k => by rw [popGo]) ?_
    refine Ev.pos (by omega) (Ev.pos (h.ok hi) (Ev.neg hk ?_))
    refine popGo_ev hi 0 d (j + 1) s h hn (by omega) (fun a ha => ?_)
    by_cases e : a = j
    · subst e; exact hk
    · exact hno a (by omega)
  | n + 1, d + 1, j, s, h, hn, hj, hno => by
    refine Ev.step (fun k => by rw [popGo]) ?_
    refine Ev.pos (by omega) (Ev.pos (h.ok hi) (Ev.ite (fun hh => ?_) (fun hk => ?_)))
    · have ht := tot_pop s j (by omega) hh.1
      rw [NF_pop h j (by omega) hh]
      exact popGo_ev hi n 4 0 (s.pop j) (h.pop j (by omega) hh.1) (by omega) (by omega) (fun a ha => by omega)
    · refine popGo_ev hi (n + 1) d (j + 1) s h hn (by omega) (fun a ha => ?_)
      by_cases e : a = j
      · subst e; exact hk
      · exact hno a (by omega)
  termination_by n d => (n, d)
theorem pass_is {o : List Int} {i : Nat} (hi : i ≤ 7) : ∀ (n j : Nat) (s : Pl) (p : Bool), j + n = 4 → PInv o i s →
    ∃ s' p', playPass n j s p = some (s', p') ∧ NF s' = NF s ∧ PInv o i s' ∧ tot s' ≤ tot s ∧ (p' = true → p = true ∨ tot s' < tot s) ∧ (p' = false → s' = s ∧ p = false ∧ ∀ a, j ≤ a → a < 4 → ¬ s.hit a)
  | 0, j, s, p, hj, h => ⟨s, p, rfl, rfl, h, Nat.le_refl _, fun e => .inl e, fun e => ⟨rfl, e, fun a h1 h2 => by omega⟩⟩
  | n + 1, j, s, p, hj, h => by
    by_cases hh : s.hit j
    · have ht := tot_pop s j (by omega) hh.1
      obtain ⟨s', p', h1, h2, h3, h4, h5, h6⟩ := pass_is hi n (j + 1) (s.pop j) true (by omega) (h.pop j (by omega) hh.1)
      refine ⟨s', p', by rw [playPass, if_pos hh, if_pos (h.ok hi), h1], by rw [h2, NF_pop h j (by omega) hh], h3, by omega, fun e => .inr (by omega), fun e => ?_⟩
      have := (h6 e).2.1
      cases this
    · obtain ⟨s', p', h1, h2, h3, h4, h5, h6⟩ := pass_is hi n (j + 1) s p (by omega) h
      refine ⟨s', p', by rw [playPass, if_neg hh, if_pos (h.ok hi), h1], h2, h3, h4, h5, fun e => ⟨(h6 e).1, (h6 e).2.1, fun a ha1 ha2 => ?_⟩⟩
      by_cases e2 : a = j
      · subst e2; exact hh
      · exact (h6 e).2.2 a (by omega) ha2
theorem playAll_ev {o : List Int} {i : Nat} (hi : i ≤ 7) : ∀ (n : Nat) (s : Pl), tot s ≤ n → PInv o i s → Ev (fun k => playAll k s) (NF s)
  | 0, s, hn, h => by
    obtain ⟨s', p', h1, h2, h3, h4, h5, h6⟩ := pass_is hi 4 0 s false (by omega) h
    refine Ev.step (fun k => by rw [playAll, h1, Option.bind_some]) ?_
    refine Ev.neg (fun e => ?_) (Ev.val ?_)
    · rcases h5 e with e2 | e2
      · cases e2
      · omega
    · cases p' with
      | true => rcases h5 rfl with e2 | e2
                · cases e2
                · omega
      | false =>
        obtain ⟨rfl, _, h7⟩ := h6 rfl
        exact (NF_none _ (fun a ha => h7 a (by omega) ha)).symm
  | n + 1, s, hn, h => by
    obtain ⟨s', p', h1, h2, h3, h4, h5, h6⟩ := pass_is hi 4 0 s false (by omega) h
    refine Ev.step (fun k => by rw [playAll, h1, Option.bind_some]) ?_
    refine Ev.ite (fun e => ?_) (fun e => Ev.val ?_)
    · rcases h5 e with e2 | e2
      · cases e2
      · rw [← h2]
        exact playAll_ev hi n s' (by omega) h3
    · cases p' with
      | true => exact absurd rfl e
      | false =>
        obtain ⟨rfl, _, h7⟩ := h6 rfl
        exact (NF_none _ (fun a ha => h7 a (by omega) ha)).symm
/-- one number pushed, and all that comes out -/
def stepP (o sh : List Int) (i : Nat) (s : Pl) : Pl := NF (s.push (nth sh i).toNat (nth o i))
def goP (o sh : List Int) : Nat → Nat → Pl → Pl
  | 0, _, s => s
  | r + 1, i, s => goP o sh r (i + 1) (stepP o sh i s)
def playM (o sh : List Int) : Pl := goP o sh o.length 0 Pl.zero
theorem zero_inv (o : List Int) : PInv o 0 Pl.zero := by
  refine ⟨fun a b _ _ v h => ?_, fun a _ v h => ?_, rfl, rfl⟩
  · cases h
  · cases h
theorem push_inv {o : List Int} (ho : isOrd o = true) {i : Nat} (hi : i < o.length) {s : Pl} (h : PInv o i s) (own : Nat) (hown : own < 4) : PInv o (i + 1) (s.push own (nth o i)) := by
  have hfresh := (isOrd_at ho i hi).2.2
  have hx : ∀ a, a < 4 → ∀ v, v ∈ (s.push own (nth o i)).x a → (v ∈ s.x a) ∨ (a = own ∧ v = nth o i) := by
    intro a ha v hv
    unfold Pl.push at hv
    by_cases e : a = own
    · subst e
      simp only [upd_same, List.mem_append, List.mem_singleton] at hv
      rcases hv with hv | hv
      · exact .inl hv
      · exact .inr ⟨rfl, hv⟩
    · simp only [upd_ne _ _ e] at hv
      exact .inl hv
  have h4 : (s.push own (nth o i)).x 4 = s.x 4 := by
    unfold Pl.push
    simp only [upd_ne s.x _ (show 4 ≠ own by omega)]
  refine ⟨fun a b ha hb v h1 h2 => ?_, fun a ha v hv => ?_, ?_, ?_⟩
  · rcases hx a ha v h1 with k1 | ⟨e1, e2⟩
    · rcases hx b hb v h2 with k2 | ⟨e3, e4⟩
      · exact h.D a b ha hb v k1 k2
      · exact absurd (e4 ▸ h.M a ha _ k1) hfresh
    · rcases hx b hb v h2 with k2 | ⟨e3, e4⟩
      · exact absurd (e2 ▸ h.M b hb _ k2) hfresh
      · rw [e1, e3]
  · rw [take_step o i hi, List.mem_append, List.mem_singleton]
    rcases hx a ha v hv with hv | ⟨_, hv⟩
    · exact .inl (h.M a ha v hv)
    · exact .inr hv
  · rw [h4]
    have h1 := tot_upd s.x own hown (s.x own ++ [nth o i])
    rw [List.length_append, List.length_singleton] at h1
    have h2 := h.T
    have h3 : tot (s.push own (nth o i)) = tot ⟨upd s.x own (s.x own ++ [nth o i]), [], fun _ => 0⟩ := rfl
    have h5 : tot s = tot ⟨s.x, [], fun _ => 0⟩ := rfl
    omega
  · rw [h4]
    have h2 := h.V
    show (s.mv ++ [65 + (own : Int)]).length = _
    rw [List.length_append, List.length_singleton]
    omega
theorem playGo_ev {o sh : List Int} (ho : isOrd o = true) (hl : sh.length = o.length) (hsh : ∀ j, j < sh.length → 0 ≤ nth sh j ∧ nth sh j < 4) : ∀ (r i : Nat) (s : Pl), i + r = o.length → PInv o i s →
    Ev (fun k => playGo k o sh r i s) (goP o sh r i s) ∧ Ev (fun k => movesGo k o sh r i s) (goP o sh r i s) ∧ PInv o o.length (goP o sh r i s)
  | 0, i, s, hi, h => by
    obtain rfl : i = o.length := by omega
    exact ⟨Ev.val rfl, Ev.val rfl, h⟩
  | r + 1, i, s, hi, h => by
    have hl7 := (isOrd_len ho).2
    have hs := hsh i (by omega)
    have hp := push_inv ho (show i < o.length by omega) h (nth sh i).toNat (by omega)
    have hs' : PInv o (i + 1) (stepP o sh i s) := NF_inv _ _ hp rfl
    obtain ⟨h1, h2, h3⟩ := playGo_ev ho hl hsh r (i + 1) (stepP o sh i s) (by omega) hs'
    refine ⟨?_, ?_, h3⟩
    · simp only [playGo, rd_nat]
      exact Ev.pos ⟨hs, h.ok (by omega)⟩ (Ev.bind (playAll_ev (by omega) _ _ (Nat.le_refl _) hp) h1)
    · simp only [movesGo, rd_nat]
      exact Ev.pos ⟨hs, h.ok (by omega)⟩ (Ev.bind (popGo_ev (by omega) _ 4 0 _ hp rfl (by omega) (fun a ha => by omega)) h2)
theorem isShar_all {o sh : List Int} (h : isShar o sh = true) : isOrd o = true ∧ sh.length = o.length ∧ ∀ j, j < sh.length → 0 ≤ nth sh j ∧ nth sh j < 4 := by
  simp only [isShar, Bool.and_eq_true, decide_eq_true_eq, Bool.not_eq_true', List.any_eq_false] at h
  refine ⟨h.1, h.2.1, fun j hj => ?_⟩
  have := h.2.2 (nth sh j) (by rw [nth_lt sh j hj]; exact List.getElem_mem _)
  simp [badStack] at this
  exact this
theorem play_ev {o sh : List Int} (h : isShar o sh = true) : Ev (fun k => impl_play.f k o sh) (playM o sh) := by
  obtain ⟨ho, hl, hsh⟩ := isShar_all h
  unfold impl_play.f
  exact Ev.pos ⟨hl, by have := isOrd_len ho; omega⟩ (playGo_ev ho hl hsh o.length 0 Pl.zero (by omega) (zero_inv o)).1
theorem l7Moves_ev {o sh : List Int} (h : isShar o sh = true) : Ev (fun k => spec_l7Moves.f k o sh) (playM o sh) := by
  obtain ⟨ho, hl, hsh⟩ := isShar_all h
  unfold spec_l7Moves.f
  exact Ev.pos ⟨hl, by have := isOrd_len ho; omega⟩ (playGo_ev ho hl hsh o.length 0 Pl.zero (by omega) (zero_inv o)).2.1
theorem playM_inv {o sh : List Int} (h : isShar o sh = true) : PInv o o.length (playM o sh) := by
  obtain ⟨ho, hl, hsh⟩ := isShar_all h
  exact (playGo_ev ho hl hsh o.length 0 Pl.zero (by omega) (zero_inv o)).2.2

def resComesOut (l s : List Int) : List Int := if isShar l s then (playM l s).x 4 else []
theorem resComesOut_length (l s : List Int) : (resComesOut l s).length ≤ 1000 := by
  unfold resComesOut
  split
  · rename_i h
    have h1 := (playM_inv h).T
    have h2 := isOrd_len (isShar_all h).1
    omega
  · simp
theorem specComesOut_ev (l s : List Int) (hn : l.length ≤ 17592186044415) (hs : s.length ≤ 17592186044415) : Ev (fun k => spec_ComesOut.f k l s) (resComesOut l s, isShar l s) := by
  unfold spec_ComesOut.f
  refine Ev.bind (specIsSharing_ev l s hn hs) (Ev.ite (fun hc => ?_) (fun hc => Ev.val ?_))
  · exact Ev.bind (l7Moves_ev hc) (Ev.val (by simp [resComesOut, hc]))
  · simp [resComesOut, hc]
theorem implComesOut_ev (l s : List Int) (hn : l.length ≤ 17592186044415) (hs : s.length ≤ 17592186044415) : Ev (fun k => impl_ComesOut.f k l s) (resComesOut l s, isShar l s) := by
  unfold impl_ComesOut.f
  refine Ev.bind (implIsSharing_ev l s hn hs) (Ev.ite (fun hc => ?_) (fun hc => Ev.val ?_))
  · exact Ev.bind (play_ev hc) (Ev.val (by simp [resComesOut, hc]))
  · simp [resComesOut, hc]

theorem FnExactComesOut : laws_FnExactComesOut.Pure := by
  intro l s hm hr hw hm' hs hw'
  refine Ev.rounds (?_ : Ev (fun k => laws_FnExactComesOut.f k l s) true)
  unfold laws_FnExactComesOut.f
  refine Ev.ite (fun _ => Ev.val rfl) (fun hc => ?_)
  refine Ev.ite (fun _ => Ev.val rfl) (fun hd => ?_)
  have hR := resComesOut_length l s
  have hm1 : (marked 1 l.length).length ≤ 17592186044415 := by rw [marked_length]; omega
  refine Ev.bind (toIntS_ev l (by omega)) ?_
  refine Ev.bind (toIntS_ev s (by omega)) ?_
  refine Ev.bind (specComesOut_ev l s (by omega) (by omega)) ?_
  refine Ev.bind (toIntS_ev l (by omega)) ?_
  refine Ev.bind (toIntS_ev s (by omega)) ?_
  refine Ev.bind (implComesOut_ev l s (by omega) (by omega)) ?_
  refine Ev.bind (eqIntS_ev _ _ (by simp only []; omega)) ?_
  refine Ev.pos (by simp) ?_
  refine Ev.step (fun k => by rw [laws_FnExactComesOut.j0]) ?_
  refine Ev.neg (by simp) ?_
  refine Ev.bind (toIntS_ev l (by omega)) ?_
  refine Ev.bind (eqIntS_ev l l (by omega)) (Ev.pos (by simp) ?_)
  refine Ev.bind (toIntS_ev s (by omega)) ?_
  refine Ev.bind (eqIntS_ev s s (by omega)) (Ev.pos (by simp) ?_)
  refine Ev.bind (markIntS_ev l 1 (by omega) (by omega) (by omega)) ?_
  refine Ev.bind (markIntS_ev s _ (by omega) (by simp only []; omega) (by simp only []; omega)) (Ev.neg (by simp only []; omega) ?_)
  refine Ev.bind (eqIntS_ev _ _ (by simp only []; omega)) (Ev.pos (by simp) ?_)
  refine Ev.step (fun k => by rw [laws_FnExactComesOut.j1]) ?_
  refine Ev.neg (by simp) ?_
  refine Ev.bind (markIntS_ev _ 1 (by simp only []; omega) (by omega) (by omega)) ?_
  refine Ev.bind (heldIntS_ev _ 1 (by simp only []; omega) (by omega) (by omega)) (Ev.neg (by simp only []; omega) (Ev.pos (by simp only []) ?_))
  refine Ev.bind (toIntS_ev l (by omega)) ?_
  refine Ev.bind (toIntS_ev s (by omega)) ?_
  refine Ev.bind (implComesOut_ev l s (by omega) (by omega)) ?_
  refine Ev.bind (eqIntS_ev _ _ (by simp only []; omega)) (Ev.pos (by simp) ?_)
  refine Ev.step (fun k => by rw [laws_FnExactComesOut.j2]) ?_
  refine Ev.neg (by simp) ?_
  exact Ev.bind (heldIntS_ev _ 1 (by simp only []; omega) (by omega) (by omega)) (Ev.neg (by simp only []; omega) (Ev.pos (by simp only []) (Ev.val rfl)))

end Go.Proofs.Ytbbfgejnlfafpaa.Pure
