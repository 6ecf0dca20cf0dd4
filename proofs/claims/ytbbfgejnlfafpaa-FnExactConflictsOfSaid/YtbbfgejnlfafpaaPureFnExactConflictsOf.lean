/- The program's ConflictsOf returns what the reference's returns, for every list, in memory of its own. -/
import Derived.Test.YtbbfgejnlfafpaaPFnExactConflictsOfx6
import Derived.Test.YtbbfgejnlfafpaaK
set_option linter.unusedVariables false
set_option linter.unusedSimpArgs false
namespace Go.Proofs.Ytbbfgejnlfafpaa.Pure
open Go.RowKit Go.Proofs.Ytbbfgejnlfafpaa.PFnExactConflictsOf Go.Proofs.YtbbfgejnlfafpaaW.PrintWords Go.Proofs.YtbbfgejnlfafpaaW.PrintLast Go.Proofs.YtbbfgejnlfafpaaW.PrintMore

theorem toIntS_l (x0 : List Int) (hn : x0.length ≤ 17592186044416) : ∀ (d i : Nat) (x3 : List Int), x3.length = x0.length → x3.take i = x0.take i → x0.length = i + d → Ev (fun k => laws_toIntS.l0 k x0 x3 i) x0
  | 0, i, x3, h1, h2, h3 => by
    refine Ev.step (fun k => by rw [laws_toIntS.l0]) ?_
    refine Ev.neg (by omega) (Ev.val ?_)
    rw [List.take_of_length_le (by omega), List.take_of_length_le (by omega)] at h2
    exact h2
  | d + 1, i, x3, h1, h2, h3 => by
    refine Ev.step (fun k => by rw [laws_toIntS.l0]) ?_
    refine Ev.pos (by omega) (Ev.pos (by omega) (Ev.pos (by omega) ?_))
    have e : wrap64 ((i : Int) + 1) = ((i + 1 : Nat) : Int) := by rw [w64 (by omega)]; omega
    simp only [e, Int.toNat_natCast]
    exact toIntS_l x0 hn d (i + 1) _ (by simpa using h1) (by rw [take_set_succ _ _ _ (by omega), h2, take_step _ _ (by omega), rd_nat]) (by omega)
theorem toIntS_ev (l : List Int) (hn : l.length ≤ 17592186044416) : Ev (fun k => laws_toIntS.f k l) l := by
  unfold laws_toIntS.f
  refine Ev.pos (by omega) (Ev.pos (by omega) ?_)
  exact toIntS_l l hn l.length 0 _ (by simp) (by simp) (by omega)

theorem eqIntS_l (a b : List Int) (hn : a.length ≤ 17592186044416) (hl : a.length = b.length) : ∀ (d i : Nat), a.length = i + d → Ev (fun k => laws_eqIntS.l0 k a b i) (decide (a.drop i = b.drop i))
  | 0, i, h => by
    refine Ev.step (fun k => by rw [laws_eqIntS.l0]) ?_
    refine Ev.neg (by omega) (Ev.val ?_)
    rw [List.drop_of_length_le (by omega), List.drop_of_length_le (by omega)]
    simp
  | d + 1, i, h => by
    refine Ev.step (fun k => by rw [laws_eqIntS.l0]) ?_
    refine Ev.pos (by omega) (Ev.pos (by omega) (Ev.pos (by omega) ?_))
    have e : wrap64 ((i : Int) + 1) = ((i + 1 : Nat) : Int) := by rw [w64 (by omega)]; omega
    simp only [e]
    rw [drop_step a i (by omega), drop_step b i (by omega)]
    refine Ev.ite (fun hc => ?_) (fun hc => Ev.val ?_)
    · have hc' : nth a i = nth b i := hc
      refine (eqIntS_l a b hn hl d (i + 1) (by omega)).to ?_
      rw [hc']
      simp
    · have hc' : ¬ nth a i = nth b i := hc
      simp [hc']
theorem eqIntS_ev (a b : List Int) (hn : a.length ≤ 17592186044416) : Ev (fun k => laws_eqIntS.f k a b) (decide (a = b)) := by
  unfold laws_eqIntS.f
  refine Ev.ite (fun hc => ?_) (fun hc => Ev.val ?_)
  · exact (eqIntS_l a b hn (by omega) a.length 0 (by omega)).to (by simp)
  · have : ¬ a = b := fun h => hc (by rw [h])
    simp [this]

theorem markIntS_l : ∀ (d i : Nat) (x0 : List Int) (x1 : Int), x0.length = i + d → x0.length ≤ 17592186044416 → -1000000000000000000 ≤ x1 → x1 + d ≤ 1000000000000000000 → Ev (fun k => laws_markIntS.l0 k x0 x1 i) (x1 + d, x0.take i ++ marked x1 d)
  | 0, i, x0, x1, h, hn, h1, h2 => by
    refine Ev.step (fun k => by rw [laws_markIntS.l0]) ?_
    refine Ev.neg (by omega) (Ev.val ?_)
    rw [List.take_of_length_le (by omega)]
    simp [marked]
  | d + 1, i, x0, x1, h, hn, h1, h2 => by
    refine Ev.step (fun k => by rw [laws_markIntS.l0]) ?_
    refine Ev.pos (by omega) (Ev.pos (by omega) ?_)
    have e : wrap64 ((i : Int) + 1) = ((i + 1 : Nat) : Int) := by rw [w64 (by omega)]; omega
    have e1 : wrap64 (x1 + 1) = x1 + 1 := w64 (by omega)
    simp only [e, e1, Int.toNat_natCast]
    refine (markIntS_l d (i + 1) (x0.set i x1) (x1 + 1) (by simpa using (by omega)) (by simpa using hn) (by omega) (by omega)).to ?_
    rw [take_set_succ _ _ _ (by omega)]
    simp [marked]
    omega
theorem markIntS_ev (l : List Int) (a : Int) (hn : l.length ≤ 17592186044416) (h1 : -1000000000000000 ≤ a) (h2 : a ≤ 1000000000000000) : Ev (fun k => laws_markIntS.f k l a) (a + l.length, marked a l.length) := by
  unfold laws_markIntS.f
  exact (markIntS_l l.length 0 l a (by omega) hn (by omega) (by omega)).to (by simp)

theorem l1In_is (a b c : Int) : spec_l1In.f a b c = some (decide (b ≤ a ∧ a ≤ c)) := by
  unfold spec_l1In.f
  by_cases h : a ≥ b
  · rw [if_pos h]; simp [h]
  · rw [if_neg h]; simp; omega

theorem l1Has_l (l : List Int) (x : Int) (hn : l.length ≤ 17592186044416) : ∀ (d i : Nat), l.length = i + d → Ev (fun k => spec_l1Has.l0 k l x i) ((l.drop i).contains x)
  | 0, i, h => by
    refine Ev.step (fun k => by rw [spec_l1Has.l0]) ?_
    refine Ev.neg (by omega) (Ev.val ?_)
    rw [List.drop_of_length_le (by omega)]
    simp
  | d + 1, i, h => by
    refine Ev.step (fun k => by rw [spec_l1Has.l0]) ?_
    have e : wrap64 ((i : Int) + 1) = ((i + 1 : Nat) : Int) := by rw [w64 (by omega)]; omega
    simp only [e]
    rw [drop_step l i (by omega)]
    refine Ev.pos (by omega) (Ev.pos (by omega) (Ev.ite (fun hc => Ev.val ?_) (fun hc => ?_)))
    · have hc' : nth l i = x := hc
      rw [hc']; simp
    · have hc' : ¬ nth l i = x := hc
      refine (l1Has_l l x hn d (i + 1) (by omega)).to ?_
      have : ¬ x = nth l i := fun h => hc' h.symm
      rw [List.contains_cons]
      simp [this]
theorem l1Has_ev (l : List Int) (x : Int) (hn : l.length ≤ 17592186044416) : Ev (fun k => spec_l1Has.f k l x) (l.contains x) := by
  unfold spec_l1Has.f
  exact (l1Has_l l x hn l.length 0 (by omega)).to (by simp)

theorem l2Order_l (l : List Int) (hn : l.length ≤ 17592186044416) : ∀ (d i : Nat), l.length = i + d → Ev (fun k => spec_l2Order.l0 k l i) (allFrom (ordAt l) d i)
  | 0, i, h => by
    refine Ev.step (fun k => by rw [spec_l2Order.l0]) ?_
    exact Ev.neg (by omega) (Ev.val rfl)
  | d + 1, i, h => by
    refine Ev.step (fun k => by rw [spec_l2Order.l0]) ?_
    have e : wrap64 ((i : Int) + 1) = ((i + 1 : Nat) : Int) := by rw [w64 (by omega)]; omega
    simp only [e, l1In_is, Option.bind_some, rd_nat, Int.toNat_natCast, decide_eq_true_eq]
    refine Ev.pos (by omega) (Ev.pos (by omega) (Ev.ite (fun hc => Ev.pos (by omega) ?_) (fun hc => Ev.val ?_)))
    · refine Ev.bind (l1Has_ev _ _ (by simp; omega)) ?_
      refine Ev.ite (fun hb => Ev.val ?_) (fun hb => (l2Order_l l hn d (i + 1) (by omega)).to ?_)
      · rw [allFrom, ordAt, hb]; simp
      · rw [Bool.not_eq_true] at hb
        rw [allFrom, ordAt, hb]; simp [hc]
    · rw [allFrom, ordAt]
      by_cases h1 : 1 ≤ nth l i
      · have : ¬ nth l i ≤ l.length := fun h2 => hc ⟨h1, h2⟩
        simp [this]
      · simp [h1]
theorem l2Order_ev (l : List Int) (hn : l.length ≤ 17592186044416) : Ev (fun k => spec_l2Order.f k l) (isOrd l) := by
  unfold spec_l2Order.f
  simp only [l1In_is, Option.bind_some, decide_eq_true_eq]
  refine Ev.ite (fun hc => (l2Order_l l hn l.length 0 (by omega)).to ?_) (fun hc => Ev.val ?_)
  · have h1 : 1 ≤ l.length := by omega
    have h2 : l.length ≤ 7 := by omega
    simp [isOrd, h1, h2]
  · rw [isOrd]
    by_cases h1 : 1 ≤ l.length
    · have : ¬ l.length ≤ 7 := by omega
      simp [this]
    · simp [h1]

theorem Index_l (l : List Int) (x : Int) (hn : l.length ≤ 17592186044416) : ∀ (d i : Nat), l.length = i + d → (∀ j, j < i → nth l j ≠ x) → Ev (fun k => slices_Index_int_int.l0 k l x (l.length : Int) i) (idx l x)
  | 0, i, h, hq => by
    refine Ev.step (fun k => by rw [slices_Index_int_int.l0]) ?_
    refine Ev.neg (by omega) (Ev.val ?_)
    exact (idx_none l x fun j hj => hq j (by omega)).symm
  | d + 1, i, h, hq => by
    refine Ev.step (fun k => by rw [slices_Index_int_int.l0]) ?_
    have e : wrap64 ((i : Int) + 1) = ((i + 1 : Nat) : Int) := by rw [w64 (by omega)]; omega
    simp only [e]
    refine Ev.pos (by omega) (Ev.pos (by omega) (Ev.pos (by omega) (Ev.ite (fun hc => Ev.val ?_) (fun hc => ?_))))
    · exact (idx_some l x i (by omega) (by rw [hc]; rfl) hq).symm
    · refine Index_l l x hn d (i + 1) (by omega) (fun j hj => ?_)
      by_cases e : j = i
      · subst e; exact fun h => hc h.symm
      · exact hq j (by omega)
theorem Index_ev (l : List Int) (x : Int) (hn : l.length ≤ 17592186044416) : Ev (fun k => slices_Index_int_int.f k l x) (idx l x) := by
  unfold slices_Index_int_int.f
  exact Index_l l x hn l.length 0 (by omega) (fun j hj => by omega)

theorem Contains_ev (l : List Int) (x : Int) (hn : l.length ≤ 17592186044416) : Ev (fun k => slices_Contains_int_int.f k l x) (l.contains x) := by
  unfold slices_Contains_int_int.f
  exact Ev.bind (Index_ev l x hn) (Ev.val (idx_contains l x))

theorem isOrder_l (l : List Int) (hn : l.length ≤ 17592186044416) : ∀ (d i : Nat), l.length = i + d → Ev (fun k => impl_isOrder.l0 k l l (l.length : Int) i) (allFrom (ordAt l) d i)
  | 0, i, h => by
    refine Ev.step (fun k => by rw [impl_isOrder.l0]) ?_
    exact Ev.neg (by omega) (Ev.val rfl)
  | d + 1, i, h => by
    refine Ev.step (fun k => by rw [impl_isOrder.l0]) ?_
    have e : wrap64 ((i : Int) + 1) = ((i + 1 : Nat) : Int) := by rw [w64 (by omega)]; omega
    simp only [e, rd_nat, Int.toNat_natCast]
    refine Ev.pos (by omega) (Ev.pos (by omega) (Ev.pos (by omega) (Ev.ite (fun hc => Ev.val ?_) (fun hc => Ev.ite (fun hd => Ev.val ?_) (fun hd => Ev.pos (by omega) ?_)))))
    · have : ¬ 1 ≤ nth l i := by omega
      rw [allFrom, ordAt]; simp [this]
    · have : ¬ nth l i ≤ l.length := by omega
      rw [allFrom, ordAt]; simp [this]
    · refine Ev.bind (Contains_ev _ _ (by simp; omega)) ?_
      refine Ev.ite (fun hb => Ev.val ?_) (fun hb => (isOrder_l l hn d (i + 1) (by omega)).to ?_)
      · rw [allFrom, ordAt, hb]; simp
      · rw [Bool.not_eq_true] at hb
        have h1 : 1 ≤ nth l i := by omega
        have h2 : nth l i ≤ l.length := by omega
        rw [allFrom, ordAt, hb]; simp [h1, h2]
theorem isOrder_ev (l : List Int) (hn : l.length ≤ 17592186044416) : Ev (fun k => impl_isOrder.f k l) (isOrd l) := by
  unfold impl_isOrder.f
  refine Ev.ite (fun hc => ?_) (fun hc => ?_)
  · refine Ev.step (fun k => by rw [impl_isOrder.j0]) ?_
    refine Ev.pos rfl (Ev.val ?_)
    have : ¬ 1 ≤ l.length := by omega
    simp [isOrd, this]
  · refine Ev.step (fun k => by rw [impl_isOrder.j0]) ?_
    simp only [decide_eq_true_eq]
    refine Ev.ite (fun hd => Ev.val ?_) (fun hd => (isOrder_l l hn l.length 0 (by omega)).to ?_)
    · have : ¬ l.length ≤ 7 := by omega
      simp [isOrd, this]
    · have h1 : 1 ≤ l.length := by omega
      have h2 : l.length ≤ 7 := by omega
      simp [isOrd, h1, h2]

theorem IndexFunc_l (of_ : Nat → Int → Option Bool) (p : Int → Bool) (l : List Int) (hn : l.length ≤ 17592186044416) (hof : ∀ k x, x ∈ l → of_ k x = some (p x)) : ∀ (d i : Nat), l.length = i + d → Ev (fun k => slices_IndexFunc_int_int.l0 of_ k l (l.length : Int) i) (if idxF p (l.drop i) < 0 then -1 else idxF p (l.drop i) + i)
  | 0, i, h => by
    refine Ev.step (fun k => by rw [slices_IndexFunc_int_int.l0]) ?_
    refine Ev.neg (by omega) (Ev.val ?_)
    rw [List.drop_of_length_le (by omega)]; rfl
  | d + 1, i, h => by
    refine Ev.step (fun k => by rw [slices_IndexFunc_int_int.l0]) ?_
    have e : wrap64 ((i : Int) + 1) = ((i + 1 : Nat) : Int) := by rw [w64 (by omega)]; omega
    have hm : nth l i ∈ l := by rw [nth_lt l i (by omega)]; exact List.getElem_mem _
    have hq : ∀ k, of_ k (nth l i) = some (p (nth l i)) := fun k => hof k _ hm
    simp only [e, rd_nat, hq, Option.bind_some]
    rw [drop_step l i (by omega)]
    have hg := idxF_ge p (l.drop (i + 1))
    refine Ev.pos (by omega) (Ev.pos (by omega) (Ev.pos (by omega) (Ev.ite (fun hc => Ev.val ?_) (fun hc => ?_))))
    · simp [idxF, hc]
    · refine (IndexFunc_l of_ p l hn hof d (i + 1) (by omega)).to ?_
      simp only [idxF, if_neg hc]
      split
      · simp
      · rw [if_neg (by omega)]; omega
theorem ContainsFunc_ev (of_ : Nat → Int → Option Bool) (p : Int → Bool) (l : List Int) (s : ByteArray) (hn : l.length ≤ 17592186044416) (hof : ∀ k x, x ∈ l → of_ k x = some (p x)) : Ev (fun k => slices_ContainsFunc_int_int.f of_ k l s) (l.any p) := by
  unfold slices_ContainsFunc_int_int.f slices_IndexFunc_int_int.f
  refine Ev.bind (IndexFunc_l of_ p l hn hof l.length 0 (by omega)) (Ev.val ?_)
  rw [← idxF_any p l, List.drop_zero]
  have hg := idxF_ge p l
  by_cases h : idxF p l < 0
  · have : ¬ 0 ≤ idxF p l := by omega
    simp [h, this]
  · have h1 : 0 ≤ idxF p l := by omega
    simp [h, h1]

/-! conflicts -/
theorem isOrd_ne2 {l : List Int} (h : isOrd l = true) (i j : Nat) (h0 : i < j) (hi : j < l.length) : nth l i ≠ nth l j := by
  intro e
  refine (isOrd_at h j hi).2.2 ?_
  rw [← e, nth_lt l i (by omega), List.mem_take_iff_getElem]
  exact ⟨i, by omega, rfl⟩
def lessThan (n x : Int) : Bool := decide (x < n)
def conf (l : List Int) (i j : Nat) : Bool := decide (nth l i < nth l j) && (l.drop (j + 1)).any (lessThan (nth l i))
theorem l7Conflict_l (l : List Int) (hn : l.length ≤ 1000) (i : Nat) (hi : i < l.length) : ∀ (d j : Nat), l.length = j + d → Ev (fun k => spec_l7Conflict.l0 k l i j) ((l.drop j).any (lessThan (nth l i)))
  | 0, j, h => by
    refine Ev.step (fun k => by rw [spec_l7Conflict.l0]) ?_
    refine Ev.neg (by omega) (Ev.val ?_)
    rw [List.drop_of_length_le (by omega)]; rfl
  | d + 1, j, h => by
    refine Ev.step (fun k => by rw [spec_l7Conflict.l0]) ?_
    have e : wrap64 ((j : Int) + 1) = ((j + 1 : Nat) : Int) := by rw [w64 (by omega)]; omega
    simp only [e, rd_nat]
    rw [drop_step l j (by omega), List.any_cons]
    refine Ev.pos (by omega) (Ev.pos (by omega) (Ev.pos (by omega) (Ev.pos (by omega) (Ev.ite (fun hc => Ev.val ?_) (fun hc => ?_)))))
    · simp [lessThan, hc]
    · have hb : lessThan (nth l i) (nth l j) = false := by simp [lessThan]; omega
      rw [hb, Bool.false_or]
      exact l7Conflict_l l hn i hi d (j + 1) (by omega)
theorem specConflict_ev (l : List Int) (ho : isOrd l = true) (i j : Nat) (hij : i < j) (hj : j < l.length) : Ev (fun k => spec_l7Conflict.f k l i j) (conf l i j) := by
  have hl := isOrd_len ho
  have hne := isOrd_ne2 ho i j hij hj
  unfold spec_l7Conflict.f
  have e : wrap64 ((j : Int) + 1) = ((j + 1 : Nat) : Int) := by rw [w64 (by omega)]; omega
  simp only [e, rd_nat]
  refine Ev.pos (by omega) (Ev.pos (by omega) (Ev.pos (by omega) (Ev.pos (by omega) (Ev.ite (fun hc => Ev.val ?_) (fun hc => ?_)))))
  · have : ¬ nth l i < nth l j := by omega
    simp [conf, this]
  · have h1 : nth l i < nth l j := by omega
    refine (l7Conflict_l l (by omega) i (by omega) (l.length - (j + 1)) (j + 1) (by omega)).to ?_
    simp [conf, h1]
theorem implConflict_ev (l : List Int) (ho : isOrd l = true) (i j : Nat) (hij : i < j) (hj : j < l.length) : Ev (fun k => impl_isConflict.f k l i j) (conf l i j) := by
  have hl := isOrd_len ho
  unfold impl_isConflict.f
  have e : wrap64 ((j : Int) + 1) = ((j + 1 : Nat) : Int) := by rw [w64 (by omega)]; omega
  simp only [e, rd_nat, Int.toNat_natCast]
  refine Ev.pos (by omega) (Ev.pos (by omega) (Ev.pos (by omega) (Ev.pos (by omega) (Ev.ite (fun hc => Ev.pos (by omega) (Ev.pos (by omega) ?_)) (fun hc => Ev.val ?_)))))
  · refine Ev.bind (ContainsFunc_ev _ (lessThan (nth l i)) _ _ (by simp; omega) (fun k x _ => ?_)) (Ev.val ?_)
    · unfold impl_isConflict_1.f
      rw [if_pos (by omega), if_pos (by omega)]
      rfl
    · have h1 : nth l i < nth l j := by omega
      simp [conf, h1]
  · have : ¬ nth l i < nth l j := by omega
    simp [conf, this]

/-! marks in a row of pairs -/
def markedP (a : Int) : Nat → List S63
  | 0 => []
  | n + 1 => ⟨a, a + 1⟩ :: markedP (a + 2) n
theorem markedP_length (n : Nat) : ∀ a : Int, (markedP a n).length = n := by
  induction n with
  | zero => intro a; rfl
  | succ n ih => intro a; simp [markedP, ih]
theorem markedP_at (n : Nat) : ∀ (a : Int) (i : Nat), i < n → rd_T63 (markedP a n) (i : Int) = ⟨a + 2 * i, a + 2 * i + 1⟩ := by
  induction n with
  | zero => intro a i h; omega
  | succ n ih =>
    intro a i h
    cases i with
    | zero => simp [markedP, rd_T63]
    | succ i =>
      have := ih (a + 2) i (by omega)
      have e : rd_T63 (markedP a (n + 1)) ((i + 1 : Nat) : Int) = rd_T63 (markedP (a + 2) n) (i : Int) := by simp [rd_T63, markedP]
      rw [e, this]
      simp only [S63.mk.injEq]
      omega
theorem take_set_succP (l : List S63) (i : Nat) (v : S63) (h : i < l.length) : (l.set i v).take (i + 1) = l.take i ++ [v] := by
  rw [List.take_succ_eq_append_getElem (by simpa using h), List.take_set_of_le (Nat.le_refl i)]
  simp
theorem markP_l : ∀ (d i : Nat) (x0 : List S63) (x1 : Int), x0.length = i + d → x0.length ≤ 17592186044416 → -1000000000000000000 ≤ x1 → x1 + 2 * d ≤ 1000000000000000000 → Ev (fun k => laws_markIntA2S.l0 k x0 x1 i) (x1 + 2 * d, x0.take i ++ markedP x1 d)
  | 0, i, x0, x1, h, hn, h1, h2 => by
    refine Ev.step (fun k => by rw [laws_markIntA2S.l0]) ?_
    refine Ev.neg (by omega) (Ev.val ?_)
    rw [List.take_of_length_le (by omega)]
    simp [markedP]
  | d + 1, i, x0, x1, h, hn, h1, h2 => by
    refine Ev.step (fun k => by rw [laws_markIntA2S.l0]) ?_
    refine Ev.pos (by omega) (Ev.pos (by omega) ?_)
    have e : wrap64 ((i : Int) + 1) = ((i + 1 : Nat) : Int) := wup i (by omega)
    have e1 : wrap64 (x1 + 1) = x1 + 1 := w64 (by omega)
    have e2 : wrap64 (x1 + 1 + 1) = x1 + 2 := by rw [w64 (by omega)]; omega
    simp only [e, e1, e2, Int.toNat_natCast]
    refine (markP_l d (i + 1) (x0.set i ⟨x1, x1 + 1⟩) (x1 + 2) (by simpa using (by omega)) (by simpa using hn) (by omega) (by omega)).to ?_
    rw [take_set_succP _ _ _ (by omega)]
    simp [markedP]
    omega
theorem markP_ev (l : List S63) (hn : l.length ≤ 17592186044416) : Ev (fun k => laws_markIntA2S.f k l 1) (1 + 2 * (l.length : Int), markedP 1 l.length) := by
  unfold laws_markIntA2S.f
  exact (markP_l l.length 0 l 1 (by omega) hn (by omega) (by omega)).to (by simp)
theorem heldP_l (n : Nat) (hn : n ≤ 17592186044416) : ∀ (d i : Nat), n = i + d → Ev (fun k => laws_heldIntA2S.l0 k (markedP 1 n) (1 + 2 * (i : Int)) i) (1 + 2 * (n : Int))
  | 0, i, h => by
    refine Ev.step (fun k => by rw [laws_heldIntA2S.l0]) ?_
    refine Ev.neg (by rw [markedP_length]; omega) (Ev.val ?_)
    omega
  | d + 1, i, h => by
    refine Ev.step (fun k => by rw [laws_heldIntA2S.l0]) ?_
    have e : wrap64 ((i : Int) + 1) = ((i + 1 : Nat) : Int) := wup i (by omega)
    have e1 : wrap64 (1 + 2 * (i : Int) + 1) = 1 + 2 * (i : Int) + 1 := w64 (by omega)
    have e2 : wrap64 (1 + 2 * (i : Int) + 1 + 1) = 1 + 2 * ((i + 1 : Nat) : Int) := by rw [w64 (by omega)]; omega
    simp only [e, e1, e2, markedP_at n 1 i (by omega)]
    exact Ev.pos (by rw [markedP_length]; omega) (Ev.pos (by omega) (Ev.pos trivial (Ev.pos trivial (heldP_l n hn d (i + 1) (by omega)))))
theorem heldP_ev (n : Nat) (hn : n ≤ 17592186044416) : Ev (fun k => laws_heldIntA2S.f k (markedP 1 n) 1) (1 + 2 * (n : Int)) := by
  unfold laws_heldIntA2S.f
  exact heldP_l n hn n 0 (by omega)
theorem eqP_l (a : List S63) (hn : a.length ≤ 17592186044416) : ∀ (d i : Nat), a.length = i + d → Ev (fun k => laws_eqIntA2S.l0 k a a i) true
  | 0, i, h => by
    refine Ev.step (fun k => by rw [laws_eqIntA2S.l0]) ?_
    exact Ev.neg (by omega) (Ev.val rfl)
  | d + 1, i, h => by
    refine Ev.step (fun k => by rw [laws_eqIntA2S.l0]) ?_
    have e : wrap64 ((i : Int) + 1) = ((i + 1 : Nat) : Int) := wup i (by omega)
    simp only [e]
    refine Ev.pos (by omega) (Ev.pos (by omega) (Ev.pos (by omega) ?_))
    exact Ev.bind (Ev.val (by simp)) (Ev.pos rfl (eqP_l a hn d (i + 1) (by omega)))
theorem eqP_ev (a : List S63) (hn : a.length ≤ 17592186044416) : Ev (fun k => laws_eqIntA2S.f k a a) true := by
  unfold laws_eqIntA2S.f
  exact Ev.pos rfl (eqP_l a hn a.length 0 (by omega))

/-! conflicts -/
def cJ (l : List Int) (i : Nat) : Nat → Nat → List S63 → List S63
  | 0, _, A => A
  | d + 1, j, A => cJ l i d (j + 1) (if conf l i j = true then A ++ [⟨(i : Int), (j : Int)⟩] else A)
def cI (l : List Int) : Nat → Nat → List S63 → List S63
  | 0, _, A => A
  | d + 1, i, A => cI l d (i + 1) (cJ l i d (i + 1) A)
theorem cJ_len (l : List Int) (i : Nat) : ∀ (d j : Nat) (A : List S63), (cJ l i d j A).length ≤ A.length + d
  | 0, _, A => Nat.le_refl _
  | d + 1, j, A => by
    rw [cJ]
    split
    · have := cJ_len l i d (j + 1) (A ++ [⟨(i : Int), (j : Int)⟩])
      simp at this ⊢
      omega
    · have := cJ_len l i d (j + 1) A
      omega
theorem cI_len (l : List Int) : ∀ (d i : Nat) (A : List S63), (cI l d i A).length ≤ A.length + d * d
  | 0, _, A => by simp [cI]
  | d + 1, i, A => by
    rw [cI]
    have h1 := cI_len l d (i + 1) (cJ l i d (i + 1) A)
    have h2 := cJ_len l i d (i + 1) A
    have h3 : (d + 1) * (d + 1) = d * d + 2 * d + 1 := by rw [Nat.add_mul, Nat.mul_add]; omega
    omega
theorem specC_l1 (l : List Int) (ho : isOrd l = true) (i : Nat) (hi : i < l.length) (R : List S63 → List S63) (hR : ∀ A, A.length ≤ 7 * (i + 1) → Ev (fun k => spec_l7Conflicts.l0 k l A ((i + 1 : Nat) : Int)) (R A)) : ∀ (d j : Nat) (A : List S63), l.length = j + d → i < j → A.length ≤ 7 * i + j → Ev (fun k => spec_l7Conflicts.l1 k l A (i : Int) (j : Int)) (R (cJ l i d j A))
  | 0, j, A, h, hj, hA => by
    have hl := isOrd_len ho
    have e : wrap64 ((i : Int) + 1) = ((i + 1 : Nat) : Int) := wup i (by omega)
    refine Ev.step (fun k => by rw [spec_l7Conflicts.l1]) ?_
    simp only [e]
    exact Ev.neg (by omega) (hR A (by omega))
  | d + 1, j, A, h, hj, hA => by
    have hl := isOrd_len ho
    have e : wrap64 ((j : Int) + 1) = ((j + 1 : Nat) : Int) := wup j (by omega)
    refine Ev.step (fun k => by rw [spec_l7Conflicts.l1]) ?_
    simp only [e]
    rw [cJ]
    refine Ev.pos (by omega) (Ev.bind (specConflict_ev l ho i j hj (by omega)) (Ev.ite (fun hc => Ev.pos (by omega) ?_) (fun hc => ?_)))
    · rw [if_pos hc]; exact specC_l1 l ho i hi R hR d (j + 1) _ (by omega) (by omega) (by simp; omega)
    · rw [if_neg hc]; exact specC_l1 l ho i hi R hR d (j + 1) _ (by omega) (by omega) (by omega)
theorem specC_l0 (l : List Int) (ho : isOrd l = true) : ∀ (d i : Nat) (A : List S63), l.length = i + d → A.length ≤ 7 * i → Ev (fun k => spec_l7Conflicts.l0 k l A (i : Int)) (cI l d i A)
  | 0, i, A, h, hA => by
    refine Ev.step (fun k => by rw [spec_l7Conflicts.l0]) ?_
    exact Ev.neg (by omega) (Ev.val rfl)
  | d + 1, i, A, h, hA => by
    have hl := isOrd_len ho
    have e : wrap64 ((i : Int) + 1) = ((i + 1 : Nat) : Int) := wup i (by omega)
    refine Ev.step (fun k => by rw [spec_l7Conflicts.l0]) ?_
    simp only [e]
    rw [cI]
    exact Ev.pos (by omega) (specC_l1 l ho i (by omega) (fun A => cI l d (i + 1) A) (fun A hA => specC_l0 l ho d (i + 1) A (by omega) hA) d (i + 1) A (by omega) (by omega) (by omega))
theorem implC_l1 (l : List Int) (ho : isOrd l = true) (i : Nat) (hi : i < l.length) (R : List S63 → List S63 × Bool) (hR : ∀ A, A.length ≤ 7 * (i + 1) → Ev (fun k => impl_ConflictsOf.l0 k l A (l.length : Int) ((i + 1 : Nat) : Int)) (R A)) : ∀ (d j : Nat) (A : List S63), l.length = j + d → i < j → A.length ≤ 7 * i + j → Ev (fun k => impl_ConflictsOf.l1 k l A (i : Int) (j : Int) (l.length : Int) (i : Int)) (R (cJ l i d j A))
  | 0, j, A, h, hj, hA => by
    have hl := isOrd_len ho
    have e : wrap64 ((i : Int) + 1) = ((i + 1 : Nat) : Int) := wup i (by omega)
    refine Ev.step (fun k => by rw [impl_ConflictsOf.l1]) ?_
    simp only [e]
    exact Ev.neg (by omega) (hR A (by omega))
  | d + 1, j, A, h, hj, hA => by
    have hl := isOrd_len ho
    have e : wrap64 ((j : Int) + 1) = ((j + 1 : Nat) : Int) := wup j (by omega)
    refine Ev.step (fun k => by rw [impl_ConflictsOf.l1]) ?_
    simp only [e]
    rw [cJ]
    refine Ev.pos (by omega) (Ev.bind (implConflict_ev l ho i j hj (by omega)) (Ev.ite (fun hc => Ev.pos (by omega) ?_) (fun hc => ?_)))
    · rw [if_pos hc]; exact implC_l1 l ho i hi R hR d (j + 1) _ (by omega) (by omega) (by simp; omega)
    · rw [if_neg hc]; exact implC_l1 l ho i hi R hR d (j + 1) _ (by omega) (by omega) (by omega)
theorem implC_l0 (l : List Int) (ho : isOrd l = true) : ∀ (d i : Nat) (A : List S63), l.length = i + d → A.length ≤ 7 * i → Ev (fun k => impl_ConflictsOf.l0 k l A (l.length : Int) (i : Int)) (cI l d i A, true)
  | 0, i, A, h, hA => by
    refine Ev.step (fun k => by rw [impl_ConflictsOf.l0]) ?_
    exact Ev.neg (by omega) (Ev.val rfl)
  | d + 1, i, A, h, hA => by
    have hl := isOrd_len ho
    have e : wrap64 ((i : Int) + 1) = ((i + 1 : Nat) : Int) := wup i (by omega)
    refine Ev.step (fun k => by rw [impl_ConflictsOf.l0]) ?_
    simp only [e]
    rw [cI]
    exact Ev.pos (by omega) (implC_l1 l ho i (by omega) (fun A => (cI l d (i + 1) A, true)) (fun A hA => implC_l0 l ho d (i + 1) A (by omega) hA) d (i + 1) A (by omega) (by omega) (by omega))
def resConflictsOf (l : List Int) : List S63 := if isOrd l = true then cI l l.length 0 [] else []
theorem resConflictsOf_length (l : List Int) : (resConflictsOf l).length ≤ 1000 := by
  unfold resConflictsOf
  split
  · rename_i h
    have h1 := isOrd_len h
    have h2 := cI_len l l.length 0 []
    have h3 : l.length * l.length ≤ 7 * 7 := Nat.mul_le_mul h1.2 h1.2
    simp at h2
    omega
  · simp
theorem specConflictsOf_ev (l : List Int) (hn : l.length ≤ 17592186044415) : Ev (fun k => spec_ConflictsOf.f k l) (resConflictsOf l, isOrd l) := by
  unfold spec_ConflictsOf.f resConflictsOf
  refine Ev.bind (l2Order_ev l (by omega)) (Ev.ite (fun hc => ?_) (fun hc => Ev.val ?_))
  · rw [if_pos hc, hc]
    unfold spec_l7Conflicts.f
    exact Ev.bind (specC_l0 l hc l.length 0 [] (by omega) (by simp)) (Ev.val rfl)
  · rw [if_neg hc]; rw [Bool.not_eq_true] at hc; rw [hc]
theorem implConflictsOf_ev (l : List Int) (hn : l.length ≤ 17592186044415) : Ev (fun k => impl_ConflictsOf.f k l) (resConflictsOf l, isOrd l) := by
  unfold impl_ConflictsOf.f resConflictsOf
  refine Ev.bind (isOrder_ev l (by omega)) (Ev.ite (fun hc => ?_) (fun hc => Ev.val ?_))
  · rw [if_pos hc, hc]
    exact implC_l0 l hc l.length 0 [] (by omega) (by simp)
  · rw [if_neg hc]; rw [Bool.not_eq_true] at hc; rw [hc]
theorem FnExactConflictsOf : laws_FnExactConflictsOf.Pure := by
  intro l hm hr hw
  refine Ev.rounds (?_ : Ev (fun k => laws_FnExactConflictsOf.f k l) true)
  unfold laws_FnExactConflictsOf.f
  refine Ev.ite (fun _ => Ev.val rfl) (fun hc => ?_)
  have hR := resConflictsOf_length l
  refine Ev.bind (toIntS_ev l (by omega)) ?_
  refine Ev.bind (specConflictsOf_ev l (by omega)) ?_
  refine Ev.bind (toIntS_ev l (by omega)) ?_
  refine Ev.bind (implConflictsOf_ev l (by omega)) ?_
  refine Ev.bind (eqP_ev _ (by simp only []; omega)) ?_
  refine Ev.pos rfl ?_
  refine Ev.step (fun k => by rw [laws_FnExactConflictsOf.j0]) ?_
  refine Ev.neg (by simp) ?_
  refine Ev.bind (toIntS_ev l (by omega)) ?_
  refine Ev.bind (eqIntS_ev l l (by omega)) (Ev.pos (by simp) ?_)
  refine Ev.bind (markIntS_ev l 1 (by omega) (by omega) (by omega)) (Ev.neg (by simp only []; omega) ?_)
  refine Ev.bind (eqP_ev _ (by simp only []; omega)) (Ev.pos rfl ?_)
  refine Ev.step (fun k => by rw [laws_FnExactConflictsOf.j1]) ?_
  refine Ev.neg (by simp) ?_
  refine Ev.bind (markP_ev _ (by simp only []; omega)) ?_
  refine Ev.bind (heldP_ev _ (by simp only []; omega)) (Ev.neg (by simp only []; omega) (Ev.pos (by simp only []) ?_))
  refine Ev.bind (toIntS_ev l (by omega)) ?_
  refine Ev.bind (implConflictsOf_ev l (by omega)) ?_
  refine Ev.bind (eqP_ev _ (by simp only []; omega)) (Ev.pos rfl ?_)
  refine Ev.step (fun k => by rw [laws_FnExactConflictsOf.j2]) ?_
  refine Ev.neg (by simp) ?_
  exact Ev.bind (heldP_ev _ (by simp only []; omega)) (Ev.neg (by simp only []; omega) (Ev.pos (by simp only []) (Ev.val rfl)))

end Go.Proofs.Ytbbfgejnlfafpaa.Pure
