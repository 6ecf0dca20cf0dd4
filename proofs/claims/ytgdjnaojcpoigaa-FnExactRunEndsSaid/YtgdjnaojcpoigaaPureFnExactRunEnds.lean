/- The program's RunEnds returns what the reference's returns, for all arguments, in memory of its own. -/
import Derived.Test.YtgdjnaojcpoigaaPFnExactRunEndsx6
import Derived.Test.YtgdjnaojcpoigaaK
set_option linter.unusedVariables false
set_option linter.unusedSimpArgs false
namespace Go.Proofs.Ytgdjnaojcpoigaa.Pure
open Go.RowKit Go.Proofs.Ytgdjnaojcpoigaa.PFnExactRunEnds Go.Proofs.YtgdjnaojcpoigaaW.PrintWords Go.Proofs.YtgdjnaojcpoigaaW.PrintLast Go.Proofs.YtgdjnaojcpoigaaW.PrintMore

theorem toIntS_l (x0 : List Int) (hn : x0.length ≤ 17592186044416) : ∀ (d i : Nat) (x3 : List Int), x3.length = x0.length → x3.take i = x0.take i → x0.length = i + d → Ev (fun k => laws_toIntS.l0 k x0 x3 i) x0
  | 0, i, x3, h1, h2, h3 => by
    refine Ev.step (fun k => by rw [laws_toIntS.l0]) ?_
    refine Ev.neg (by omega) (Ev.val ?_)
    rw [List.take_of_length_le (by omega), List.take_of_length_le (by omega)] at h2
    exact h2
  | d + 1, i, x3, h1, h2, h3 => by
    refine Ev.step (fun k => by rw [laws_toIntS.l0]) ?_
    refine Ev.pos (by omega) (Ev.pos (by omega) (Ev.pos (by omega) ?_))
    have e : wrap64 ((i : Int) + 1) = ((i + 1 : Nat) : Int) := by rw [w64 (by omega)]; omega
    simp only [e, Int.toNat_natCast]
    exact toIntS_l x0 hn d (i + 1) _ (by simpa using h1) (by rw [take_set_succ _ _ _ (by omega), h2, take_step _ _ (by omega), rd_nat]) (by omega)
theorem toIntS_ev (l : List Int) (hn : l.length ≤ 17592186044416) : Ev (fun k => laws_toIntS.f k l) l := by
  unfold laws_toIntS.f
  refine Ev.pos (by omega) (Ev.pos (by omega) ?_)
  exact toIntS_l l hn l.length 0 _ (by simp) (by simp) (by omega)

theorem eqIntS_l (a b : List Int) (hn : a.length ≤ 17592186044416) (hl : a.length = b.length) : ∀ (d i : Nat), a.length = i + d → Ev (fun k => laws_eqIntS.l0 k a b i) (decide (a.drop i = b.drop i))
  | 0, i, h => by
    refine Ev.step (fun k => by rw [laws_eqIntS.l0]) ?_
    refine Ev.neg (by omega) (Ev.val ?_)
    rw [List.drop_of_length_le (by omega), List.drop_of_length_le (by omega)]
    simp
  | d + 1, i, h => by
    refine Ev.step (fun k => by rw [laws_eqIntS.l0]) ?_
    refine Ev.pos (by omega) (Ev.pos (by omega) (Ev.pos (by omega) ?_))
    have e : wrap64 ((i : Int) + 1) = ((i + 1 : Nat) : Int) := by rw [w64 (by omega)]; omega
    simp only [e]
    rw [drop_step a i (by omega), drop_step b i (by omega)]
    refine Ev.ite (fun hc => ?_) (fun hc => Ev.val ?_)
    · have hc' : nth a i = nth b i := hc
      refine (eqIntS_l a b hn hl d (i + 1) (by omega)).to ?_
      rw [hc']
      simp
    · have hc' : ¬ nth a i = nth b i := hc
      simp [hc']
theorem eqIntS_ev (a b : List Int) (hn : a.length ≤ 17592186044416) : Ev (fun k => laws_eqIntS.f k a b) (decide (a = b)) := by
  unfold laws_eqIntS.f
  refine Ev.ite (fun hc => ?_) (fun hc => Ev.val ?_)
  · exact (eqIntS_l a b hn (by omega) a.length 0 (by omega)).to (by simp)
  · have : ¬ a = b := fun h => hc (by rw [h])
    simp [this]

theorem markIntS_l : ∀ (d i : Nat) (x0 : List Int) (x1 : Int), x0.length = i + d → x0.length ≤ 17592186044416 → -1000000000000000000 ≤ x1 → x1 + d ≤ 1000000000000000000 → Ev (fun k => laws_markIntS.l0 k x0 x1 i) (x1 + d, x0.take i ++ marked x1 d)
  | 0, i, x0, x1, h, hn, h1, h2 => by
    refine Ev.step (fun k => by rw [laws_markIntS.l0]) ?_
    refine Ev.neg (by omega) (Ev.val ?_)
    rw [List.take_of_length_le (by omega)]
    simp [marked]
  | d + 1, i, x0, x1, h, hn, h1, h2 => by
    refine Ev.step (fun k => by rw [laws_markIntS.l0]) ?_
    refine Ev.pos (by omega) (Ev.pos (by omega) ?_)
    have e : wrap64 ((i : Int) + 1) = ((i + 1 : Nat) : Int) := by rw [w64 (by omega)]; omega
    have e1 : wrap64 (x1 + 1) = x1 + 1 := w64 (by omega)
    simp only [e, e1, Int.toNat_natCast]
    refine (markIntS_l d (i + 1) (x0.set i x1) (x1 + 1) (by simpa using (by omega)) (by simpa using hn) (by omega) (by omega)).to ?_
    rw [take_set_succ _ _ _ (by omega)]
    simp [marked]
    omega
theorem markIntS_ev (l : List Int) (a : Int) (hn : l.length ≤ 17592186044416) (h1 : -1000000000000000 ≤ a) (h2 : a ≤ 1000000000000000) : Ev (fun k => laws_markIntS.f k l a) (a + l.length, marked a l.length) := by
  unfold laws_markIntS.f
  exact (markIntS_l l.length 0 l a (by omega) hn (by omega) (by omega)).to (by simp)

theorem heldIntS_l (n : Nat) (a : Int) (hn : n ≤ 17592186044416) (h1 : -1000000000000000 ≤ a) (h2 : a ≤ 1000000000000000) : ∀ (d i : Nat), n = i + d → Ev (fun k => laws_heldIntS.l0 k (marked a n) (a + i) i) (a + n)
  | 0, i, h => by
    refine Ev.step (fun k => by rw [laws_heldIntS.l0]) ?_
    refine Ev.neg (by rw [marked_length]; omega) (Ev.val ?_)
    omega
  | d + 1, i, h => by
    refine Ev.step (fun k => by rw [laws_heldIntS.l0]) ?_
    refine Ev.pos (by rw [marked_length]; omega) (Ev.pos (by omega) (Ev.pos (by rw [rd_nat, marked_nth n a i (by omega)]) ?_))
    have e : wrap64 ((i : Int) + 1) = ((i + 1 : Nat) : Int) := by rw [w64 (by omega)]; omega
    have e1 : wrap64 (a + i + 1) = a + ((i + 1 : Nat) : Int) := by rw [w64 (by omega)]; omega
    simp only [e, e1]
    exact heldIntS_l n a hn h1 h2 d (i + 1) (by omega)
theorem heldIntS_ev (n : Nat) (a : Int) (hn : n ≤ 17592186044416) (h1 : -1000000000000000 ≤ a) (h2 : a ≤ 1000000000000000) : Ev (fun k => laws_heldIntS.f k (marked a n) a) (a + n) := by
  unfold laws_heldIntS.f
  have := heldIntS_l n a hn h1 h2 n 0 (by omega)
  rw [show a + ((0 : Nat) : Int) = a by omega] at this
  exact this

theorem l1In_is (a b c : Int) : spec_l1In.f a b c = some (decide (b ≤ a ∧ a ≤ c)) := by
  unfold spec_l1In.f
  by_cases h : a ≥ b
  · rw [if_pos h]; simp [h]
  · rw [if_neg h]; simp; omega

theorem l1Has_l (l : List Int) (x : Int) (hn : l.length ≤ 17592186044416) : ∀ (d i : Nat), l.length = i + d → Ev (fun k => spec_l1Has.l0 k l x i) ((l.drop i).contains x)
  | 0, i, h => by
    refine Ev.step (fun k => by rw [spec_l1Has.l0]) ?_
    refine Ev.neg (by omega) (Ev.val ?_)
    rw [List.drop_of_length_le (by omega)]
    simp
  | d + 1, i, h => by
    refine Ev.step (fun k => by rw [spec_l1Has.l0]) ?_
    have e : wrap64 ((i : Int) + 1) = ((i + 1 : Nat) : Int) := by rw [w64 (by omega)]; omega
    simp only [e]
    rw [drop_step l i (by omega)]
    refine Ev.pos (by omega) (Ev.pos (by omega) (Ev.ite (fun hc => Ev.val ?_) (fun hc => ?_)))
    · have hc' : nth l i = x := hc
      rw [hc']; simp
    · have hc' : ¬ nth l i = x := hc
      refine (l1Has_l l x hn d (i + 1) (by omega)).to ?_
      have : ¬ x = nth l i := fun h => hc' h.symm
      rw [List.contains_cons]
      simp [this]
theorem l1Has_ev (l : List Int) (x : Int) (hn : l.length ≤ 17592186044416) : Ev (fun k => spec_l1Has.f k l x) (l.contains x) := by
  unfold spec_l1Has.f
  exact (l1Has_l l x hn l.length 0 (by omega)).to (by simp)

theorem l2Order_l (l : List Int) (hn : l.length ≤ 17592186044416) : ∀ (d i : Nat), l.length = i + d → Ev (fun k => spec_l2Order.l0 k l i) (allFrom (ordAt l) d i)
  | 0, i, h => by
    refine Ev.step (fun k => by rw [spec_l2Order.l0]) ?_
    exact Ev.neg (by omega) (Ev.val rfl)
  | d + 1, i, h => by
    refine Ev.step (fun k => by rw [spec_l2Order.l0]) ?_
    have e : wrap64 ((i : Int) + 1) = ((i + 1 : Nat) : Int) := by rw [w64 (by omega)]; omega
    simp only [e, l1In_is, Option.bind_some, rd_nat, Int.toNat_natCast, decide_eq_true_eq]
    refine Ev.pos (by omega) (Ev.pos (by omega) (Ev.ite (fun hc => Ev.pos (by omega) ?_) (fun hc => Ev.val ?_)))
    · refine Ev.bind (l1Has_ev _ _ (by simp; omega)) ?_
      refine Ev.ite (fun hb => Ev.val ?_) (fun hb => (l2Order_l l hn d (i + 1) (by omega)).to ?_)
      · rw [allFrom, ordAt, hb]; simp
      · rw [Bool.not_eq_true] at hb
        rw [allFrom, ordAt, hb]; simp [hc]
    · rw [allFrom, ordAt]
      by_cases h1 : 1 ≤ nth l i
      · have : ¬ nth l i ≤ l.length := fun h2 => hc ⟨h1, h2⟩
        simp [this]
      · simp [h1]
theorem l2Order_ev (l : List Int) (hn : l.length ≤ 17592186044416) : Ev (fun k => spec_l2Order.f k l) (isOrd l) := by
  unfold spec_l2Order.f
  simp only [l1In_is, Option.bind_some, decide_eq_true_eq]
  refine Ev.ite (fun hc => (l2Order_l l hn l.length 0 (by omega)).to ?_) (fun hc => Ev.val ?_)
  · have h1 : 1 ≤ l.length := by omega
    have h2 : l.length ≤ 7 := by omega
    simp [isOrd, h1, h2]
  · rw [isOrd]
    by_cases h1 : 1 ≤ l.length
    · have : ¬ l.length ≤ 7 := by omega
      simp [this]
    · simp [h1]

theorem Index_l (l : List Int) (x : Int) (hn : l.length ≤ 17592186044416) : ∀ (d i : Nat), l.length = i + d → (∀ j, j < i → nth l j ≠ x) → Ev (fun k => slices_Index_int_int.l0 k l x (l.length : Int) i) (idx l x)
  | 0, i, h, hq => by
    refine Ev.step (fun k => by rw [slices_Index_int_int.l0]) ?_
    refine Ev.neg (by omega) (Ev.val ?_)
    exact (idx_none l x fun j hj => hq j (by omega)).symm
  | d + 1, i, h, hq => by
    refine Ev.step (fun k => by rw [slices_Index_int_int.l0]) ?_
    have e : wrap64 ((i : Int) + 1) = ((i + 1 : Nat) : Int) := by rw [w64 (by omega)]; omega
    simp only [e]
    refine Ev.pos (by omega) (Ev.pos (by omega) (Ev.pos (by omega) (Ev.ite (fun hc => Ev.val ?_) (fun hc => ?_))))
    · exact (idx_some l x i (by omega) (by rw [hc]; rfl) hq).symm
    · refine Index_l l x hn d (i + 1) (by omega) (fun j hj => ?_)
      by_cases e : j = i
      · subst e; exact fun h => hc h.symm
      · exact hq j (by omega)
theorem Index_ev (l : List Int) (x : Int) (hn : l.length ≤ 17592186044416) : Ev (fun k => slices_Index_int_int.f k l x) (idx l x) := by
  unfold slices_Index_int_int.f
  exact Index_l l x hn l.length 0 (by omega) (fun j hj => by omega)

theorem Contains_ev (l : List Int) (x : Int) (hn : l.length ≤ 17592186044416) : Ev (fun k => slices_Contains_int_int.f k l x) (l.contains x) := by
  unfold slices_Contains_int_int.f
  exact Ev.bind (Index_ev l x hn) (Ev.val (idx_contains l x))

theorem isOrder_l (l : List Int) (hn : l.length ≤ 17592186044416) : ∀ (d i : Nat), l.length = i + d → Ev (fun k => impl_isOrder.l0 k l l (l.length : Int) i) (allFrom (ordAt l) d i)
  | 0, i, h => by
    refine Ev.step (fun k => by rw [impl_isOrder.l0]) ?_
    exact Ev.neg (by omega) (Ev.val rfl)
  | d + 1, i, h => by
    refine Ev.step (fun k => by rw [impl_isOrder.l0]) ?_
    have e : wrap64 ((i : Int) + 1) = ((i + 1 : Nat) : Int) := by rw [w64 (by omega)]; omega
    simp only [e, rd_nat, Int.toNat_natCast]
    refine Ev.pos (by omega) (Ev.pos (by omega) (Ev.pos (by omega) (Ev.ite (fun hc => Ev.val ?_) (fun hc => Ev.ite (fun hd => Ev.val ?_) (fun hd => Ev.pos (by omega) ?_)))))
    · have : ¬ 1 ≤ nth l i := by omega
      rw [allFrom, ordAt]; simp [this]
    · have : ¬ nth l i ≤ l.length := by omega
      rw [allFrom, ordAt]; simp [this]
    · refine Ev.bind (Contains_ev _ _ (by simp; omega)) ?_
      refine Ev.ite (fun hb => Ev.val ?_) (fun hb => (isOrder_l l hn d (i + 1) (by omega)).to ?_)
      · rw [allFrom, ordAt, hb]; simp
      · rw [Bool.not_eq_true] at hb
        have h1 : 1 ≤ nth l i := by omega
        have h2 : nth l i ≤ l.length := by omega
        rw [allFrom, ordAt, hb]; simp [h1, h2]
theorem isOrder_ev (l : List Int) (hn : l.length ≤ 17592186044416) : Ev (fun k => impl_isOrder.f k l) (isOrd l) := by
  unfold impl_isOrder.f
  refine Ev.ite (fun hc => ?_) (fun hc => ?_)
  · refine Ev.step (fun k => by rw [impl_isOrder.j0]) ?_
    refine Ev.pos rfl (Ev.val ?_)
    have : ¬ 1 ≤ l.length := by omega
    simp [isOrd, this]
  · refine Ev.step (fun k => by rw [impl_isOrder.j0]) ?_
    simp only [decide_eq_true_eq]
    refine Ev.ite (fun hd => Ev.val ?_) (fun hd => (isOrder_l l hn l.length 0 (by omega)).to ?_)
    · have : ¬ l.length ≤ 7 := by omega
      simp [isOrd, this]
    · have h1 : 1 ≤ l.length := by omega
      have h2 : l.length ≤ 7 := by omega
      simp [isOrd, h1, h2]

theorem isSize_is (a : Int) : impl_isSize.f a = some (decide (1 ≤ a ∧ a ≤ 7)) := by
  unfold impl_isSize.f
  by_cases h : a ≥ 1
  · rw [if_pos h]; simp [h]
  · rw [if_neg h]; simp; omega

theorem l1Own_is (l : List Int) (h : l.length < 17592186044416) : spec_l1Own.f l = some l := by
  unfold spec_l1Own.f
  simp [h]

/-! ends words, byte by byte -/
def ewFrom (s : ByteArray) : Nat → Nat → Int → Bool
  | 0, _, now => now == 0
  | d + 1, i, now => if bt s i = 73 then ewFrom s d (i + 1) (now + 1) else if bt s i = 84 ∨ bt s i = 66 then (if now > 0 then ewFrom s d (i + 1) (now - 1) else false) else false
def deep (s : ByteArray) : Nat → Nat → Int → Int → Int
  | 0, _, _, most => most
  | d + 1, i, now, most => if bt s i = 73 then deep s d (i + 1) (now + 1) (mx most (now + 1)) else deep s d (i + 1) (now - 1) (mx most (now - 1))
def okSize (s : ByteArray) : Bool := decide (1 ≤ s.size / 2 ∧ s.size / 2 ≤ 7)
def isEnds (s : ByteArray) : Bool := okSize s && ewFrom s s.size 0 0
theorem ewFrom_par (s : ByteArray) : ∀ (d i : Nat) (now : Int), ewFrom s d i now = true → (now + d) % 2 = 0
  | 0, i, now, h => by simp [ewFrom] at h; omega
  | d + 1, i, now, h => by
    rw [ewFrom] at h
    split at h
    · have := ewFrom_par s d (i + 1) (now + 1) h; omega
    · split at h
      · split at h
        · have := ewFrom_par s d (i + 1) (now - 1) h; omega
        · cases h
      · cases h
theorem l8Word_l (s : ByteArray) (hs : s.size ≤ 140737488351232) : ∀ (d i : Nat) (now : Int), s.size = i + d → 0 ≤ now → now ≤ i → Ev (fun k => spec_l8Word.l0 k s now i) (ewFrom s d i now)
  | 0, i, now, h, h0, h1 => by
    refine Ev.step (fun k => by rw [spec_l8Word.l0]) ?_
    refine Ev.neg (by omega) (Ev.val rfl)
  | d + 1, i, now, h, h0, h1 => by
    refine Ev.step (fun k => by rw [spec_l8Word.l0]) ?_
    refine Ev.pos (by omega) (Ev.pos (by omega) ?_)
    have e : wrap64 ((i : Int) + 1) = ((i + 1 : Nat) : Int) := by rw [w64 (by omega)]; omega
    have e1 : wrap64 (now + 1) = now + 1 := w64 (by omega)
    have e2 : wrap64 (now - 1) = now - 1 := w64 (by omega)
    simp only [e, e1, e2]
    rw [ewFrom]
    refine Ev.ite (fun hI => ?_) (fun hI => Ev.ite (fun hT => ?_) (fun hT => Ev.ite (fun hB => ?_) (fun hB => ?_)))
    · rw [if_pos hI]; exact l8Word_l s hs d (i + 1) (now + 1) (by omega) (by omega) (by omega)
    · rw [if_neg hI, if_pos (Or.inl hT)]
      refine Ev.ite (fun hc => ?_) (fun hc => Ev.val ?_)
      · rw [if_pos hc]; exact l8Word_l s hs d (i + 1) (now - 1) (by omega) (by omega) (by omega)
      · rw [if_neg hc]
    · rw [if_neg hI, if_pos (Or.inr hB)]
      refine Ev.ite (fun hc => ?_) (fun hc => Ev.val ?_)
      · rw [if_pos hc]; exact l8Word_l s hs d (i + 1) (now - 1) (by omega) (by omega) (by omega)
      · rw [if_neg hc]
    · rw [if_neg hI, if_neg (by rintro (h | h) <;> contradiction)]
      exact Ev.val rfl
def endsD (s : ByteArray) : Nat → Nat → Int → Int → Int × Bool
  | 0, _, now, most => (most, now == 0 && okSize s)
  | d + 1, i, now, most => if bt s i = 73 then endsD s d (i + 1) (now + 1) (mx most (now + 1)) else if bt s i = 84 ∨ bt s i = 66 then (if now > 0 then endsD s d (i + 1) (now - 1) (mx most (now - 1)) else (0, false)) else (0, false)
theorem endsD_ok (s : ByteArray) : ∀ (d i : Nat) (now most : Int), (endsD s d i now most).2 = (okSize s && ewFrom s d i now)
  | 0, i, now, most => by simp [endsD, ewFrom, Bool.and_comm]
  | d + 1, i, now, most => by
    rw [endsD, ewFrom]
    split
    · exact endsD_ok s d _ _ _
    · split
      · split
        · exact endsD_ok s d _ _ _
        · simp
      · simp
theorem endsD_deep (s : ByteArray) : ∀ (d i : Nat) (now most : Int), (endsD s d i now most).2 = true → (endsD s d i now most).1 = deep s d i now most
  | 0, i, now, most, h => rfl
  | d + 1, i, now, most, h => by
    rw [endsD] at h ⊢
    rw [deep]
    by_cases h1 : bt s i = 73
    · rw [if_pos h1] at h ⊢
      rw [if_pos h1]
      exact endsD_deep s d _ _ _ h
    · rw [if_neg h1] at h ⊢
      rw [if_neg h1]
      by_cases h2 : bt s i = 84 ∨ bt s i = 66
      · rw [if_pos h2] at h ⊢
        by_cases h3 : now > 0
        · rw [if_pos h3] at h ⊢
          exact endsD_deep s d _ _ _ h
        · rw [if_neg h3] at h; cases h
      · rw [if_neg h2] at h; cases h
theorem endsDepth_l (s : ByteArray) (hs : s.size ≤ 140737488351232) : ∀ (d i : Nat) (now most : Int), s.size = i + d → 0 ≤ now → now ≤ i → Ev (fun k => impl_endsDepth.l0 k s now most (s.size : Int) i) (endsD s d i now most)
  | 0, i, now, most, h, h0, h1 => by
    refine Ev.step (fun k => by rw [impl_endsDepth.l0]) ?_
    refine Ev.neg (by omega) ?_
    have e : wrap64 ((s.size : Int) / 2) = ((s.size / 2 : Nat) : Int) := by rw [w64 (by omega)]; omega
    simp only [e, isSize_is, Option.bind_some]
    refine Ev.ite (fun hc => Ev.val ?_) (fun hc => Ev.val ?_)
    · have : okSize s = decide (1 ≤ ((s.size / 2 : Nat) : Int) ∧ ((s.size / 2 : Nat) : Int) ≤ 7) := by rw [okSize, Bool.eq_iff_iff]; simp; omega
      simp [endsD, hc, this]
    · simp [endsD, hc]
  | d + 1, i, now, most, h, h0, h1 => by
    refine Ev.step (fun k => by rw [impl_endsDepth.l0]) ?_
    refine Ev.pos (by omega) (Ev.pos (by omega) (Ev.pos (by omega) ?_))
    have e : wrap64 ((i : Int) + 1) = ((i + 1 : Nat) : Int) := by rw [w64 (by omega)]; omega
    have e1 : wrap64 (now + 1) = now + 1 := w64 (by omega)
    simp only [e, e1]
    rw [endsD]
    have hj : ∀ b : Bool, (b = true ↔ bt s i = 84 ∨ bt s i = 66) → ¬ bt s i = 73 → Ev (fun k => impl_endsDepth.j1 k s now most (s.size : Int) i b) (if bt s i = 84 ∨ bt s i = 66 then (if now > 0 then endsD s d (i + 1) (now - 1) (mx most (now - 1)) else (0, false)) else (0, false)) := by
      intro b hb hI
      refine Ev.step (fun k => by rw [impl_endsDepth.j1]) ?_
      have e2 : wrap64 (now - 1) = now - 1 := w64 (by omega)
      simp only [e, e2]
      refine Ev.ite (fun hc => ?_) (fun hc => ?_)
      · rw [if_pos (hb.1 hc)]
        refine Ev.ite (fun hd => Ev.val ?_) (fun hd => ?_)
        · rw [if_neg (by omega)]
        · rw [if_pos (by omega)]
          exact endsDepth_l s hs d (i + 1) (now - 1) (mx most (now - 1)) (by omega) (by omega) (by omega)
      · rw [if_neg (fun h => hc (hb.2 h))]
        exact Ev.val rfl
    refine Ev.ite (fun hI => ?_) (fun hI => Ev.ite (fun hT => ?_) (fun hT => ?_))
    · rw [if_pos hI]
      exact Ev.neg (by omega) (endsDepth_l s hs d (i + 1) (now + 1) (mx most (now + 1)) (by omega) (by omega) (by omega))
    · rw [if_neg hI]
      exact hj _ (by simp [hT]) hI
    · rw [if_neg hI]
      exact hj _ (by simp [hT]) hI
theorem endsDepth_ev (s : ByteArray) (hs : s.size ≤ 140737488351232) : Ev (fun k => impl_endsDepth.f k s) (endsD s s.size 0 0 0) := by
  unfold impl_endsDepth.f
  exact endsDepth_l s hs s.size 0 0 0 (by omega) (by omega) (by omega)

theorem ewFrom_le (s : ByteArray) : ∀ (d i : Nat) (now : Int), ewFrom s d i now = true → now ≤ d
  | 0, i, now, h => by simp [ewFrom] at h; omega
  | d + 1, i, now, h => by
    rw [ewFrom] at h
    split at h
    · have := ewFrom_le s d (i + 1) (now + 1) h; omega
    · split at h
      · split at h
        · have := ewFrom_le s d (i + 1) (now - 1) h; omega
        · cases h
      · cases h
def runE (s : ByteArray) : Nat → Nat → List Int → List Int → List Int → List Int
  | 0, _, _, _, out => out
  | d + 1, i, order, there, out => if bt s i = 73 then runE s d (i + 1) (order.drop 1) (there ++ [nth order 0]) out else if bt s i = 84 then runE s d (i + 1) order (there.take (there.length - 1)) (out ++ [nth there (there.length - 1)]) else runE s d (i + 1) order (there.drop 1) (out ++ [nth there 0])
theorem runE_length (s : ByteArray) : ∀ (d i : Nat) (order there out : List Int), (runE s d i order there out).length ≤ out.length + d
  | 0, i, order, there, out => by simp [runE]
  | d + 1, i, order, there, out => by
    rw [runE]
    split
    · have := runE_length s d (i + 1) (order.drop 1) (there ++ [nth order 0]) out; omega
    · split
      · have := runE_length s d (i + 1) order (there.take (there.length - 1)) (out ++ [nth there (there.length - 1)]); simp only [List.length_append, List.length_singleton] at this; omega
      · have := runE_length s d (i + 1) order (there.drop 1) (out ++ [nth there 0]); simp only [List.length_append, List.length_singleton] at this; omega
theorem nth_drop0 (l : List Int) (n : Nat) : nth (l.drop n) 0 = nth l n := by simp [nth]
theorem l8Run_l (l : List Int) (s : ByteArray) (hs : s.size ≤ 1000000) (hl : l.length ≤ 1000) : ∀ (d i next : Nat) (out there : List Int), s.size = i + d → next ≤ l.length → 2 * (l.length - next) + there.length = d → out.length ≤ i → ewFrom s d i there.length = true → Ev (fun k => spec_l8Run.l0 k l s out there next i) (runE s d i (l.drop next) there out)
  | 0, i, next, out, there, h, h1, h2, h3, he => by
    refine Ev.step (fun k => by rw [spec_l8Run.l0]) ?_
    exact Ev.neg (by omega) (Ev.val rfl)
  | d + 1, i, next, out, there, h, h1, h2, h3, he => by
    refine Ev.step (fun k => by rw [spec_l8Run.l0]) ?_
    have e : wrap64 ((i : Int) + 1) = ((i + 1 : Nat) : Int) := by rw [w64 (by omega)]; omega
    have e1 : wrap64 ((next : Int) + 1) = ((next + 1 : Nat) : Int) := by rw [w64 (by omega)]; omega
    simp only [e, e1]
    rw [runE]
    rw [ewFrom] at he
    refine Ev.pos (by omega) (Ev.pos (by omega) (Ev.ite (fun hI => ?_) (fun hI => Ev.ite (fun hT => ?_) (fun hT => ?_))))
    · rw [if_pos hI] at he ⊢
      have hle := ewFrom_le s d (i + 1) _ he
      refine Ev.pos (by omega) (Ev.pos (by omega) (Ev.pos (by omega) ?_))
      rw [nth_drop0, List.drop_drop, rd_nat]
      exact l8Run_l l s hs hl d (i + 1) (next + 1) out (there ++ [nth l next]) (by omega) (by omega) (by simp; omega) (by omega) (by rw [List.length_append, List.length_singleton]; exact he)
    · rw [if_neg hI, if_pos (Or.inl hT)] at he
      rw [if_neg hI, if_pos hT]
      by_cases hp : (there.length : Int) > 0
      · rw [if_pos hp] at he
        have e2 : wrap64 ((there.length : Int) - 1) = ((there.length - 1 : Nat) : Int) := by rw [w64 (by omega)]; omega
        simp only [e2, rd_nat, Int.toNat_natCast]
        refine Ev.pos (by omega) (Ev.pos (by omega) (Ev.pos (by omega) (Ev.pos (by omega) ?_)))
        have hlen : (there.take (there.length - 1)).length = there.length - 1 := by rw [List.length_take]; omega
        exact l8Run_l l s hs hl d (i + 1) next _ _ (by omega) (by omega) (by rw [hlen]; omega) (by simp; omega) (by rw [hlen, show ((there.length - 1 : Nat) : Int) = (there.length : Int) - 1 by omega]; exact he)
      · rw [if_neg hp] at he; cases he
    · rw [if_neg hI, if_neg hT]
      rw [if_neg hI] at he
      by_cases hB : bt s i = 84 ∨ bt s i = 66
      · rw [if_pos hB] at he
        by_cases hp : (there.length : Int) > 0
        · rw [if_pos hp] at he
          have hlen : (there.drop 1).length = there.length - 1 := by rw [List.length_drop]
          refine Ev.pos (by omega) (Ev.pos (by omega) (Ev.pos (by omega) ?_))
          rw [l1Own_is _ (by omega)]
          simp only [Option.bind_some]
          exact l8Run_l l s hs hl d (i + 1) next _ _ (by omega) (by omega) (by rw [hlen]; omega) (by simp; omega) (by rw [hlen, show ((there.length - 1 : Nat) : Int) = (there.length : Int) - 1 by omega]; exact he)
        · rw [if_neg hp] at he; cases he
      · rw [if_neg hB] at he; cases he
theorem implRun_l (s : ByteArray) (hs : s.size ≤ 1000000) : ∀ (d i : Nat) (order out there : List Int), s.size = i + d → 2 * order.length + there.length = d → out.length ≤ i → ewFrom s d i there.length = true → Ev (fun k => impl_RunEnds.l0 k order s there out (s.size : Int) i) (runE s d i order there out, true)
  | 0, i, order, out, there, h, h2, h3, he => by
    refine Ev.step (fun k => by rw [impl_RunEnds.l0]) ?_
    exact Ev.neg (by omega) (Ev.val rfl)
  | d + 1, i, order, out, there, h, h2, h3, he => by
    refine Ev.step (fun k => by rw [impl_RunEnds.l0]) ?_
    have e : wrap64 ((i : Int) + 1) = ((i + 1 : Nat) : Int) := by rw [w64 (by omega)]; omega
    simp only [e]
    rw [runE]
    rw [ewFrom] at he
    refine Ev.pos (by omega) (Ev.pos (by omega) (Ev.pos (by omega) (Ev.ite (fun hI => ?_) (fun hI => Ev.ite (fun hT => ?_) (fun hT => ?_)))))
    · rw [if_pos hI] at he ⊢
      have hle := ewFrom_le s d (i + 1) _ he
      refine Ev.pos (by omega) (Ev.pos (by omega) (Ev.pos (by omega) ?_))
      exact implRun_l s hs d (i + 1) (order.drop 1) out (there ++ [nth order 0]) (by omega) (by simp; omega) (by omega) (by rw [List.length_append, List.length_singleton]; exact he)
    · rw [if_neg hI, if_pos (Or.inl hT)] at he
      rw [if_neg hI, if_pos hT]
      by_cases hp : (there.length : Int) > 0
      · rw [if_pos hp] at he
        have e2 : wrap64 ((there.length : Int) - 1) = ((there.length - 1 : Nat) : Int) := by rw [w64 (by omega)]; omega
        simp only [e2, rd_nat, Int.toNat_natCast]
        refine Ev.pos (by omega) (Ev.pos (by omega) (Ev.pos (by omega) (Ev.pos (by omega) ?_)))
        have hlen : (there.take (there.length - 1)).length = there.length - 1 := by rw [List.length_take]; omega
        exact implRun_l s hs d (i + 1) order _ _ (by omega) (by rw [hlen]; omega) (by simp; omega) (by rw [hlen, show ((there.length - 1 : Nat) : Int) = (there.length : Int) - 1 by omega]; exact he)
      · rw [if_neg hp] at he; cases he
    · rw [if_neg hI, if_neg hT]
      rw [if_neg hI] at he
      by_cases hB : bt s i = 84 ∨ bt s i = 66
      · rw [if_pos hB] at he
        by_cases hp : (there.length : Int) > 0
        · rw [if_pos hp] at he
          have hlen : (there.drop 1).length = there.length - 1 := by rw [List.length_drop]
          refine Ev.pos (by omega) (Ev.pos (by omega) (Ev.pos (by omega) ?_))
          exact implRun_l s hs d (i + 1) order _ _ (by omega) (by rw [show ((1 : Int).toNat) = 1 from rfl, hlen]; omega) (by simp; omega) (by rw [show ((1 : Int).toNat) = 1 from rfl, hlen, show ((there.length - 1 : Nat) : Int) = (there.length : Int) - 1 by omega]; exact he)
        · rw [if_neg hp] at he; cases he
      · rw [if_neg hB] at he; cases he
def okRunEnds (l : List Int) (s : ByteArray) : Bool := isOrd l && (decide (s.size = 2 * l.length) && ewFrom s s.size 0 0)
def resRunEnds (l : List Int) (s : ByteArray) : List Int := if okRunEnds l s then runE s s.size 0 l [] [] else []
theorem resRunEnds_length (l : List Int) (s : ByteArray) : (resRunEnds l s).length ≤ 1000 := by
  unfold resRunEnds
  split
  · rename_i h
    simp only [okRunEnds, Bool.and_eq_true, decide_eq_true_eq] at h
    have := isOrd_len h.1
    have := runE_length s s.size 0 l [] []
    simp at this
    omega
  · simp
theorem l8Word_ev (s : ByteArray) (hs : s.size ≤ 140737488351232) (n : Nat) (h1 : 1 ≤ n) (h7 : n ≤ 7) : Ev (fun k => spec_l8Word.f k s (n : Int)) (decide (s.size = 2 * n) && ewFrom s s.size 0 0) := by
  unfold spec_l8Word.f
  have e1 : wrap64 (2 * (n : Int)) = ((2 * n : Nat) : Int) := by rw [w64 (by omega)]; omega
  simp only [e1, l1In_is, Option.bind_some]
  refine Ev.ite (fun hc => ?_) (fun hc => ?_)
  · refine Ev.step (fun k => by rw [spec_l8Word.j0]) ?_
    have : s.size = 2 * n := by omega
    refine Ev.neg (by simp; omega) ((l8Word_l s hs s.size 0 0 (by omega) (by omega) (by omega)).to ?_)
    simp [this]
  · refine Ev.step (fun k => by rw [spec_l8Word.j0]) ?_
    have : ¬ s.size = 2 * n := by omega
    exact Ev.pos rfl (Ev.val (by simp [this]))
theorem specRunEnds_ev (l : List Int) (s : ByteArray) (hn : l.length ≤ 17592186044415) (hs : s.size ≤ 1048576) : Ev (fun k => spec_RunEnds.f k l s) (resRunEnds l s, okRunEnds l s) := by
  unfold spec_RunEnds.f
  refine Ev.bind (l2Order_ev l (by omega)) (Ev.ite (fun hc => ?_) (fun hc => Ev.val (by simp [resRunEnds, okRunEnds, hc])))
  have hl := isOrd_len hc
  refine Ev.bind (l8Word_ev s (by omega) l.length hl.1 hl.2) (Ev.ite (fun hd => ?_) (fun hd => Ev.val ?_))
  · have hd' := hd
    simp only [Bool.and_eq_true, decide_eq_true_eq] at hd'
    unfold spec_l8Run.f
    refine Ev.bind (l8Run_l l s (by omega) (by omega) s.size 0 0 [] [] (by omega) (by omega) (by simp; omega) (by simp) hd'.2) (Ev.val ?_)
    simp only [resRunEnds, okRunEnds, hc, hd, Bool.true_and, if_true, List.drop_zero]
  · rw [Bool.not_eq_true] at hd
    simp only [resRunEnds, okRunEnds, hc, hd, Bool.true_and]
    rfl
theorem implRunEnds_ev (l : List Int) (s : ByteArray) (hn : l.length ≤ 17592186044415) (hs : s.size ≤ 1048576) : Ev (fun k => impl_RunEnds.f k l s) (resRunEnds l s, okRunEnds l s) := by
  have hbad : okRunEnds l s = false → Ev (fun k => impl_RunEnds.j0 k l s true) (resRunEnds l s, okRunEnds l s) := by
    intro h
    refine Ev.step (fun k => by rw [impl_RunEnds.j0]) ?_
    exact Ev.pos rfl (Ev.val (by simp [resRunEnds, h]))
  unfold impl_RunEnds.f impl_IsEndsWord.f
  refine Ev.bind (isOrder_ev l (by omega)) (Ev.ite (fun hc => ?_) (fun hc => hbad (by simp [okRunEnds, hc])))
  have hl := isOrd_len hc
  refine Ev.bind (Ev.bind (endsDepth_ev s (by omega)) (Ev.val rfl)) ?_
  rw [endsD_ok]
  have e1 : wrap64 (2 * (l.length : Int)) = ((2 * l.length : Nat) : Int) := by rw [w64 (by omega)]; omega
  simp only [e1]
  refine Ev.ite (fun hd => ?_) (fun hd => hbad ?_)
  · refine Ev.step (fun k => by rw [impl_RunEnds.j0]) ?_
    simp only [Bool.and_eq_true] at hd
    refine Ev.ite (fun he => Ev.val ?_) (fun he => ?_)
    · have h0 : ¬ s.size = 2 * l.length := by
        intro h; rw [bne_iff_ne] at he; omega
      have : okRunEnds l s = false := by simp [okRunEnds, h0]
      simp [resRunEnds, this]
    · have h0 : s.size = 2 * l.length := by
        rw [Bool.not_eq_true, bne_eq_false_iff_eq] at he; omega
      have hok : okRunEnds l s = true := by
        simp only [okRunEnds, hc, Bool.true_and, Bool.and_eq_true, decide_eq_true_eq]
        exact ⟨h0, hd.2⟩
      refine (implRun_l s (by omega) s.size 0 l [] [] (by omega) (by simp; omega) (by simp) hd.2).to ?_
      simp [resRunEnds, hok]
  · cases hok : okRunEnds l s with
    | false => rfl
    | true =>
      simp only [okRunEnds, hc, Bool.true_and, Bool.and_eq_true, decide_eq_true_eq] at hok
      refine absurd ?_ hd
      simp only [Bool.and_eq_true, okSize, decide_eq_true_eq]
      exact ⟨by omega, hok.2⟩

theorem FnExactRunEnds : laws_FnExactRunEnds.Pure := by
  intro l s hm hr hw hs
  refine Ev.rounds (?_ : Ev (fun k => laws_FnExactRunEnds.f k l s) true)
  unfold laws_FnExactRunEnds.f
  refine Ev.ite (fun _ => Ev.val rfl) (fun hc => ?_)
  refine Ev.ite (fun _ => Ev.val rfl) (fun hd => ?_)
  have hR := resRunEnds_length l s
  have hm1 : (marked 1 l.length).length ≤ 17592186044415 := by rw [marked_length]; omega
  refine Ev.bind (toIntS_ev l (by omega)) ?_
  refine Ev.bind (specRunEnds_ev l s (by omega) (by omega)) ?_
  refine Ev.bind (toIntS_ev l (by omega)) ?_
  refine Ev.bind (implRunEnds_ev l s (by omega) (by omega)) ?_
  refine Ev.bind (eqIntS_ev _ _ (by simp only []; omega)) ?_
  refine Ev.pos (by simp) ?_
  refine Ev.step (fun k => by rw [laws_FnExactRunEnds.j0]) ?_
  refine Ev.neg (by simp) ?_
  refine Ev.bind (toIntS_ev l (by omega)) ?_
  refine Ev.bind (eqIntS_ev l l (by omega)) (Ev.pos (by simp) ?_)
  refine Ev.bind (markIntS_ev l 1 (by omega) (by omega) (by omega)) (Ev.neg (by simp only []; omega) ?_)
  refine Ev.bind (eqIntS_ev _ _ (by simp only []; omega)) (Ev.pos (by simp) ?_)
  refine Ev.step (fun k => by rw [laws_FnExactRunEnds.j1]) ?_
  refine Ev.neg (by simp) ?_
  refine Ev.bind (markIntS_ev _ 1 (by simp only []; omega) (by omega) (by omega)) ?_
  refine Ev.bind (heldIntS_ev _ 1 (by simp only []; omega) (by omega) (by omega)) (Ev.neg (by simp only []; omega) (Ev.pos (by simp only []) ?_))
  refine Ev.bind (toIntS_ev l (by omega)) ?_
  refine Ev.bind (implRunEnds_ev l s (by omega) (by omega)) ?_
  refine Ev.bind (eqIntS_ev _ _ (by simp only []; omega)) (Ev.pos (by simp) ?_)
  refine Ev.step (fun k => by rw [laws_FnExactRunEnds.j2]) ?_
  refine Ev.neg (by simp) ?_
  exact Ev.bind (heldIntS_ev _ 1 (by simp only []; omega) (by omega) (by omega)) (Ev.neg (by simp only []; omega) (Ev.pos (by simp only []) (Ev.val rfl)))

end Go.Proofs.Ytgdjnaojcpoigaa.Pure
