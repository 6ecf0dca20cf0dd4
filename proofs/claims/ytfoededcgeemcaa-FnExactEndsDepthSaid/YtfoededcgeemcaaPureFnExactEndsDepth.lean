/- The program's EndsDepth returns what the reference's returns, for every string. -/
import Derived.Test.YtfoededcgeemcaaPFnExactEndsDepthx2
import Derived.Test.YtfoededcgeemcaaK
set_option linter.unusedVariables false
set_option linter.unusedSimpArgs false
namespace Go.Proofs.Ytfoededcgeemcaa.Pure
open Go.RowKit Go.Proofs.Ytfoededcgeemcaa.PFnExactEndsDepth Go.Proofs.YtfoededcgeemcaaW.PrintWords Go.Proofs.YtfoededcgeemcaaW.PrintLast Go.Proofs.YtfoededcgeemcaaW.PrintMore

theorem l1In_is (a b c : Int) : spec_l1In.f a b c = some (decide (b ≤ a ∧ a ≤ c)) := by
  unfold spec_l1In.f
  by_cases h : a ≥ b
  · rw [if_pos h]; simp [h]
  · rw [if_neg h]; simp; omega

theorem isSize_is (a : Int) : impl_isSize.f a = some (decide (1 ≤ a ∧ a ≤ 7)) := by
  unfold impl_isSize.f
  by_cases h : a ≥ 1
  · rw [if_pos h]; simp [h]
  · rw [if_neg h]; simp; omega

/-! ends words, byte by byte -/
def ewFrom (s : ByteArray) : Nat → Nat → Int → Bool
  | 0, _, now => now == 0
  | d + 1, i, now => if bt s i = 73 then ewFrom s d (i + 1) (now + 1) else if bt s i = 84 ∨ bt s i = 66 then (if now > 0 then ewFrom s d (i + 1) (now - 1) else false) else false
def deep (s : ByteArray) : Nat → Nat → Int → Int → Int
  | 0, _, _, most => most
  | d + 1, i, now, most => if bt s i = 73 then deep s d (i + 1) (now + 1) (mx most (now + 1)) else deep s d (i + 1) (now - 1) (mx most (now - 1))
def okSize (s : ByteArray) : Bool := decide (1 ≤ s.size / 2 ∧ s.size / 2 ≤ 7)
def isEnds (s : ByteArray) : Bool := okSize s && ewFrom s s.size 0 0
theorem ewFrom_par (s : ByteArray) : ∀ (d i : Nat) (now : Int), ewFrom s d i now = true → (now + d) % 2 = 0
  | 0, i, now, h => by simp [ewFrom] at h; omega
  | d + 1, i, now, h => by
    rw [ewFrom] at h
    split at h
    · have := ewFrom_par s d (i + 1) (now + 1) h; omega
    · split at h
      · split at h
        · have := ewFrom_par s d (i + 1) (now - 1) h; omega
        · cases h
      · cases h
theorem l8Word_l (s : ByteArray) (hs : s.size ≤ 140737488351232) : ∀ (d i : Nat) (now : Int), s.size = i + d → 0 ≤ now → now ≤ i → Ev (fun k => spec_l8Word.l0 k s now i) (ewFrom s d i now)
  | 0, i, now, h, h0, h1 => by
    refine Ev.step (fun k => by rw [spec_l8Word.l0]) ?_
    refine Ev.neg (by omega) (Ev.val rfl)
  | d + 1, i, now, h, h0, h1 => by
    refine Ev.step (fun k => by rw [spec_l8Word.l0]) ?_
    refine Ev.pos (by omega) (Ev.pos (by omega) ?_)
    have e : wrap64 ((i : Int) + 1) = ((i + 1 : Nat) : Int) := by rw [w64 (by omega)]; omega
    have e1 : wrap64 (now + 1) = now + 1 := w64 (by omega)
    have e2 : wrap64 (now - 1) = now - 1 := w64 (by omega)
    simp only [e, e1, e2]
    rw [ewFrom]
    refine Ev.ite (fun hI => ?_) (fun hI => Ev.ite (fun hT => ?_) (fun hT => Ev.ite (fun hB => ?_) (fun hB => ?_)))
    · rw [if_pos hI]; exact l8Word_l s hs d (i + 1) (now + 1) (by omega) (by omega) (by omega)
    · rw [if_neg hI, if_pos (Or.inl hT)]
      refine Ev.ite (fun hc => ?_) (fun hc => Ev.val ?_)
      · rw [if_pos hc]; exact l8Word_l s hs d (i + 1) (now - 1) (by omega) (by omega) (by omega)
      · rw [if_neg hc]
    · rw [if_neg hI, if_pos (Or.inr hB)]
      refine Ev.ite (fun hc => ?_) (fun hc => Ev.val ?_)
      · rw [if_pos hc]; exact l8Word_l s hs d (i + 1) (now - 1) (by omega) (by omega) (by omega)
      · rw [if_neg hc]
    · rw [if_neg hI, if_neg (by rintro (h | h) <;> contradiction)]
      exact Ev.val rfl
theorem l8Any_ev (s : ByteArray) (hs : s.size ≤ 140737488351232) : Ev (fun k => spec_l8Any.f k s) (isEnds s) := by
  unfold spec_l8Any.f
  refine Ev.bind (a := isEnds s) ?_ (Ev.val rfl)
  unfold spec_l8Word.f
  have e : wrap64 ((s.size : Int) / 2) = ((s.size / 2 : Nat) : Int) := by rw [w64 (by omega)]; omega
  have e1 : wrap64 (2 * ((s.size / 2 : Nat) : Int)) = ((2 * (s.size / 2) : Nat) : Int) := by rw [w64 (by omega)]; omega
  simp only [e, e1, l1In_is, Option.bind_some]
  refine Ev.ite (fun hc => ?_) (fun hc => ?_)
  · refine Ev.step (fun k => by rw [spec_l8Word.j0]) ?_
    refine Ev.ite (fun hd => Ev.val ?_) (fun hd => (l8Word_l s hs s.size 0 0 (by omega) (by omega) (by omega)).to ?_)
    · have : okSize s = false := by simp at hd; simp [okSize]; omega
      simp [isEnds, this]
    · have : okSize s = true := by simp at hd; simp [okSize]; omega
      simp [isEnds, this]
  · refine Ev.step (fun k => by rw [spec_l8Word.j0]) ?_
    refine Ev.pos rfl (Ev.val ?_)
    cases h : isEnds s with
    | false => rfl
    | true =>
      simp only [isEnds, Bool.and_eq_true] at h
      have := ewFrom_par s s.size 0 0 h.2
      omega
def endsD (s : ByteArray) : Nat → Nat → Int → Int → Int × Bool
  | 0, _, now, most => (most, now == 0 && okSize s)
  | d + 1, i, now, most => if bt s i = 73 then endsD s d (i + 1) (now + 1) (mx most (now + 1)) else if bt s i = 84 ∨ bt s i = 66 then (if now > 0 then endsD s d (i + 1) (now - 1) (mx most (now - 1)) else (0, false)) else (0, false)
theorem endsD_ok (s : ByteArray) : ∀ (d i : Nat) (now most : Int), (endsD s d i now most).2 = (okSize s && ewFrom s d i now)
  | 0, i, now, most => by simp [endsD, ewFrom, Bool.and_comm]
  | d + 1, i, now, most => by
    rw [endsD, ewFrom]
    split
    · exact endsD_ok s d _ _ _
    · split
      · split
        · exact endsD_ok s d _ _ _
        · simp
      · simp
theorem endsD_deep (s : ByteArray) : ∀ (d i : Nat) (now most : Int), (endsD s d i now most).2 = true → (endsD s d i now most).1 = deep s d i now most
  | 0, i, now, most, h => rfl
  | d + 1, i, now, most, h => by
    rw [endsD] at h ⊢
    rw [deep]
    by_cases h1 : bt s i = 73
    · rw [if_pos h1] at h ⊢
      rw [if_pos h1]
      exact endsD_deep s d _ _ _ h
    · rw [if_neg h1] at h ⊢
      rw [if_neg h1]
      by_cases h2 : bt s i = 84 ∨ bt s i = 66
      · rw [if_pos h2] at h ⊢
        by_cases h3 : now > 0
        · rw [if_pos h3] at h ⊢
          exact endsD_deep s d _ _ _ h
        · rw [if_neg h3] at h; cases h
      · rw [if_neg h2] at h; cases h
theorem endsDepth_l (s : ByteArray) (hs : s.size ≤ 140737488351232) : ∀ (d i : Nat) (now most : Int), s.size = i + d → 0 ≤ now → now ≤ i → Ev (fun k => impl_endsDepth.l0 k s now most (s.size : Int) i) (endsD s d i now most)
  | 0, i, now, most, h, h0, h1 => by
    refine Ev.step (fun k => by rw [impl_endsDepth.l0]) ?_
    refine Ev.neg (by omega) ?_
    have e : wrap64 ((s.size : Int) / 2) = ((s.size / 2 : Nat) : Int) := by rw [w64 (by omega)]; omega
    simp only [e, isSize_is, Option.bind_some]
    refine Ev.ite (fun hc => Ev.val ?_) (fun hc => Ev.val ?_)
    · have : okSize s = decide (1 ≤ ((s.size / 2 : Nat) : Int) ∧ ((s.size / 2 : Nat) : Int) ≤ 7) := by rw [okSize, Bool.eq_iff_iff]; simp; omega
      simp [endsD, hc, this]
    · simp [endsD, hc]
  | d + 1, i, now, most, h, h0, h1 => by
    refine Ev.step (fun k => by rw [impl_endsDepth.l0]) ?_
    refine Ev.pos (by omega) (Ev.pos (by omega) (Ev.pos (by omega) ?_))
    have e : wrap64 ((i : Int) + 1) = ((i + 1 : Nat) : Int) := by rw [w64 (by omega)]; omega
    have e1 : wrap64 (now + 1) = now + 1 := w64 (by omega)
    simp only [e, e1]
    rw [endsD]
    have hj : ∀ b : Bool, (b = true ↔ bt s i = 84 ∨ bt s i = 66) → ¬ bt s i = 73 → Ev (fun k => impl_endsDepth.j1 k s now most (s.size : Int) i b) (if bt s i = 84 ∨ bt s i = 66 then (if now > 0 then endsD s d (i + 1) (now - 1) (mx most (now - 1)) else (0, false)) else (0, false)) := by
      intro b hb hI
      refine Ev.step (fun k => by rw [impl_endsDepth.j1]) ?_
      have e2 : wrap64 (now - 1) = now - 1 := w64 (by omega)
      simp only [e, e2]
      refine Ev.ite (fun hc => ?_) (fun hc => ?_)
      · rw [if_pos (hb.1 hc)]
        refine Ev.ite (fun hd => Ev.val ?_) (fun hd => ?_)
        · rw [if_neg (by omega)]
        · rw [if_pos (by omega)]
          exact endsDepth_l s hs d (i + 1) (now - 1) (mx most (now - 1)) (by omega) (by omega) (by omega)
      · rw [if_neg (fun h => hc (hb.2 h))]
        exact Ev.val rfl
    refine Ev.ite (fun hI => ?_) (fun hI => Ev.ite (fun hT => ?_) (fun hT => ?_))
    · rw [if_pos hI]
      exact Ev.neg (by omega) (endsDepth_l s hs d (i + 1) (now + 1) (mx most (now + 1)) (by omega) (by omega) (by omega))
    · rw [if_neg hI]
      exact hj _ (by simp [hT]) hI
    · rw [if_neg hI]
      exact hj _ (by simp [hT]) hI
theorem endsDepth_ev (s : ByteArray) (hs : s.size ≤ 140737488351232) : Ev (fun k => impl_endsDepth.f k s) (endsD s s.size 0 0 0) := by
  unfold impl_endsDepth.f
  exact endsDepth_l s hs s.size 0 0 0 (by omega) (by omega) (by omega)

theorem l1Most_is (a b : Int) : spec_l1Most.f a b = some (mx a b) := by
  unfold spec_l1Most.f mx
  split <;> (congr 1; first | omega | (split <;> omega))
def stk (s : ByteArray) : Nat → Nat → ByteArray → ByteArray
  | 0, _, acc => acc
  | d + 1, i, acc => stk s d (i + 1) (acc ++ (if bt s i = 73 then ⟨#[73]⟩ else ⟨#[79]⟩))
theorem bt_lt (s : ByteArray) (i : Nat) (h : i < s.size) : bt s i = (s[i].toNat : Int) := by simp [bt, h]
theorem bt_snoc_lt (s : ByteArray) (c : UInt8) (i : Nat) (h : i < s.size) : bt (s ++ ⟨#[c]⟩) i = bt s i := by
  rw [bt_lt s i h, bt_lt _ i (by rw [ByteArray.size_append]; omega), ByteArray.getElem_append_left h]
theorem bt_snoc_eq (s : ByteArray) (c : UInt8) : bt (s ++ ⟨#[c]⟩) s.size = (c.toNat : Int) := by
  rw [bt_lt _ _ (by rw [ByteArray.size_append]; show s.size < s.size + 1; omega), ByteArray.getElem_append_right (Nat.le_refl _)]
  simp
  rfl
theorem stk_tells (s : ByteArray) : ∀ (d i : Nat) (acc : ByteArray), acc.size = i → (∀ j, j < i → (bt acc (j : Nat) = 73 ↔ bt s (j : Nat) = 73)) → (stk s d i acc).size = i + d ∧ ∀ j, j < i + d → (bt (stk s d i acc) (j : Nat) = 73 ↔ bt s (j : Nat) = 73)
  | 0, i, acc, h, q => ⟨h, q⟩
  | d + 1, i, acc, h, q => by
    have h1 : (acc ++ (if bt s i = 73 then ⟨#[73]⟩ else ⟨#[79]⟩ : ByteArray)).size = i + 1 := by
      rw [ByteArray.size_append, h]
      split <;> rfl
    obtain ⟨a, b⟩ := stk_tells s d (i + 1) _ h1 (by
      intro j hj
      by_cases e : j = i
      · subst e
        split
        · rename_i hc
          rw [← h, bt_snoc_eq, h, hc]
          simp
        · rename_i hc
          rw [← h, bt_snoc_eq, h]
          simp [hc]
      · split
        · rw [bt_snoc_lt _ _ _ (by omega)]; exact q j (by omega)
        · rw [bt_snoc_lt _ _ _ (by omega)]; exact q j (by omega))
    rw [stk]
    exact ⟨by omega, fun j hj => b j (by omega)⟩
theorem l8Stack_l (s : ByteArray) (hs : s.size ≤ 140737488351232) : ∀ (d i : Nat) (acc : ByteArray), s.size = i + d → acc.size = i → Ev (fun k => spec_l8Stack.l0 k s acc i) (stk s d i acc)
  | 0, i, acc, h, h1 => by
    refine Ev.step (fun k => by rw [spec_l8Stack.l0]) ?_
    refine Ev.neg (by omega) (Ev.val rfl)
  | d + 1, i, acc, h, h1 => by
    refine Ev.step (fun k => by rw [spec_l8Stack.l0]) ?_
    refine Ev.pos (by omega) (Ev.pos (by omega) ?_)
    have e : wrap64 ((i : Int) + 1) = ((i + 1 : Nat) : Int) := by rw [w64 (by omega)]; omega
    simp only [e]
    rw [stk]
    refine Ev.ite (fun hc => Ev.pos (by omega) ?_) (fun hc => Ev.pos (by omega) ?_)
    · rw [if_pos hc]
      exact l8Stack_l s hs d (i + 1) _ (by omega) (by rw [ByteArray.size_append, h1]; rfl)
    · rw [if_neg hc]
      exact l8Stack_l s hs d (i + 1) _ (by omega) (by rw [ByteArray.size_append, h1]; rfl)
theorem l2Depth_l (s : ByteArray) (hs : s.size ≤ 140737488351232) : ∀ (d i : Nat) (now most : Int), s.size = i + d → -(i : Int) ≤ now → now ≤ i → Ev (fun k => spec_l2Depth.l0 k s now most i) (deep s d i now most)
  | 0, i, now, most, h, h0, h1 => by
    refine Ev.step (fun k => by rw [spec_l2Depth.l0]) ?_
    refine Ev.neg (by omega) (Ev.val rfl)
  | d + 1, i, now, most, h, h0, h1 => by
    refine Ev.step (fun k => by rw [spec_l2Depth.l0]) ?_
    refine Ev.pos (by omega) (Ev.pos (by omega) ?_)
    have e : wrap64 ((i : Int) + 1) = ((i + 1 : Nat) : Int) := by rw [w64 (by omega)]; omega
    have e1 : wrap64 (now + 1) = now + 1 := w64 (by omega)
    have e2 : wrap64 (now - 1) = now - 1 := w64 (by omega)
    simp only [e, e1, e2, l1Most_is, Option.bind_some]
    rw [deep]
    refine Ev.ite (fun hc => ?_) (fun hc => ?_)
    · rw [if_pos hc]; exact l2Depth_l s hs d (i + 1) _ _ (by omega) (by omega) (by omega)
    · rw [if_neg hc]; exact l2Depth_l s hs d (i + 1) _ _ (by omega) (by omega) (by omega)
theorem deep_congr (s t : ByteArray) : ∀ (d i : Nat) (now most : Int), (∀ j, j < i + d → (bt s (j : Nat) = 73 ↔ bt t (j : Nat) = 73)) → deep s d i now most = deep t d i now most
  | 0, i, now, most, h => rfl
  | d + 1, i, now, most, h => by
    rw [deep, deep]
    have := h i (by omega)
    by_cases hc : bt s i = 73
    · rw [if_pos hc, if_pos (this.1 hc)]; exact deep_congr s t d _ _ _ fun j hj => h j (by omega)
    · rw [if_neg hc, if_neg fun h => hc (this.2 h)]; exact deep_congr s t d _ _ _ fun j hj => h j (by omega)
theorem specEndsDepth_ev (s : ByteArray) (hs : s.size ≤ 140737488351232) : Ev (fun k => spec_EndsDepth.f k s) (if isEnds s then deep s s.size 0 0 0 else 0, isEnds s) := by
  unfold spec_EndsDepth.f
  refine Ev.bind (l8Any_ev s hs) (Ev.ite (fun hc => ?_) (fun hc => Ev.val ?_))
  · unfold spec_l8Stack.f spec_l2Depth.f
    refine Ev.bind (l8Stack_l s hs s.size 0 _ (by omega) rfl) ?_
    obtain ⟨h1, h2⟩ := stk_tells s s.size 0 ⟨#[]⟩ rfl (fun j hj => by omega)
    refine Ev.bind (l2Depth_l _ (by omega) (stk s s.size 0 ⟨#[]⟩).size 0 0 0 (by omega) (by omega) (by omega)) (Ev.val ?_)
    rw [hc, if_pos rfl, h1, Nat.zero_add, deep_congr _ s _ _ _ _ (fun j hj => h2 j (by omega))]
  · rw [Bool.not_eq_true] at hc
    rw [hc]; rfl
theorem implEndsDepth_ev (s : ByteArray) (hs : s.size ≤ 140737488351232) : Ev (fun k => impl_EndsDepth.f k s) (if isEnds s then deep s s.size 0 0 0 else 0, isEnds s) := by
  unfold impl_EndsDepth.f
  have h : (endsD s s.size 0 0 0).2 = isEnds s := endsD_ok s _ _ _ _
  refine Ev.bind (endsDepth_ev s hs) (Ev.ite (fun hc => Ev.val ?_) (fun hc => Ev.val ?_))
  · rw [endsD_deep s _ _ _ _ hc]
    rw [h] at hc
    simp [hc]
  · rw [Bool.not_eq_true, h] at hc
    simp [hc]

theorem FnExactEndsDepth : laws_FnExactEndsDepth.Pure := by
  intro s hs
  refine Ev.rounds (?_ : Ev (fun k => laws_FnExactEndsDepth.f k s) true)
  unfold laws_FnExactEndsDepth.f
  refine Ev.ite (fun _ => Ev.val rfl) (fun hc => ?_)
  refine Ev.bind (specEndsDepth_ev s hs) ?_
  refine Ev.bind (implEndsDepth_ev s hs) ?_
  exact Ev.pos rfl (Ev.neg (by simp) (Ev.val rfl))

end Go.Proofs.Ytfoededcgeemcaa.Pure
