/- The program's PlainEnds returns what the reference's returns, for every string. -/
import Derived.Test.YtfoededcgeemcaaPFnExactPlainEndsx2
import Derived.Test.YtfoededcgeemcaaK
set_option linter.unusedVariables false
set_option linter.unusedSimpArgs false
namespace Go.Proofs.Ytfoededcgeemcaa.Pure
open Go.RowKit Go.Proofs.Ytfoededcgeemcaa.PFnExactPlainEnds Go.Proofs.YtfoededcgeemcaaW.PrintWords Go.Proofs.YtfoededcgeemcaaW.PrintLast Go.Proofs.YtfoededcgeemcaaW.PrintMore

theorem l1In_is (a b c : Int) : spec_l1In.f a b c = some (decide (b ≤ a ∧ a ≤ c)) := by
  unfold spec_l1In.f
  by_cases h : a ≥ b
  · rw [if_pos h]; simp [h]
  · rw [if_neg h]; simp; omega

theorem isSize_is (a : Int) : impl_isSize.f a = some (decide (1 ≤ a ∧ a ≤ 7)) := by
  unfold impl_isSize.f
  by_cases h : a ≥ 1
  · rw [if_pos h]; simp [h]
  · rw [if_neg h]; simp; omega

/-! ends words, byte by byte -/
def ewFrom (s : ByteArray) : Nat → Nat → Int → Bool
  | 0, _, now => now == 0
  | d + 1, i, now => if bt s i = 73 then ewFrom s d (i + 1) (now + 1) else if bt s i = 84 ∨ bt s i = 66 then (if now > 0 then ewFrom s d (i + 1) (now - 1) else false) else false
def deep (s : ByteArray) : Nat → Nat → Int → Int → Int
  | 0, _, _, most => most
  | d + 1, i, now, most => if bt s i = 73 then deep s d (i + 1) (now + 1) (mx most (now + 1)) else deep s d (i + 1) (now - 1) (mx most (now - 1))
def okSize (s : ByteArray) : Bool := decide (1 ≤ s.size / 2 ∧ s.size / 2 ≤ 7)
def isEnds (s : ByteArray) : Bool := okSize s && ewFrom s s.size 0 0
theorem ewFrom_par (s : ByteArray) : ∀ (d i : Nat) (now : Int), ewFrom s d i now = true → (now + d) % 2 = 0
  | 0, i, now, h => by simp [ewFrom] at h; omega
  | d + 1, i, now, h => by
    rw [ewFrom] at h
    split at h
    · have := ewFrom_par s d (i + 1) (now + 1) h; omega
    · split at h
      · split at h
        · have := ewFrom_par s d (i + 1) (now - 1) h; omega
        · cases h
      · cases h
theorem l8Word_l (s : ByteArray) (hs : s.size ≤ 140737488351232) : ∀ (d i : Nat) (now : Int), s.size = i + d → 0 ≤ now → now ≤ i → Ev (fun k => spec_l8Word.l0 k s now i) (ewFrom s d i now)
  | 0, i, now, h, h0, h1 => by
    refine Ev.step (fun k => by rw [spec_l8Word.l0]) ?_
    refine Ev.neg (by omega) (Ev.val rfl)
  | d + 1, i, now, h, h0, h1 => by
    refine Ev.step (fun k => by rw [spec_l8Word.l0]) ?_
    refine Ev.pos (by omega) (Ev.pos (by omega) ?_)
    have e : wrap64 ((i : Int) + 1) = ((i + 1 : Nat) : Int) := by rw [w64 (by omega)]; omega
    have e1 : wrap64 (now + 1) = now + 1 := w64 (by omega)
    have e2 : wrap64 (now - 1) = now - 1 := w64 (by omega)
    simp only [e, e1, e2]
    rw [ewFrom]
    refine Ev.ite (fun hI => ?_) (fun hI => Ev.ite (fun hT => ?_) (fun hT => Ev.ite (fun hB => ?_) (fun hB => ?_)))
    · rw [if_pos hI]; exact l8Word_l s hs d (i + 1) (now + 1) (by omega) (by omega) (by omega)
    · rw [if_neg hI, if_pos (Or.inl hT)]
      refine Ev.ite (fun hc => ?_) (fun hc => Ev.val ?_)
      · rw [if_pos hc]; exact l8Word_l s hs d (i + 1) (now - 1) (by omega) (by omega) (by omega)
      · rw [if_neg hc]
    · rw [if_neg hI, if_pos (Or.inr hB)]
      refine Ev.ite (fun hc => ?_) (fun hc => Ev.val ?_)
      · rw [if_pos hc]; exact l8Word_l s hs d (i + 1) (now - 1) (by omega) (by omega) (by omega)
      · rw [if_neg hc]
    · rw [if_neg hI, if_neg (by rintro (h | h) <;> contradiction)]
      exact Ev.val rfl
def endsD (s : ByteArray) : Nat → Nat → Int → Int → Int × Bool
  | 0, _, now, most => (most, now == 0 && okSize s)
  | d + 1, i, now, most => if bt s i = 73 then endsD s d (i + 1) (now + 1) (mx most (now + 1)) else if bt s i = 84 ∨ bt s i = 66 then (if now > 0 then endsD s d (i + 1) (now - 1) (mx most (now - 1)) else (0, false)) else (0, false)
theorem endsD_ok (s : ByteArray) : ∀ (d i : Nat) (now most : Int), (endsD s d i now most).2 = (okSize s && ewFrom s d i now)
  | 0, i, now, most => by simp [endsD, ewFrom, Bool.and_comm]
  | d + 1, i, now, most => by
    rw [endsD, ewFrom]
    split
    · exact endsD_ok s d _ _ _
    · split
      · split
        · exact endsD_ok s d _ _ _
        · simp
      · simp
theorem endsD_deep (s : ByteArray) : ∀ (d i : Nat) (now most : Int), (endsD s d i now most).2 = true → (endsD s d i now most).1 = deep s d i now most
  | 0, i, now, most, h => rfl
  | d + 1, i, now, most, h => by
    rw [endsD] at h ⊢
    rw [deep]
    by_cases h1 : bt s i = 73
    · rw [if_pos h1] at h ⊢
      rw [if_pos h1]
      exact endsD_deep s d _ _ _ h
    · rw [if_neg h1] at h ⊢
      rw [if_neg h1]
      by_cases h2 : bt s i = 84 ∨ bt s i = 66
      · rw [if_pos h2] at h ⊢
        by_cases h3 : now > 0
        · rw [if_pos h3] at h ⊢
          exact endsD_deep s d _ _ _ h
        · rw [if_neg h3] at h; cases h
      · rw [if_neg h2] at h; cases h
theorem endsDepth_l (s : ByteArray) (hs : s.size ≤ 140737488351232) : ∀ (d i : Nat) (now most : Int), s.size = i + d → 0 ≤ now → now ≤ i → Ev (fun k => impl_endsDepth.l0 k s now most (s.size : Int) i) (endsD s d i now most)
  | 0, i, now, most, h, h0, h1 => by
    refine Ev.step (fun k => by rw [impl_endsDepth.l0]) ?_
    refine Ev.neg (by omega) ?_
    have e : wrap64 ((s.size : Int) / 2) = ((s.size / 2 : Nat) : Int) := by rw [w64 (by omega)]; omega
    simp only [e, isSize_is, Option.bind_some]
    refine Ev.ite (fun hc => Ev.val ?_) (fun hc => Ev.val ?_)
    · have : okSize s = decide (1 ≤ ((s.size / 2 : Nat) : Int) ∧ ((s.size / 2 : Nat) : Int) ≤ 7) := by rw [okSize, Bool.eq_iff_iff]; simp; omega
      simp [endsD, hc, this]
    · simp [endsD, hc]
  | d + 1, i, now, most, h, h0, h1 => by
    refine Ev.step (fun k => by rw [impl_endsDepth.l0]) ?_
    refine Ev.pos (by omega) (Ev.pos (by omega) (Ev.pos (by omega) ?_))
    have e : wrap64 ((i : Int) + 1) = ((i + 1 : Nat) : Int) := by rw [w64 (by omega)]; omega
    have e1 : wrap64 (now + 1) = now + 1 := w64 (by omega)
    simp only [e, e1]
    rw [endsD]
    have hj : ∀ b : Bool, (b = true ↔ bt s i = 84 ∨ bt s i = 66) → ¬ bt s i = 73 → Ev (fun k => impl_endsDepth.j1 k s now most (s.size : Int) i b) (if bt s i = 84 ∨ bt s i = 66 then (if now > 0 then endsD s d (i + 1) (now - 1) (mx most (now - 1)) else (0, false)) else (0, false)) := by
      intro b hb hI
      refine Ev.step (fun k => by rw [impl_endsDepth.j1]) ?_
      have e2 : wrap64 (now - 1) = now - 1 := w64 (by omega)
      simp only [e, e2]
      refine Ev.ite (fun hc => ?_) (fun hc => ?_)
      · rw [if_pos (hb.1 hc)]
        refine Ev.ite (fun hd => Ev.val ?_) (fun hd => ?_)
        · rw [if_neg (by omega)]
        · rw [if_pos (by omega)]
          exact endsDepth_l s hs d (i + 1) (now - 1) (mx most (now - 1)) (by omega) (by omega) (by omega)
      · rw [if_neg (fun h => hc (hb.2 h))]
        exact Ev.val rfl
    refine Ev.ite (fun hI => ?_) (fun hI => Ev.ite (fun hT => ?_) (fun hT => ?_))
    · rw [if_pos hI]
      exact Ev.neg (by omega) (endsDepth_l s hs d (i + 1) (now + 1) (mx most (now + 1)) (by omega) (by omega) (by omega))
    · rw [if_neg hI]
      exact hj _ (by simp [hT]) hI
    · rw [if_neg hI]
      exact hj _ (by simp [hT]) hI
theorem endsDepth_ev (s : ByteArray) (hs : s.size ≤ 140737488351232) : Ev (fun k => impl_endsDepth.f k s) (endsD s s.size 0 0 0) := by
  unfold impl_endsDepth.f
  exact endsDepth_l s hs s.size 0 0 0 (by omega) (by omega) (by omega)

theorem l8Any_ev (s : ByteArray) (hs : s.size ≤ 140737488351232) : Ev (fun k => spec_l8Any.f k s) (isEnds s) := by
  unfold spec_l8Any.f
  refine Ev.bind (a := isEnds s) ?_ (Ev.val rfl)
  unfold spec_l8Word.f
  have e : wrap64 ((s.size : Int) / 2) = ((s.size / 2 : Nat) : Int) := by rw [w64 (by omega)]; omega
  have e1 : wrap64 (2 * ((s.size / 2 : Nat) : Int)) = ((2 * (s.size / 2) : Nat) : Int) := by rw [w64 (by omega)]; omega
  simp only [e, e1, l1In_is, Option.bind_some]
  refine Ev.ite (fun hc => ?_) (fun hc => ?_)
  · refine Ev.step (fun k => by rw [spec_l8Word.j0]) ?_
    refine Ev.ite (fun hd => Ev.val ?_) (fun hd => (l8Word_l s hs s.size 0 0 (by omega) (by omega) (by omega)).to ?_)
    · have : okSize s = false := by simp at hd; simp [okSize]; omega
      simp [isEnds, this]
    · have : okSize s = true := by simp at hd; simp [okSize]; omega
      simp [isEnds, this]
  · refine Ev.step (fun k => by rw [spec_l8Word.j0]) ?_
    refine Ev.pos rfl (Ev.val ?_)
    cases h : isEnds s with
    | false => rfl
    | true =>
      simp only [isEnds, Bool.and_eq_true] at h
      have := ewFrom_par s s.size 0 0 h.2
      omega

theorem implIsEndsWord_ev (s : ByteArray) (hs : s.size ≤ 140737488351232) : Ev (fun k => impl_IsEndsWord.f k s) (isEnds s) := by
  unfold impl_IsEndsWord.f
  refine Ev.bind (endsDepth_ev s hs) (Ev.val ?_)
  rw [endsD_ok]; simp [isEnds]

/-! plain ends words -/
def plainM (s : ByteArray) : Nat → Nat → Int → List Int
  | 0, _, _ => []
  | d + 1, i, now => if bt s i = 73 then 73 :: plainM s d (i + 1) (now + 1) else (if now = 1 then 84 else bt s i) :: plainM s d (i + 1) (now - 1)
theorem plainM_length (s : ByteArray) : ∀ d i now, (plainM s d i now).length = d
  | 0, _, _ => rfl
  | d + 1, i, now => by
    rw [plainM]
    split
    · rw [List.length_cons, plainM_length s d]
    · rw [List.length_cons, plainM_length s d]
theorem rd_set_ne (l : List Int) (i j : Nat) (v : Int) (h : i ≠ j) : rd (l.set i v) (j : Int) = rd l (j : Int) := by
  simp [rd, List.getD_eq_getElem?_getD, List.getElem?_set_ne h]
theorem plainGo_is (s : ByteArray) (hs : s.size ≤ 1000000) : ∀ (d i : Nat) (l : List Int) (now : Int), i + d = s.size → l.length = s.size → (-(i : Int) ≤ now ∧ now ≤ i) → (∀ j : Nat, i ≤ j → rd l (j : Int) = bt s j) → plainGo d i l now = l.take i ++ plainM s d i now
  | 0, i, l, now, hi, hl, hn, hj => by
    rw [plainGo, plainM, List.append_nil, List.take_of_length_le (by omega)]
  | d + 1, i, l, now, hi, hl, hn, hj => by
    rw [plainGo, plainM, hj i (Nat.le_refl _)]
    have e1 : wrap64 (now + 1) = now + 1 := w64 (by omega)
    have e2 : wrap64 (now - 1) = now - 1 := w64 (by omega)
    have hil : i < l.length := by omega
    have hx : nth l i = bt s i := by rw [← rd_nat]; exact hj i (Nat.le_refl _)
    rw [e1, e2]
    split
    · rename_i h73
      rw [plainGo_is s hs d (i + 1) l (now + 1) (by omega) hl (by omega) (fun j h => hj j (by omega)), take_step l i hil, hx, h73, List.append_assoc]; rfl
    · split
      · rw [plainGo_is s hs d (i + 1) (l.set i 84) (now - 1) (by omega) (by rw [List.length_set]; exact hl) (by omega) (fun j h => by rw [rd_set_ne l i j _ (by omega)]; exact hj j (by omega)), take_set_succ l i 84 hil, List.append_assoc]; rfl
      · rw [plainGo_is s hs d (i + 1) l (now - 1) (by omega) hl (by omega) (fun j h => hj j (by omega)), take_step l i hil, hx, List.append_assoc]; rfl
theorem sub_bt (s : ByteArray) (i : Nat) (hi : i < s.size) : s.extract i (i + 1) = strOfNums [bt s i] := by
  apply ByteArray.ext
  rw [ByteArray.data_extract]
  have hd : i < s.data.size := hi
  have h1 : s.data.extract i (i + 1) = #[s.data[i]] := by
    apply Array.ext
    · simp; omega
    · intro j h1 h2
      have : j = 0 := by simp at h2; omega
      subst this
      simp
  rw [h1]
  have h2 : bt s i = ((s[i]'hi).toNat : Int) := by rw [← bt_at s i hi]; rfl
  simp [strOfNums, h2]
  rfl
theorem spec_plain_l (s : ByteArray) (hs : s.size ≤ 1000000) : ∀ (d i : Nat) (x : ByteArray) (now : Int), i + d = s.size → x.size = i → (-(i : Int) ≤ now ∧ now ≤ i) → Ev (fun k => spec_PlainEnds.l0 k s x now i) (x ++ strOfNums (plainM s d i now), true)
  | 0, i, x, now, hi, hx, hn => by
    refine Ev.step (fun k => by rw [spec_PlainEnds.l0]) ?_
    refine Ev.neg (by omega) (Ev.val ?_)
    rw [plainM, show strOfNums [] = ByteArray.empty from rfl, ByteArray.append_empty]
  | d + 1, i, x, now, hi, hx, hn => by
    refine Ev.step (fun k => by rw [spec_PlainEnds.l0]) ?_
    have e : wrap64 ((i : Int) + 1) = ((i + 1 : Nat) : Int) := by rw [w64 (by omega)]; omega
    have e1 : wrap64 (now + 1) = now + 1 := w64 (by omega)
    have e2 : wrap64 (now - 1) = now - 1 := w64 (by omega)
    have ec : ∀ (y : Int) (l : List Int), strOfNums (y :: l) = strOfNums [y] ++ strOfNums l := by
      intro y l
      apply ByteArray.ext
      simp [strOfNums]
    have hz : ∀ y : Int, (strOfNums [y]).size = 1 := fun y => by rw [strOfNums_size]; rfl
    simp only [e, e1, e2, Int.toNat_natCast]
    rw [plainM]
    refine Ev.pos (by omega) (Ev.pos (by omega) (Ev.ite (fun h73 => ?_) (fun h73 => ?_)))
    · rw [if_pos h73, ec]
      refine Ev.pos (by omega) ((spec_plain_l s hs d (i + 1) _ (now + 1) (by omega) ?_ (by omega)).to ?_)
      · rw [ByteArray.size_append, hx]; rfl
      · rw [ByteArray.append_assoc]; rfl
    · rw [if_neg h73, ec]
      refine Ev.ite (fun h1 => ?_) (fun h1 => ?_)
      · rw [if_pos h1]
        refine Ev.pos (by omega) ((spec_plain_l s hs d (i + 1) _ (now - 1) (by omega) ?_ (by omega)).to ?_)
        · rw [ByteArray.size_append, hx]; rfl
        · rw [ByteArray.append_assoc]; rfl
      · rw [if_neg h1, sub_bt s i (by omega)]
        refine Ev.pos (by omega) (Ev.pos (by omega) (Ev.pos (by rw [hz]; omega) ((spec_plain_l s hs d (i + 1) _ (now - 1) (by omega) ?_ (by omega)).to ?_)))
        · rw [ByteArray.size_append, hx, hz]
        · rw [ByteArray.append_assoc]
theorem isEnds_size {s : ByteArray} (h : isEnds s = true) : s.size ≤ 15 := by
  simp only [isEnds, Bool.and_eq_true, okSize, decide_eq_true_eq] at h
  omega
def resPlain (s : ByteArray) : ByteArray × Bool := if isEnds s then (strOfNums (plainM s s.size 0 0), true) else (⟨#[]⟩, false)
theorem specPlain_ev (s : ByteArray) (hs : s.size ≤ 140737488351232) : Ev (fun k => spec_PlainEnds.f k s) (resPlain s) := by
  unfold spec_PlainEnds.f
  refine Ev.bind (l8Any_ev s hs) (Ev.ite (fun hc => ?_) (fun hc => Ev.val ?_))
  · have hz := isEnds_size hc
    refine (spec_plain_l s (by omega) s.size 0 ⟨#[]⟩ 0 (by omega) rfl (by omega)).to ?_
    simp only [resPlain, hc, if_true]
    rw [show (⟨#[]⟩ : ByteArray) = ByteArray.empty from rfl, ByteArray.empty_append]
  · simp [resPlain, hc]
theorem bytesOf_rd (s : ByteArray) (j : Nat) : rd (bytesOf s) (j : Int) = bt s j := rd_bytesOf s j
theorem implPlain_ev (s : ByteArray) (hs : s.size ≤ 140737488351232) : Ev (fun k => impl_PlainEnds.f k s) (resPlain s) := by
  unfold impl_PlainEnds.f
  refine Ev.bind (implIsEndsWord_ev s hs) (Ev.ite (fun hc => ?_) (fun hc => Ev.val ?_))
  · have hz := isEnds_size hc
    refine Ev.pos (by omega) (Ev.val ?_)
    rw [plainGo_is s (by omega) s.size 0 (bytesOf s) 0 (by omega) (bytesOf_length s) (by omega) (fun j _ => bytesOf_rd s j)]
    simp [resPlain, hc]
  · simp [resPlain, hc]
theorem FnExactPlainEnds : laws_FnExactPlainEnds.Pure := by
  intro s hs
  refine Ev.rounds (?_ : Ev (fun k => laws_FnExactPlainEnds.f k s) true)
  unfold laws_FnExactPlainEnds.f
  refine Ev.ite (fun _ => Ev.val rfl) (fun hc => ?_)
  refine Ev.bind (specPlain_ev s hs) ?_
  refine Ev.bind (implPlain_ev s hs) ?_
  exact Ev.pos rfl (Ev.neg (by simp) (Ev.val rfl))

end Go.Proofs.Ytfoededcgeemcaa.Pure
