/- The program's BottomPops returns what the reference's returns, for all arguments. -/
import Derived.Test.YtgdjnaojcpoigaaPFnExactBottomPopsx6
import Derived.Test.YtgdjnaojcpoigaaK
set_option linter.unusedVariables false
set_option linter.unusedSimpArgs false
namespace Go.Proofs.Ytgdjnaojcpoigaa.Pure
open Go.RowKit Go.Proofs.Ytgdjnaojcpoigaa.PFnExactBottomPops Go.Proofs.YtgdjnaojcpoigaaW.PrintWords Go.Proofs.YtgdjnaojcpoigaaW.PrintLast Go.Proofs.YtgdjnaojcpoigaaW.PrintMore

theorem toIntS_l (x0 : List Int) (hn : x0.length ≤ 17592186044416) : ∀ (d i : Nat) (x3 : List Int), x3.length = x0.length → x3.take i = x0.take i → x0.length = i + d → Ev (fun k => laws_toIntS.l0 k x0 x3 i) x0
  | 0, i, x3, h1, h2, h3 => by
    refine Ev.step (fun k => by rw [laws_toIntS.l0]) ?_
    refine Ev.neg (by omega) (Ev.val ?_)
    rw [List.take_of_length_le (by omega), List.take_of_length_le (by omega)] at h2
    exact h2
  | d + 1, i, x3, h1, h2, h3 => by
    refine Ev.step (fun k => by rw [laws_toIntS.l0]) ?_
    refine Ev.pos (by omega) (Ev.pos (by omega) (Ev.pos (by omega) ?_))
    have e : wrap64 ((i : Int) + 1) = ((i + 1 : Nat) : Int) := by rw [w64 (by omega)]; omega
    simp only [e, Int.toNat_natCast]
    exact toIntS_l x0 hn d (i + 1) _ (by simpa using h1) (by rw [take_set_succ _ _ _ (by omega), h2, take_step _ _ (by omega), rd_nat]) (by omega)
theorem toIntS_ev (l : List Int) (hn : l.length ≤ 17592186044416) : Ev (fun k => laws_toIntS.f k l) l := by
  unfold laws_toIntS.f
  refine Ev.pos (by omega) (Ev.pos (by omega) ?_)
  exact toIntS_l l hn l.length 0 _ (by simp) (by simp) (by omega)

theorem eqIntS_l (a b : List Int) (hn : a.length ≤ 17592186044416) (hl : a.length = b.length) : ∀ (d i : Nat), a.length = i + d → Ev (fun k => laws_eqIntS.l0 k a b i) (decide (a.drop i = b.drop i))
  | 0, i, h => by
    refine Ev.step (fun k => by rw [laws_eqIntS.l0]) ?_
    refine Ev.neg (by omega) (Ev.val ?_)
    rw [List.drop_of_length_le (by omega), List.drop_of_length_le (by omega)]
    simp
  | d + 1, i, h => by
    refine Ev.step (fun k => by rw [laws_eqIntS.l0]) ?_
    refine Ev.pos (by omega) (Ev.pos (by omega) (Ev.pos (by omega) ?_))
    have e : wrap64 ((i : Int) + 1) = ((i + 1 : Nat) : Int) := by rw [w64 (by omega)]; omega
    simp only [e]
    rw [drop_step a i (by omega), drop_step b i (by omega)]
    refine Ev.ite (fun hc => ?_) (fun hc => Ev.val ?_)
    · have hc' : nth a i = nth b i := hc
      refine (eqIntS_l a b hn hl d (i + 1) (by omega)).to ?_
      rw [hc']
      simp
    · have hc' : ¬ nth a i = nth b i := hc
      simp [hc']
theorem eqIntS_ev (a b : List Int) (hn : a.length ≤ 17592186044416) : Ev (fun k => laws_eqIntS.f k a b) (decide (a = b)) := by
  unfold laws_eqIntS.f
  refine Ev.ite (fun hc => ?_) (fun hc => Ev.val ?_)
  · exact (eqIntS_l a b hn (by omega) a.length 0 (by omega)).to (by simp)
  · have : ¬ a = b := fun h => hc (by rw [h])
    simp [this]

theorem l1In_is (a b c : Int) : spec_l1In.f a b c = some (decide (b ≤ a ∧ a ≤ c)) := by
  unfold spec_l1In.f
  by_cases h : a ≥ b
  · rw [if_pos h]; simp [h]
  · rw [if_neg h]; simp; omega

theorem l1Has_l (l : List Int) (x : Int) (hn : l.length ≤ 17592186044416) : ∀ (d i : Nat), l.length = i + d → Ev (fun k => spec_l1Has.l0 k l x i) ((l.drop i).contains x)
  | 0, i, h => by
    refine Ev.step (fun k => by rw [spec_l1Has.l0]) ?_
    refine Ev.neg (by omega) (Ev.val ?_)
    rw [List.drop_of_length_le (by omega)]
    simp
  | d + 1, i, h => by
    refine Ev.step (fun k => by rw [spec_l1Has.l0]) ?_
    have e : wrap64 ((i : Int) + 1) = ((i + 1 : Nat) : Int) := by rw [w64 (by omega)]; omega
    simp only [e]
    rw [drop_step l i (by omega)]
    refine Ev.pos (by omega) (Ev.pos (by omega) (Ev.ite (fun hc => Ev.val ?_) (fun hc => ?_)))
    · have hc' : nth l i = x := hc
      rw [hc']; simp
    · have hc' : ¬ nth l i = x := hc
      refine (l1Has_l l x hn d (i + 1) (by omega)).to ?_
      have : ¬ x = nth l i := fun h => hc' h.symm
      rw [List.contains_cons]
      simp [this]
theorem l1Has_ev (l : List Int) (x : Int) (hn : l.length ≤ 17592186044416) : Ev (fun k => spec_l1Has.f k l x) (l.contains x) := by
  unfold spec_l1Has.f
  exact (l1Has_l l x hn l.length 0 (by omega)).to (by simp)

theorem l2Order_l (l : List Int) (hn : l.length ≤ 17592186044416) : ∀ (d i : Nat), l.length = i + d → Ev (fun k => spec_l2Order.l0 k l i) (allFrom (ordAt l) d i)
  | 0, i, h => by
    refine Ev.step (fun k => by rw [spec_l2Order.l0]) ?_
    exact Ev.neg (by omega) (Ev.val rfl)
  | d + 1, i, h => by
    refine Ev.step (fun k => by rw [spec_l2Order.l0]) ?_
    have e : wrap64 ((i : Int) + 1) = ((i + 1 : Nat) : Int) := by rw [w64 (by omega)]; omega
    simp only [e, l1In_is, Option.bind_some, rd_nat, Int.toNat_natCast, decide_eq_true_eq]
    refine Ev.pos (by omega) (Ev.pos (by omega) (Ev.ite (fun hc => Ev.pos (by omega) ?_) (fun hc => Ev.val ?_)))
    · refine Ev.bind (l1Has_ev _ _ (by simp; omega)) ?_
      refine Ev.ite (fun hb => Ev.val ?_) (fun hb => (l2Order_l l hn d (i + 1) (by omega)).to ?_)
      · rw [allFrom, ordAt, hb]; simp
      · rw [Bool.not_eq_true] at hb
        rw [allFrom, ordAt, hb]; simp [hc]
    · rw [allFrom, ordAt]
      by_cases h1 : 1 ≤ nth l i
      · have : ¬ nth l i ≤ l.length := fun h2 => hc ⟨h1, h2⟩
        simp [this]
      · simp [h1]
theorem l2Order_ev (l : List Int) (hn : l.length ≤ 17592186044416) : Ev (fun k => spec_l2Order.f k l) (isOrd l) := by
  unfold spec_l2Order.f
  simp only [l1In_is, Option.bind_some, decide_eq_true_eq]
  refine Ev.ite (fun hc => (l2Order_l l hn l.length 0 (by omega)).to ?_) (fun hc => Ev.val ?_)
  · have h1 : 1 ≤ l.length := by omega
    have h2 : l.length ≤ 7 := by omega
    simp [isOrd, h1, h2]
  · rw [isOrd]
    by_cases h1 : 1 ≤ l.length
    · have : ¬ l.length ≤ 7 := by omega
      simp [this]
    · simp [h1]

theorem Index_l (l : List Int) (x : Int) (hn : l.length ≤ 17592186044416) : ∀ (d i : Nat), l.length = i + d → (∀ j, j < i → nth l j ≠ x) → Ev (fun k => slices_Index_int_int.l0 k l x (l.length : Int) i) (idx l x)
  | 0, i, h, hq => by
    refine Ev.step (fun k => by rw [slices_Index_int_int.l0]) ?_
    refine Ev.neg (by omega) (Ev.val ?_)
    exact (idx_none l x fun j hj => hq j (by omega)).symm
  | d + 1, i, h, hq => by
    refine Ev.step (fun k => by rw [slices_Index_int_int.l0]) ?_
    have e : wrap64 ((i : Int) + 1) = ((i + 1 : Nat) : Int) := by rw [w64 (by omega)]; omega
    simp only [e]
    refine Ev.pos (by omega) (Ev.pos (by omega) (Ev.pos (by omega) (Ev.ite (fun hc => Ev.val ?_) (fun hc => ?_))))
    · exact (idx_some l x i (by omega) (by rw [hc]; rfl) hq).symm
    · refine Index_l l x hn d (i + 1) (by omega) (fun j hj => ?_)
      by_cases e : j = i
      · subst e; exact fun h => hc h.symm
      · exact hq j (by omega)
theorem Index_ev (l : List Int) (x : Int) (hn : l.length ≤ 17592186044416) : Ev (fun k => slices_Index_int_int.f k l x) (idx l x) := by
  unfold slices_Index_int_int.f
  exact Index_l l x hn l.length 0 (by omega) (fun j hj => by omega)

theorem Contains_ev (l : List Int) (x : Int) (hn : l.length ≤ 17592186044416) : Ev (fun k => slices_Contains_int_int.f k l x) (l.contains x) := by
  unfold slices_Contains_int_int.f
  exact Ev.bind (Index_ev l x hn) (Ev.val (idx_contains l x))

theorem isOrder_l (l : List Int) (hn : l.length ≤ 17592186044416) : ∀ (d i : Nat), l.length = i + d → Ev (fun k => impl_isOrder.l0 k l l (l.length : Int) i) (allFrom (ordAt l) d i)
  | 0, i, h => by
    refine Ev.step (fun k => by rw [impl_isOrder.l0]) ?_
    exact Ev.neg (by omega) (Ev.val rfl)
  | d + 1, i, h => by
    refine Ev.step (fun k => by rw [impl_isOrder.l0]) ?_
    have e : wrap64 ((i : Int) + 1) = ((i + 1 : Nat) : Int) := by rw [w64 (by omega)]; omega
    simp only [e, rd_nat, Int.toNat_natCast]
    refine Ev.pos (by omega) (Ev.pos (by omega) (Ev.pos (by omega) (Ev.ite (fun hc => Ev.val ?_) (fun hc => Ev.ite (fun hd => Ev.val ?_) (fun hd => Ev.pos (by omega) ?_)))))
    · have : ¬ 1 ≤ nth l i := by omega
      rw [allFrom, ordAt]; simp [this]
    · have : ¬ nth l i ≤ l.length := by omega
      rw [allFrom, ordAt]; simp [this]
    · refine Ev.bind (Contains_ev _ _ (by simp; omega)) ?_
      refine Ev.ite (fun hb => Ev.val ?_) (fun hb => (isOrder_l l hn d (i + 1) (by omega)).to ?_)
      · rw [allFrom, ordAt, hb]; simp
      · rw [Bool.not_eq_true] at hb
        have h1 : 1 ≤ nth l i := by omega
        have h2 : nth l i ≤ l.length := by omega
        rw [allFrom, ordAt, hb]; simp [h1, h2]
theorem isOrder_ev (l : List Int) (hn : l.length ≤ 17592186044416) : Ev (fun k => impl_isOrder.f k l) (isOrd l) := by
  unfold impl_isOrder.f
  refine Ev.ite (fun hc => ?_) (fun hc => ?_)
  · refine Ev.step (fun k => by rw [impl_isOrder.j0]) ?_
    refine Ev.pos rfl (Ev.val ?_)
    have : ¬ 1 ≤ l.length := by omega
    simp [isOrd, this]
  · refine Ev.step (fun k => by rw [impl_isOrder.j0]) ?_
    simp only [decide_eq_true_eq]
    refine Ev.ite (fun hd => Ev.val ?_) (fun hd => (isOrder_l l hn l.length 0 (by omega)).to ?_)
    · have : ¬ l.length ≤ 7 := by omega
      simp [isOrd, this]
    · have h1 : 1 ≤ l.length := by omega
      have h2 : l.length ≤ 7 := by omega
      simp [isOrd, h1, h2]

theorem l1Own_is (l : List Int) (h : l.length < 17592186044416) : spec_l1Own.f l = some l := by
  unfold spec_l1Own.f
  simp [h]

/-! ends words by which an order comes out of another: both sides go side by side -/
theorem str_snoc (out : List Int) (n : Int) : strOfNums (out ++ [n]) = strOfNums out ++ (⟨#[UInt8.ofNat n.toNat]⟩ : ByteArray) := by
  apply ByteArray.ext
  apply Array.ext'
  simp [strOfNums, ByteArray.data_append]
theorem str_T (out : List Int) : strOfNums (out ++ [84]) = strOfNums out ++ (⟨#[84]⟩ : ByteArray) := str_snoc out 84
theorem str_B (out : List Int) : strOfNums (out ++ [66]) = strOfNums out ++ (⟨#[66]⟩ : ByteArray) := str_snoc out 66
theorem str_I (out : List Int) : strOfNums (out ++ [73]) = strOfNums out ++ (⟨#[73]⟩ : ByteArray) := str_snoc out 73
/-- where both are, ahead of one more look -/
structure EndsAt (l s : List Int) (m i next : Nat) (there out : List Int) : Prop where
  hi : i < s.length
  hn : next ≤ l.length
  hm : (s.length - i) + (l.length - next) ≤ m
  ht : there.length ≤ next
  ho : out.length ≤ i + next
def Both1 (l s : List Int) (i next : Nat) (there out : List Int) : Prop := ∃ r : ByteArray × Bool, r.1.size ≤ 2000 ∧ Ev (fun k => spec_l8To.l1 k l s (strOfNums out) there (next : Int) (i : Int)) r ∧ Ev (fun k => impl_endsTo.l1 k (l.drop next) there out (nth s i) s (s.length : Int) (i : Int)) r
def Both0 (l s : List Int) (i next : Nat) (there out : List Int) : Prop := ∃ r : ByteArray × Bool, r.1.size ≤ 2000 ∧ Ev (fun k => spec_l8To.l0 k l s (strOfNums out) there (next : Int) (i : Int)) r ∧ Ev (fun k => impl_endsTo.l0 k (l.drop next) there out s (s.length : Int) (i : Int)) r
theorem both0_of {l s : List Int} {i next : Nat} {there out : List Int} (h : i < s.length → Both1 l s i next there out) (hi : i ≤ s.length) (hz : out.length ≤ 2000) : Both0 l s i next there out := by
  by_cases hc : i < s.length
  · obtain ⟨r, hr, h1, h2⟩ := h hc
    refine ⟨r, hr, ?_, ?_⟩
    · refine Ev.step (fun k => by rw [spec_l8To.l0]) ?_
      exact Ev.pos (by omega) h1
    · refine Ev.step (fun k => by rw [impl_endsTo.l0]) ?_
      exact Ev.pos (by omega) (Ev.pos (by omega) (Ev.pos (by omega) h2))
  · refine ⟨(strOfNums out, true), by rw [strOfNums_size]; exact hz, ?_, ?_⟩
    · refine Ev.step (fun k => by rw [spec_l8To.l0]) ?_
      exact Ev.neg (by omega) (Ev.val rfl)
    · refine Ev.step (fun k => by rw [impl_endsTo.l0]) ?_
      exact Ev.neg (by omega) (Ev.val rfl)
/-- behind the look at the bottom -/
theorem both_j3 {l s : List Int} (hl : l.length ≤ 1000) (hs : s.length ≤ 1000) {m i next : Nat} {there out : List Int} (h : EndsAt l s m i next there out) (b : Bool) (hb : b = true → 0 < there.length)
    (h0 : 0 < there.length → Both0 l s (i + 1) next (there.drop 1) (out ++ [66])) (h1 : next < l.length → Both1 l s i (next + 1) (there ++ [nth l next]) (out ++ [73])) :
    ∃ r : ByteArray × Bool, r.1.size ≤ 2000 ∧ Ev (fun k => spec_l8To.j3 k l s (strOfNums out) there (next : Int) (i : Int) b) r ∧ Ev (fun k => impl_endsTo.j3 k (l.drop next) there out (nth s i) s (s.length : Int) (i : Int) b) r := by
  obtain ⟨hi, hn, hm, ht, ho⟩ := h
  have hsz : (strOfNums out).size = out.length := strOfNums_size out
  cases b with
  | true =>
    have hp := hb rfl
    obtain ⟨r, hr, a1, a2⟩ := h0 hp
    rw [str_B] at a1
    refine ⟨r, hr, ?_, ?_⟩
    · refine Ev.step (fun k => by rw [spec_l8To.j3]) ?_
      simp only [wup i (by omega)]
      refine Ev.pos trivial (Ev.pos (by omega) ?_)
      simp only [l1Own_is (there.drop 1) (by rw [List.length_drop]; omega), Option.bind_some]
      exact Ev.pos (by omega) a1
    · refine Ev.step (fun k => by rw [impl_endsTo.j3]) ?_
      simp only [wup i (by omega), Option.bind_some]
      exact Ev.pos trivial (Ev.pos (by simp; omega) (Ev.pos (by omega) a2))
  | false =>
    by_cases hc : next = l.length
    · refine ⟨((⟨#[]⟩ : ByteArray), false), Nat.zero_le _, ?_, ?_⟩
      · refine Ev.step (fun k => by rw [spec_l8To.j3]) ?_
        exact Ev.neg (by simp) (Ev.pos (by omega) (Ev.val rfl))
      · refine Ev.step (fun k => by rw [impl_endsTo.j3]) ?_
        refine Ev.neg (by simp) ?_
        refine Ev.pos ?_ (Ev.val rfl)
        rw [List.length_drop]; omega
    · obtain ⟨r, hr, a1, a2⟩ := h1 (by omega)
      rw [str_I] at a1
      refine ⟨r, hr, ?_, ?_⟩
      · refine Ev.step (fun k => by rw [spec_l8To.j3]) ?_
        simp only [wup next (by omega), rd_nat]
        exact Ev.neg (by simp) (Ev.neg (by omega) (Ev.pos (by omega) (Ev.pos (by omega) (Ev.pos (by omega) (Ev.pos (by omega) a1)))))
      · refine Ev.step (fun k => by rw [impl_endsTo.j3]) ?_
        have e4 : rd (l.drop next) 0 = nth l next := by
          show nth (l.drop next) 0 = _
          unfold nth
          rw [List.getD_eq_getElem?_getD, List.getD_eq_getElem?_getD, List.getElem?_drop, Nat.add_zero]
        have e5 : (l.drop next).drop 1 = l.drop (next + 1) := by rw [List.drop_drop]
        simp only [e4, e5, Option.bind_some]
        clear e4 e5
        have e6 : (l.drop next).length = l.length - next := List.length_drop
        refine Ev.neg (by simp) ?_
        refine Ev.neg (by omega) ?_
        refine Ev.pos (by simp; omega) ?_
        refine Ev.pos (by omega) ?_
        refine Ev.pos (by simp; omega) ?_
        exact Ev.pos (by omega) a2
theorem both1 {l s : List Int} (hl : l.length ≤ 1000) (hs : s.length ≤ 1000) : ∀ (m i next : Nat) (there out : List Int), EndsAt l s m i next there out → Both1 l s i next there out
  | 0, i, next, there, out, h => absurd h.hm (by have := h.hi; omega)
  | m + 1, i, next, there, out, h => by
    have hT : 0 < there.length → Both0 l s (i + 1) next (there.take (there.length - 1)) (out ++ [84]) := fun hp => both0_of (fun hc => both1 hl hs m (i + 1) next _ _ ⟨hc, h.hn, by have := h.hm; have := h.hi; omega, by rw [List.length_take]; have := h.ht; omega, by rw [List.length_append, List.length_singleton]; have := h.ho; omega⟩) (by have := h.hi; omega) (by rw [List.length_append, List.length_singleton]; have := h.ho; have := h.hi; have := h.hn; omega)
    have hB : 0 < there.length → Both0 l s (i + 1) next (there.drop 1) (out ++ [66]) := fun hp => both0_of (fun hc => both1 hl hs m (i + 1) next _ _ ⟨hc, h.hn, by have := h.hm; have := h.hi; omega, by rw [List.length_drop]; have := h.ht; omega, by rw [List.length_append, List.length_singleton]; have := h.ho; omega⟩) (by have := h.hi; omega) (by rw [List.length_append, List.length_singleton]; have := h.ho; have := h.hi; have := h.hn; omega)
    have hI : next < l.length → Both1 l s i (next + 1) (there ++ [nth l next]) (out ++ [73]) := fun hp => both1 hl hs m i (next + 1) _ _ ⟨h.hi, hp, by have := h.hm; omega, by rw [List.length_append, List.length_singleton]; have := h.ht; omega, by rw [List.length_append, List.length_singleton]; have := h.ho; omega⟩
    have hj3 := fun b hb => both_j3 hl hs h b hb hB hI
    have ht := h.ht
    have hi := h.hi
    have hn := h.hn
    have ho := h.ho
    have hsz : (strOfNums out).size = out.length := strOfNums_size out
    rcases Nat.eq_zero_or_pos there.length with h0 | hp
    · obtain ⟨r, hr, a1, a2⟩ := hj3 false (fun hb => by cases hb)
      refine ⟨r, hr, ?_, ?_⟩
      · refine Ev.step (fun k => by rw [spec_l8To.l1]) ?_
        refine Ev.neg (by omega) ?_
        refine Ev.step (fun k => by rw [spec_l8To.j2]) ?_
        exact Ev.neg (by simp) (Ev.neg (by omega) a1)
      · refine Ev.step (fun k => by rw [impl_endsTo.l1]) ?_
        simp only [show wrap64 ((there.length : Int) - 1) = -1 from by rw [h0, w64 (by omega)]; rfl]
        refine Ev.neg (by omega) ?_
        refine Ev.step (fun k => by rw [impl_endsTo.j2]) ?_
        exact Ev.neg (by simp) (Ev.neg (by omega) a2)
    · by_cases hc : nth there (there.length - 1) = nth s i
      · obtain ⟨r, hr, a1, a2⟩ := hT hp
        rw [str_T] at a1
        have hc' : (nth there (there.length - 1) == nth s i) = true := by simp [hc]
        refine ⟨r, hr, ?_, ?_⟩
        · refine Ev.step (fun k => by rw [spec_l8To.l1]) ?_
          simp only [wdn there.length hp (by omega), rd_nat, hc']
          refine Ev.pos (by omega) (Ev.pos (by omega) (Ev.pos (by omega) (Ev.pos (by omega) (Ev.pos (by omega) ?_))))
          refine Ev.step (fun k => by rw [spec_l8To.j2]) ?_
          simp only [wup i (by omega), wdn there.length hp (by omega), Int.toNat_natCast]
          exact Ev.pos trivial (Ev.pos (by omega) (Ev.pos (by omega) (Ev.pos (by omega) a1)))
        · refine Ev.step (fun k => by rw [impl_endsTo.l1]) ?_
          simp only [wdn there.length hp (by omega), rd_nat, hc']
          refine Ev.pos (by omega) (Ev.pos (by omega) (Ev.pos (by omega) ?_))
          refine Ev.step (fun k => by rw [impl_endsTo.j2]) ?_
          simp only [wup i (by omega), Option.bind_some, Int.toNat_natCast]
          exact Ev.pos trivial (Ev.pos (by simp; omega) (Ev.pos (by omega) (Ev.pos (by omega) a2)))
      · have hc' : (nth there (there.length - 1) == nth s i) = false := by simp [hc]
        obtain ⟨r, hr, a1, a2⟩ := hj3 (nth there 0 == nth s i) (fun _ => hp)
        have e3 : ∀ x : List Int, rd x 0 = nth x 0 := fun _ => rfl
        refine ⟨r, hr, ?_, ?_⟩
        · refine Ev.step (fun k => by rw [spec_l8To.l1]) ?_
          simp only [wdn there.length hp (by omega), rd_nat, hc']
          refine Ev.pos (by omega) (Ev.pos (by omega) (Ev.pos (by omega) (Ev.pos (by omega) (Ev.pos (by omega) ?_))))
          refine Ev.step (fun k => by rw [spec_l8To.j2]) ?_
          simp only [e3, rd_nat]
          exact Ev.neg (by simp) (Ev.pos (by omega) (Ev.pos (by omega) (Ev.pos (by omega) (Ev.pos (by omega) a1))))
        · refine Ev.step (fun k => by rw [impl_endsTo.l1]) ?_
          simp only [wdn there.length hp (by omega), rd_nat, hc']
          refine Ev.pos (by omega) (Ev.pos (by omega) (Ev.pos (by omega) ?_))
          refine Ev.step (fun k => by rw [impl_endsTo.j2]) ?_
          simp only [e3]
          exact Ev.neg (by simp) (Ev.pos (by omega) (Ev.pos (by omega) a2))
theorem endsTo_bothz (l s : List Int) (hl : l.length ≤ 1000) (hs : s.length ≤ 1000) : ∃ r : ByteArray × Bool, r.1.size ≤ 2000 ∧ Ev (fun k => spec_l8To.f k l s) r ∧ Ev (fun k => impl_endsTo.f k l s) r := by
  have := both0_of (l := l) (s := s) (i := 0) (next := 0) (there := []) (out := []) (fun hc => both1 hl hs (s.length + l.length) 0 0 [] [] ⟨hc, Nat.zero_le _, by omega, by simp, by simp⟩) (Nat.zero_le _) (by simp)
  obtain ⟨r, hr, h1, h2⟩ := this
  rw [List.drop_zero] at h2
  have e : strOfNums [] = (⟨#[]⟩ : ByteArray) := rfl
  rw [e] at h1
  unfold spec_l8To.f impl_endsTo.f
  exact ⟨r, hr, h1, h2⟩
theorem endsTo_both (l s : List Int) (hl : l.length ≤ 1000) (hs : s.length ≤ 1000) : ∃ r : ByteArray × Bool, Ev (fun k => spec_l8To.f k l s) r ∧ Ev (fun k => impl_endsTo.f k l s) r := by
  obtain ⟨r, _, h⟩ := endsTo_bothz l s hl hs
  exact ⟨r, h⟩

def okEndsTo (l s : List Int) : Bool := isOrd l && (isOrd s && decide (l.length = s.length))
theorem areOrders_ev (l s : List Int) (hn : l.length ≤ 17592186044415) (hs : s.length ≤ 17592186044415) : Ev (fun k => impl_areOrders.f k l s) (okEndsTo l s) := by
  unfold impl_areOrders.f
  refine Ev.bind (isOrder_ev l (by omega)) (Ev.ite (fun hc => Ev.bind (isOrder_ev s (by omega)) (Ev.ite (fun hd => Ev.val ?_) (fun hd => Ev.val ?_))) (fun hc => Ev.val ?_))
  · rw [Bool.eq_iff_iff]
    simp [okEndsTo, hc, hd]
    omega
  · rw [Bool.not_eq_true] at hd; simp [okEndsTo, hd]
  · rw [Bool.not_eq_true] at hc; simp [okEndsTo, hc]
theorem EndsTo_bothz (l s : List Int) (hn : l.length ≤ 17592186044415) (hs : s.length ≤ 17592186044415) : ∃ r : ByteArray × Bool, r.1.size ≤ 2000 ∧ Ev (fun k => spec_EndsTo.f k l s) r ∧ Ev (fun k => impl_EndsTo.f k l s) r := by
  by_cases hc : okEndsTo l s = true
  · have hc' := hc
    simp only [okEndsTo, Bool.and_eq_true, decide_eq_true_eq] at hc'
    obtain ⟨c1, c2, c3⟩ := hc'
    have := isOrd_len c1
    obtain ⟨r, hr, h1, h2⟩ := endsTo_bothz l s (by omega) (by omega)
    refine ⟨r, hr, ?_, ?_⟩
    · unfold spec_EndsTo.f
      refine Ev.bind (l2Order_ev l (by omega)) (Ev.pos c1 ?_)
      refine Ev.bind (l2Order_ev s (by omega)) (Ev.pos c2 ?_)
      exact Ev.pos (by omega) (Ev.bind h1 (Ev.val rfl))
    · unfold impl_EndsTo.f
      exact Ev.bind (areOrders_ev l s hn hs) (Ev.pos hc (Ev.bind h2 (Ev.val rfl)))
  · refine ⟨((⟨#[]⟩ : ByteArray), false), Nat.zero_le _, ?_, ?_⟩
    · unfold spec_EndsTo.f
      refine Ev.bind (l2Order_ev l (by omega)) (Ev.ite (fun c1 => ?_) (fun _ => Ev.val rfl))
      refine Ev.bind (l2Order_ev s (by omega)) (Ev.ite (fun c2 => ?_) (fun _ => Ev.val rfl))
      refine Ev.neg (fun c3 => hc ?_) (Ev.val rfl)
      have c3' : l.length = s.length := by omega
      simp [okEndsTo, c1, c2, c3']
    · unfold impl_EndsTo.f
      exact Ev.bind (areOrders_ev l s hn hs) (Ev.neg hc (Ev.val rfl))

theorem bt_nat (s : ByteArray) (i : Nat) (h : i < s.size) : bt s (i : Int) = ((s.data.toList[i]'(by simpa using h)).toNat : Int) := by
  unfold bt
  rw [dif_pos (by simpa using h)]
  rfl
theorem countB_l (s : ByteArray) (b : Bool) (hs : s.size ≤ 2000) : ∀ (d i : Nat) (m : Int), s.size = i + d → 0 ≤ m → m ≤ i → Ev (fun k => spec_BottomPops.l0 k s b m (i : Int)) (m + ((s.data.toList.drop i).count 66 : Nat), b)
  | 0, i, m, h, h0, h1 => by
    refine Ev.step (fun k => by rw [spec_BottomPops.l0]) ?_
    refine Ev.neg (by omega) (Ev.val ?_)
    rw [List.drop_of_length_le (by simp; omega)]
    simp
  | d + 1, i, m, h, h0, h1 => by
    have hi : i < s.data.toList.length := by simp; omega
    refine Ev.step (fun k => by rw [spec_BottomPops.l0]) ?_
    simp only [wup i (by omega)]
    refine Ev.pos (by omega) (Ev.pos (by omega) ?_)
    rw [List.drop_eq_getElem_cons hi, bt_nat s i (by omega)]
    refine Ev.ite (fun hc => ?_) (fun hc => ?_)
    · have e : s.data.toList[i] = 66 := by
        apply UInt8.toNat_inj.1
        have : (66 : UInt8).toNat = 66 := rfl
        omega
      rw [e, List.count_cons_self, w64 (by omega)]
      refine Ev.to (countB_l s b hs d (i + 1) (m + 1) (by omega) (by omega) (by omega)) ?_
      congr 1
      omega
    · have e : ¬ s.data.toList[i] = 66 := by
        intro e
        rw [e] at hc
        exact hc rfl
      rw [List.count_cons_of_ne (by simpa using e)]
      exact countB_l s b hs d (i + 1) m (by omega) (by omega) (by omega)
theorem countB_ev (s : ByteArray) (b : Bool) (hs : s.size ≤ 2000) : Ev (fun k => spec_BottomPops.l0 k s b 0 0) ((s.data.toList.count 66 : Nat), b) := by
  have := countB_l s b hs s.size 0 0 (by omega) (by omega) (by omega)
  rw [List.drop_zero, Int.zero_add] at this
  exact this
theorem FnExactBottomPops : laws_FnExactBottomPops.Pure := by
  intro l s hm hr hw hm' hs hw'
  refine Ev.rounds (?_ : Ev (fun k => laws_FnExactBottomPops.f k l s) true)
  unfold laws_FnExactBottomPops.f
  refine Ev.ite (fun _ => Ev.val rfl) (fun hc => ?_)
  refine Ev.ite (fun _ => Ev.val rfl) (fun hd => ?_)
  obtain ⟨r, hz, h1, h2⟩ := EndsTo_bothz l s (by omega) (by omega)
  have g1 : Ev (fun k => spec_BottomPops.f k l s) ((r.1.data.toList.count 66 : Nat), r.2) := by
    unfold spec_BottomPops.f
    exact Ev.bind h1 (countB_ev r.1 r.2 hz)
  have g2 : Ev (fun k => impl_BottomPops.f k l s) ((r.1.data.toList.count 66 : Nat), r.2) := by
    unfold impl_BottomPops.f
    exact Ev.bind h2 (Ev.val rfl)
  refine Ev.bind (toIntS_ev l (by omega)) ?_
  refine Ev.bind (toIntS_ev s (by omega)) ?_
  refine Ev.bind g1 ?_
  refine Ev.bind (toIntS_ev l (by omega)) ?_
  refine Ev.bind (toIntS_ev s (by omega)) ?_
  refine Ev.bind g2 ?_
  refine Ev.pos rfl ?_
  refine Ev.step (fun k => by rw [laws_FnExactBottomPops.j0]) ?_
  refine Ev.neg (by simp) ?_
  refine Ev.bind (toIntS_ev l (by omega)) ?_
  refine Ev.bind (eqIntS_ev l l (by omega)) (Ev.pos (by simp) ?_)
  refine Ev.bind (toIntS_ev s (by omega)) ?_
  exact Ev.bind (eqIntS_ev s s (by omega)) (Ev.pos (by simp) (Ev.val rfl))

end Go.Proofs.Ytgdjnaojcpoigaa.Pure
