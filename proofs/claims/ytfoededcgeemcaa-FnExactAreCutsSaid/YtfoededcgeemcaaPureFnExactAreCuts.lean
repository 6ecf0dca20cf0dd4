/- The program's AreCuts returns what the reference's returns, for all arguments. -/
import Derived.Test.YtfoededcgeemcaaPFnExactAreCutsx2
import Derived.Test.YtfoededcgeemcaaK
set_option linter.unusedVariables false
set_option linter.unusedSimpArgs false
namespace Go.Proofs.Ytfoededcgeemcaa.Pure
open Go.RowKit Go.Proofs.Ytfoededcgeemcaa.PFnExactAreCuts Go.Proofs.YtfoededcgeemcaaW.PrintWords Go.Proofs.YtfoededcgeemcaaW.PrintLast Go.Proofs.YtfoededcgeemcaaW.PrintMore

theorem toIntS_l (x0 : List Int) (hn : x0.length ≤ 17592186044416) : ∀ (d i : Nat) (x3 : List Int), x3.length = x0.length → x3.take i = x0.take i → x0.length = i + d → Ev (fun k => laws_toIntS.l0 k x0 x3 i) x0
  | 0, i, x3, h1, h2, h3 => by
    refine Ev.step (fun k => by rw [laws_toIntS.l0]) ?_
    refine Ev.neg (by omega) (Ev.val ?_)
    rw [List.take_of_length_le (by omega), List.take_of_length_le (by omega)] at h2
    exact h2
  | d + 1, i, x3, h1, h2, h3 => by
    refine Ev.step (fun k => by rw [laws_toIntS.l0]) ?_
    refine Ev.pos (by omega) (Ev.pos (by omega) (Ev.pos (by omega) ?_))
    have e : wrap64 ((i : Int) + 1) = ((i + 1 : Nat) : Int) := by rw [w64 (by omega)]; omega
    simp only [e, Int.toNat_natCast]
    exact toIntS_l x0 hn d (i + 1) _ (by simpa using h1) (by rw [take_set_succ _ _ _ (by omega), h2, take_step _ _ (by omega), rd_nat]) (by omega)
theorem toIntS_ev (l : List Int) (hn : l.length ≤ 17592186044416) : Ev (fun k => laws_toIntS.f k l) l := by
  unfold laws_toIntS.f
  refine Ev.pos (by omega) (Ev.pos (by omega) ?_)
  exact toIntS_l l hn l.length 0 _ (by simp) (by simp) (by omega)

theorem eqIntS_l (a b : List Int) (hn : a.length ≤ 17592186044416) (hl : a.length = b.length) : ∀ (d i : Nat), a.length = i + d → Ev (fun k => laws_eqIntS.l0 k a b i) (decide (a.drop i = b.drop i))
  | 0, i, h => by
    refine Ev.step (fun k => by rw [laws_eqIntS.l0]) ?_
    refine Ev.neg (by omega) (Ev.val ?_)
    rw [List.drop_of_length_le (by omega), List.drop_of_length_le (by omega)]
    simp
  | d + 1, i, h => by
    refine Ev.step (fun k => by rw [laws_eqIntS.l0]) ?_
    refine Ev.pos (by omega) (Ev.pos (by omega) (Ev.pos (by omega) ?_))
    have e : wrap64 ((i : Int) + 1) = ((i + 1 : Nat) : Int) := by rw [w64 (by omega)]; omega
    simp only [e]
    rw [drop_step a i (by omega), drop_step b i (by omega)]
    refine Ev.ite (fun hc => ?_) (fun hc => Ev.val ?_)
    · have hc' : nth a i = nth b i := hc
      refine (eqIntS_l a b hn hl d (i + 1) (by omega)).to ?_
      rw [hc']
      simp
    · have hc' : ¬ nth a i = nth b i := hc
      simp [hc']
theorem eqIntS_ev (a b : List Int) (hn : a.length ≤ 17592186044416) : Ev (fun k => laws_eqIntS.f k a b) (decide (a = b)) := by
  unfold laws_eqIntS.f
  refine Ev.ite (fun hc => ?_) (fun hc => Ev.val ?_)
  · exact (eqIntS_l a b hn (by omega) a.length 0 (by omega)).to (by simp)
  · have : ¬ a = b := fun h => hc (by rw [h])
    simp [this]

theorem l1In_is (a b c : Int) : spec_l1In.f a b c = some (decide (b ≤ a ∧ a ≤ c)) := by
  unfold spec_l1In.f
  by_cases h : a ≥ b
  · rw [if_pos h]; simp [h]
  · rw [if_neg h]; simp; omega

theorem isSize_is (a : Int) : impl_isSize.f a = some (decide (1 ≤ a ∧ a ≤ 7)) := by
  unfold impl_isSize.f
  by_cases h : a ≥ 1
  · rw [if_pos h]; simp [h]
  · rw [if_neg h]; simp; omega

/-! cuts: numbers of at least 1 whose sum is n -/
def cutsOk : Int → List Int → Bool
  | n, [] => n == 0
  | n, c :: cs => decide (1 ≤ c) && (decide (c ≤ n) && cutsOk (n - c) cs)
theorem cutsOk_neg (l : List Int) (n : Int) (h : n < 0) : cutsOk n l = false := by
  cases l with
  | nil => simp [cutsOk]; omega
  | cons c cs =>
    by_cases h1 : 1 ≤ c
    · have : ¬ c ≤ n := by omega
      simp [cutsOk, this]
    · simp [cutsOk, h1]
theorem cutsOk_len : ∀ (l : List Int) (n : Int), cutsOk n l = true → (l.length : Int) ≤ n
  | [], n, h => by simp [cutsOk] at h; simp [h]
  | c :: cs, n, h => by
    simp only [cutsOk, Bool.and_eq_true, decide_eq_true_eq] at h
    have := cutsOk_len cs (n - c) h.2.2
    simp only [List.length_cons]
    omega
def isCuts (n : Int) (l : List Int) : Bool := decide (1 ≤ n ∧ n ≤ 7) && cutsOk n l
theorem l6Cuts_l (n : Int) (l : List Int) (hn : l.length ≤ 17592186044416) : ∀ (d i : Nat) (s : Int), l.length = i + d → i ≤ 8 → (i : Int) ≤ s → s ≤ 7 * i → Ev (fun k => spec_l6Cuts.l0 k n l s i) (decide (1 ≤ n ∧ n ≤ 7) && cutsOk (n - s) (l.drop i))
  | 0, i, s, h, h8, hs, hs' => by
    refine Ev.step (fun k => by rw [spec_l6Cuts.l0]) ?_
    refine Ev.neg (by omega) ?_
    refine Ev.step (fun k => by rw [spec_l6Cuts.j1]) ?_
    refine Ev.neg (by simp) ?_
    simp only [l1In_is, Option.bind_some]
    refine Ev.ite (fun hc => Ev.val ?_) (fun hc => Ev.val ?_)
    · rw [hc, List.drop_of_length_le (by omega), cutsOk, Bool.true_and, Bool.eq_iff_iff]
      simp
      omega
    · rw [Bool.not_eq_true] at hc
      rw [hc, Bool.false_and]
  | d + 1, i, s, h, h8, hs, hs' => by
    refine Ev.step (fun k => by rw [spec_l6Cuts.l0]) ?_
    refine Ev.pos (by omega) ?_
    refine Ev.step (fun k => by rw [spec_l6Cuts.j1]) ?_
    rw [drop_step l i (by omega), cutsOk]
    simp only [l1In_is, Option.bind_some, decide_eq_true_eq, rd_nat]
    refine Ev.ite (fun h7 => Ev.pos (by omega) (Ev.pos (by omega) (Ev.ite (fun hc => ?_) (fun hc => Ev.val ?_)))) (fun h7 => Ev.ite (fun hc => Ev.val ?_) (fun hc => Ev.val ?_))
    · have e : wrap64 ((i : Int) + 1) = ((i + 1 : Nat) : Int) := by rw [w64 (by omega)]; omega
      have e1 : wrap64 (s + nth l i) = s + nth l i := w64 (by omega)
      simp only [e, e1]
      refine (l6Cuts_l n l hn d (i + 1) (s + nth l i) (by omega) (by omega) (by omega) (by omega)).to ?_
      rw [show n - (s + nth l i) = n - s - nth l i by omega]
      by_cases hle : nth l i ≤ n - s
      · simp [hle, hc.1]
      · rw [cutsOk_neg _ _ (by omega : n - s - nth l i < 0)]
        simp
    · by_cases h1 : 1 ≤ nth l i
      · by_cases hn7 : 1 ≤ n ∧ n ≤ 7
        · have : ¬ nth l i ≤ n - s := by omega
          simp [this]
        · simp [hn7]
      · simp [h1]
    · have h1 : ¬ (s = n) := by omega
      by_cases h2 : 1 ≤ nth l i
      · have : ¬ nth l i ≤ n - s := by omega
        simp [h1, this]
      · simp [h1, h2]
    · simp [hc]
theorem l6Cuts_ev (n : Int) (l : List Int) (hn : l.length ≤ 17592186044416) : Ev (fun k => spec_l6Cuts.f k n l) (isCuts n l) := by
  unfold spec_l6Cuts.f
  exact (l6Cuts_l n l hn l.length 0 0 (by omega) (by omega) (by omega) (by omega)).to (by simp [isCuts])
theorem areCuts_l (l : List Int) (hn : l.length ≤ 17592186044416) : ∀ (d i : Nat) (n : Int), l.length = i + d → 0 ≤ n → n ≤ 7 → Ev (fun k => impl_areCuts.l0 k n l (l.length : Int) i) (cutsOk n (l.drop i))
  | 0, i, n, h, h0, h7 => by
    refine Ev.step (fun k => by rw [impl_areCuts.l0]) ?_
    refine Ev.neg (by omega) (Ev.val ?_)
    rw [List.drop_of_length_le (by omega), cutsOk]
  | d + 1, i, n, h, h0, h7 => by
    refine Ev.step (fun k => by rw [impl_areCuts.l0]) ?_
    rw [drop_step l i (by omega), cutsOk]
    simp only [rd_nat]
    refine Ev.pos (by omega) (Ev.pos (by omega) (Ev.pos (by omega) (Ev.ite (fun hc => Ev.val ?_) (fun hc => Ev.ite (fun hd => Ev.val ?_) (fun hd => ?_)))))
    · have : ¬ 1 ≤ nth l i := by omega
      simp [this]
    · have : ¬ nth l i ≤ n := by omega
      simp [this]
    · have e : wrap64 ((i : Int) + 1) = ((i + 1 : Nat) : Int) := by rw [w64 (by omega)]; omega
      have e1 : wrap64 (n - nth l i) = n - nth l i := w64 (by omega)
      simp only [e, e1]
      refine (areCuts_l l hn d (i + 1) (n - nth l i) (by omega) (by omega) (by omega)).to ?_
      have h1 : 1 ≤ nth l i := by omega
      have h2 : nth l i ≤ n := by omega
      simp [h1, h2]
theorem areCuts_ev (n : Int) (l : List Int) (hn : l.length ≤ 17592186044416) : Ev (fun k => impl_areCuts.f k n l) (isCuts n l) := by
  unfold impl_areCuts.f
  simp only [isSize_is, Option.bind_some, decide_eq_true_eq]
  refine Ev.ite (fun hc => ?_) (fun hc => ?_)
  · refine Ev.step (fun k => by rw [impl_areCuts.j0]) ?_
    simp only [decide_eq_true_eq]
    refine Ev.ite (fun hd => Ev.val ?_) (fun hd => (areCuts_l l hn l.length 0 n (by omega) (by omega) (by omega)).to ?_)
    · cases h : cutsOk n l with
      | false => simp [isCuts, h]
      | true => have := cutsOk_len l n h; omega
    · simp [isCuts, hc]
  · refine Ev.step (fun k => by rw [impl_areCuts.j0]) ?_
    refine Ev.pos rfl (Ev.val ?_)
    simp [isCuts, hc]

theorem FnExactAreCuts : laws_FnExactAreCuts.Pure := by
  intro n l hw hm hr hl
  refine Ev.rounds (?_ : Ev (fun k => laws_FnExactAreCuts.f k n l) true)
  unfold laws_FnExactAreCuts.f spec_AreCuts.f impl_AreCuts.f
  refine Ev.ite (fun _ => Ev.val rfl) (fun hc => ?_)
  refine Ev.bind (toIntS_ev l (by omega)) ?_
  refine Ev.bind (Ev.bind (l6Cuts_ev n l (by omega)) (Ev.val rfl)) ?_
  refine Ev.bind (toIntS_ev l (by omega)) ?_
  refine Ev.bind (Ev.bind (areCuts_ev n l (by omega)) (Ev.val rfl)) ?_
  refine Ev.neg (by simp) ?_
  refine Ev.bind (toIntS_ev l (by omega)) ?_
  refine Ev.bind (eqIntS_ev l l (by omega)) ?_
  exact Ev.pos (by simp) (Ev.val rfl)

end Go.Proofs.Ytfoededcgeemcaa.Pure
