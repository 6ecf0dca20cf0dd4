/- The program's CutsWord returns what the reference's returns, for every list. -/
import Derived.Test.YtgmhehgjmlokdaaPFnExactCutsWordx5
import Derived.Test.YtgmhehgjmlokdaaK
set_option linter.unusedVariables false
set_option linter.unusedSimpArgs false
namespace Go.Proofs.Ytgmhehgjmlokdaa.Pure
open Go.RowKit Go.Proofs.Ytgmhehgjmlokdaa.PFnExactCutsWord Go.Proofs.YtgmhehgjmlokdaaW.PrintWords Go.Proofs.YtgmhehgjmlokdaaW.PrintLast Go.Proofs.YtgmhehgjmlokdaaW.PrintMore

theorem toIntS_l (x0 : List Int) (hn : x0.length ≤ 17592186044416) : ∀ (d i : Nat) (x3 : List Int), x3.length = x0.length → x3.take i = x0.take i → x0.length = i + d → Ev (fun k => laws_toIntS.l0 k x0 x3 i) x0
  | 0, i, x3, h1, h2, h3 => by
    refine Ev.step (fun k => by rw [laws_toIntS.l0]) ?_
    refine Ev.neg (by omega) (Ev.val ?_)
    rw [List.take_of_length_le (by omega), List.take_of_length_le (by omega)] at h2
    exact h2
  | d + 1, i, x3, h1, h2, h3 => by
    refine Ev.step (fun k => by rw [laws_toIntS.l0]) ?_
    refine Ev.pos (by omega) (Ev.pos (by omega) (Ev.pos (by omega) ?_))
    have e : wrap64 ((i : Int) + 1) = ((i + 1 : Nat) : Int) := by rw [w64 (by omega)]; omega
    simp only [e, Int.toNat_natCast]
    exact toIntS_l x0 hn d (i + 1) _ (by simpa using h1) (by rw [take_set_succ _ _ _ (by omega), h2, take_step _ _ (by omega), rd_nat]) (by omega)
theorem toIntS_ev (l : List Int) (hn : l.length ≤ 17592186044416) : Ev (fun k => laws_toIntS.f k l) l := by
  unfold laws_toIntS.f
  refine Ev.pos (by omega) (Ev.pos (by omega) ?_)
  exact toIntS_l l hn l.length 0 _ (by simp) (by simp) (by omega)

theorem eqIntS_l (a b : List Int) (hn : a.length ≤ 17592186044416) (hl : a.length = b.length) : ∀ (d i : Nat), a.length = i + d → Ev (fun k => laws_eqIntS.l0 k a b i) (decide (a.drop i = b.drop i))
  | 0, i, h => by
    refine Ev.step (fun k => by rw [laws_eqIntS.l0]) ?_
    refine Ev.neg (by omega) (Ev.val ?_)
    rw [List.drop_of_length_le (by omega), List.drop_of_length_le (by omega)]
    simp
  | d + 1, i, h => by
    refine Ev.step (fun k => by rw [laws_eqIntS.l0]) ?_
    refine Ev.pos (by omega) (Ev.pos (by omega) (Ev.pos (by omega) ?_))
    have e : wrap64 ((i : Int) + 1) = ((i + 1 : Nat) : Int) := by rw [w64 (by omega)]; omega
    simp only [e]
    rw [drop_step a i (by omega), drop_step b i (by omega)]
    refine Ev.ite (fun hc => ?_) (fun hc => Ev.val ?_)
    · have hc' : nth a i = nth b i := hc
      refine (eqIntS_l a b hn hl d (i + 1) (by omega)).to ?_
      rw [hc']
      simp
    · have hc' : ¬ nth a i = nth b i := hc
      simp [hc']
theorem eqIntS_ev (a b : List Int) (hn : a.length ≤ 17592186044416) : Ev (fun k => laws_eqIntS.f k a b) (decide (a = b)) := by
  unfold laws_eqIntS.f
  refine Ev.ite (fun hc => ?_) (fun hc => Ev.val ?_)
  · exact (eqIntS_l a b hn (by omega) a.length 0 (by omega)).to (by simp)
  · have : ¬ a = b := fun h => hc (by rw [h])
    simp [this]

theorem l1In_is (a b c : Int) : spec_l1In.f a b c = some (decide (b ≤ a ∧ a ≤ c)) := by
  unfold spec_l1In.f
  by_cases h : a ≥ b
  · rw [if_pos h]; simp [h]
  · rw [if_neg h]; simp; omega

theorem isSize_is (a : Int) : impl_isSize.f a = some (decide (1 ≤ a ∧ a ≤ 7)) := by
  unfold impl_isSize.f
  by_cases h : a ≥ 1
  · rw [if_pos h]; simp [h]
  · rw [if_neg h]; simp; omega

/-! cuts: numbers of at least 1 whose sum is n -/
def cutsOk : Int → List Int → Bool
  | n, [] => n == 0
  | n, c :: cs => decide (1 ≤ c) && (decide (c ≤ n) && cutsOk (n - c) cs)
theorem cutsOk_neg (l : List Int) (n : Int) (h : n < 0) : cutsOk n l = false := by
  cases l with
  | nil => simp [cutsOk]; omega
  | cons c cs =>
    by_cases h1 : 1 ≤ c
    · have : ¬ c ≤ n := by omega
      simp [cutsOk, this]
    · simp [cutsOk, h1]
theorem cutsOk_len : ∀ (l : List Int) (n : Int), cutsOk n l = true → (l.length : Int) ≤ n
  | [], n, h => by simp [cutsOk] at h; simp [h]
  | c :: cs, n, h => by
    simp only [cutsOk, Bool.and_eq_true, decide_eq_true_eq] at h
    have := cutsOk_len cs (n - c) h.2.2
    simp only [List.length_cons]
    omega
def isCuts (n : Int) (l : List Int) : Bool := decide (1 ≤ n ∧ n ≤ 7) && cutsOk n l
theorem l6Cuts_l (n : Int) (l : List Int) (hn : l.length ≤ 17592186044416) : ∀ (d i : Nat) (s : Int), l.length = i + d → i ≤ 8 → (i : Int) ≤ s → s ≤ 7 * i → Ev (fun k => spec_l6Cuts.l0 k n l s i) (decide (1 ≤ n ∧ n ≤ 7) && cutsOk (n - s) (l.drop i))
  | 0, i, s, h, h8, hs, hs' => by
    refine Ev.step (fun k => by rw [spec_l6Cuts.l0]) ?_
    refine Ev.neg (by omega) ?_
    refine Ev.step (fun k => by rw [spec_l6Cuts.j1]) ?_
    refine Ev.neg (by simp) ?_
    simp only [l1In_is, Option.bind_some]
    refine Ev.ite (fun hc => Ev.val ?_) (fun hc => Ev.val ?_)
    · rw [hc, List.drop_of_length_le (by omega), cutsOk, Bool.true_and, Bool.eq_iff_iff]
      simp
      omega
    · rw [Bool.not_eq_true] at hc
      rw [hc, Bool.false_and]
  | d + 1, i, s, h, h8, hs, hs' => by
    refine Ev.step (fun k => by rw [spec_l6Cuts.l0]) ?_
    refine Ev.pos (by omega) ?_
    refine Ev.step (fun k => by rw [spec_l6Cuts.j1]) ?_
    rw [drop_step l i (by omega), cutsOk]
    simp only [l1In_is, Option.bind_some, decide_eq_true_eq, rd_nat]
    refine Ev.ite (fun h7 => Ev.pos (by omega) (Ev.pos (by omega) (Ev.ite (fun hc => ?_) (fun hc => Ev.val ?_)))) (fun h7 => Ev.ite (fun hc => Ev.val ?_) (fun hc => Ev.val ?_))
    · have e : wrap64 ((i : Int) + 1) = ((i + 1 : Nat) : Int) := by rw [w64 (by omega)]; omega
      have e1 : wrap64 (s + nth l i) = s + nth l i := w64 (by omega)
      simp only [e, e1]
      refine (l6Cuts_l n l hn d (i + 1) (s + nth l i) (by omega) (by omega) (by omega) (by omega)).to ?_
      rw [show n - (s + nth l i) = n - s - nth l i by omega]
      by_cases hle : nth l i ≤ n - s
      · simp [hle, hc.1]
      · rw [cutsOk_neg _ _ (by omega : n - s - nth l i < 0)]
        simp
    · by_cases h1 : 1 ≤ nth l i
      · by_cases hn7 : 1 ≤ n ∧ n ≤ 7
        · have : ¬ nth l i ≤ n - s := by omega
          simp [this]
        · simp [hn7]
      · simp [h1]
    · have h1 : ¬ (s = n) := by omega
      by_cases h2 : 1 ≤ nth l i
      · have : ¬ nth l i ≤ n - s := by omega
        simp [h1, this]
      · simp [h1, h2]
    · simp [hc]
theorem l6Cuts_ev (n : Int) (l : List Int) (hn : l.length ≤ 17592186044416) : Ev (fun k => spec_l6Cuts.f k n l) (isCuts n l) := by
  unfold spec_l6Cuts.f
  exact (l6Cuts_l n l hn l.length 0 0 (by omega) (by omega) (by omega) (by omega)).to (by simp [isCuts])
theorem areCuts_l (l : List Int) (hn : l.length ≤ 17592186044416) : ∀ (d i : Nat) (n : Int), l.length = i + d → 0 ≤ n → n ≤ 7 → Ev (fun k => impl_areCuts.l0 k n l (l.length : Int) i) (cutsOk n (l.drop i))
  | 0, i, n, h, h0, h7 => by
    refine Ev.step (fun k => by rw [impl_areCuts.l0]) ?_
    refine Ev.neg (by omega) (Ev.val ?_)
    rw [List.drop_of_length_le (by omega), cutsOk]
  | d + 1, i, n, h, h0, h7 => by
    refine Ev.step (fun k => by rw [impl_areCuts.l0]) ?_
    rw [drop_step l i (by omega), cutsOk]
    simp only [rd_nat]
    refine Ev.pos (by omega) (Ev.pos (by omega) (Ev.pos (by omega) (Ev.ite (fun hc => Ev.val ?_) (fun hc => Ev.ite (fun hd => Ev.val ?_) (fun hd => ?_)))))
    · have : ¬ 1 ≤ nth l i := by omega
      simp [this]
    · have : ¬ nth l i ≤ n := by omega
      simp [this]
    · have e : wrap64 ((i : Int) + 1) = ((i + 1 : Nat) : Int) := by rw [w64 (by omega)]; omega
      have e1 : wrap64 (n - nth l i) = n - nth l i := w64 (by omega)
      simp only [e, e1]
      refine (areCuts_l l hn d (i + 1) (n - nth l i) (by omega) (by omega) (by omega)).to ?_
      have h1 : 1 ≤ nth l i := by omega
      have h2 : nth l i ≤ n := by omega
      simp [h1, h2]
theorem areCuts_ev (n : Int) (l : List Int) (hn : l.length ≤ 17592186044416) : Ev (fun k => impl_areCuts.f k n l) (isCuts n l) := by
  unfold impl_areCuts.f
  simp only [isSize_is, Option.bind_some, decide_eq_true_eq]
  refine Ev.ite (fun hc => ?_) (fun hc => ?_)
  · refine Ev.step (fun k => by rw [impl_areCuts.j0]) ?_
    simp only [decide_eq_true_eq]
    refine Ev.ite (fun hd => Ev.val ?_) (fun hd => (areCuts_l l hn l.length 0 n (by omega) (by omega) (by omega)).to ?_)
    · cases h : cutsOk n l with
      | false => simp [isCuts, h]
      | true => have := cutsOk_len l n h; omega
    · simp [isCuts, hc]
  · refine Ev.step (fun k => by rw [impl_areCuts.j0]) ?_
    refine Ev.pos rfl (Ev.val ?_)
    simp [isCuts, hc]

def cutsF : Nat → Nat → List (List Int)
  | 0, _ => [[]]
  | _ + 1, 0 => [[]]
  | f + 1, n + 1 => (List.range (n + 1)).flatMap fun c => (cutsF f (n - c)).map fun r => ((c + 1 : Nat) : Int) :: r
theorem cutsOk_zero (l : List Int) (h : cutsOk 0 l = true) : l = [] := by
  cases l with
  | nil => rfl
  | cons c cs =>
    simp only [cutsOk, Bool.and_eq_true, decide_eq_true_eq] at h
    omega
theorem cutsF_mem : ∀ (f n : Nat) (l : List Int), n ≤ f → cutsOk (n : Int) l = true → l ∈ cutsF f n
  | 0, n, l, hn, h => by
    obtain rfl : n = 0 := by omega
    rw [cutsOk_zero l h]; simp [cutsF]
  | f + 1, 0, l, hn, h => by
    rw [cutsOk_zero l h]; simp [cutsF]
  | f + 1, n + 1, [], hn, h => by simp [cutsOk] at h; omega
  | f + 1, n + 1, c :: cs, hn, h => by
    simp only [cutsOk, Bool.and_eq_true, decide_eq_true_eq] at h
    obtain ⟨m, rfl⟩ : ∃ m : Nat, c = ((m + 1 : Nat) : Int) := ⟨(c - 1).toNat, by omega⟩
    have hm : m ≤ n := by omega
    have hc : cutsOk ((n - m : Nat) : Int) cs = true := by
      have e : ((n + 1 : Nat) : Int) - ((m + 1 : Nat) : Int) = ((n - m : Nat) : Int) := by omega
      rw [← e]; exact h.2.2
    rw [cutsF, List.mem_flatMap]
    exact ⟨m, by simp; omega, List.mem_map.2 ⟨cs, cutsF_mem f (n - m) cs (by omega) hc, rfl⟩⟩
theorem cutsF_of (n : Int) (l : List Int) (h : isCuts n l = true) : ∃ m ∈ [1, 2, 3, 4, 5, 6, 7], l ∈ cutsF 8 m := by
  simp only [isCuts, Bool.and_eq_true, decide_eq_true_eq] at h
  obtain ⟨m, rfl⟩ : ∃ m : Nat, n = m := ⟨n.toNat, by omega⟩
  refine ⟨m, ?_, cutsF_mem 8 m l (by omega) h.2⟩
  have : m = 1 ∨ m = 2 ∨ m = 3 ∨ m = 4 ∨ m = 5 ∨ m = 6 ∨ m = 7 := by omega
  simp [this]

theorem at_each : ∀ m ∈ [1, 2, 3, 4, 5, 6, 7], ∀ l ∈ cutsF 8 m, laws_FnExactCutsWord.f 1000 l = some true := by decide +kernel
theorem specBad_l (l : List Int) (hn : l.length ≤ 17592186044416) (hb : ∀ n, isCuts n l = false) : ∀ (d i : Nat) (s : Int), l.length = i + d → i ≤ 8 → 0 ≤ s → s ≤ 7 * i → Ev (fun k => spec_CutsWord.l0 k l s i) ((⟨#[]⟩ : ByteArray), false)
  | 0, i, s, h, h8, h0, h1 => by
    refine Ev.step (fun k => by rw [spec_CutsWord.l0]) ?_
    refine Ev.neg (by omega) ?_
    refine Ev.step (fun k => by rw [spec_CutsWord.j1]) ?_
    refine Ev.neg (by simp) ?_
    refine Ev.bind (l6Cuts_ev s l hn) ?_
    rw [hb s]
    exact Ev.neg (by simp) (Ev.val rfl)
  | d + 1, i, s, h, h8, h0, h1 => by
    refine Ev.step (fun k => by rw [spec_CutsWord.l0]) ?_
    refine Ev.pos (by omega) ?_
    refine Ev.step (fun k => by rw [spec_CutsWord.j1]) ?_
    simp only [l1In_is, Option.bind_some, decide_eq_true_eq, rd_nat]
    refine Ev.ite (fun h7 => Ev.pos (by omega) (Ev.pos (by omega) (Ev.ite (fun hc => ?_) (fun hc => Ev.val rfl)))) (fun h7 => ?_)
    · have e : wrap64 ((i : Int) + 1) = ((i + 1 : Nat) : Int) := by rw [w64 (by omega)]; omega
      have e1 : wrap64 (s + nth l i) = s + nth l i := w64 (by omega)
      simp only [e, e1]
      exact specBad_l l hn hb d (i + 1) _ (by omega) (by omega) (by omega) (by omega)
    · refine Ev.bind (l6Cuts_ev s l hn) ?_
      rw [hb s]
      exact Ev.neg (by simp) (Ev.val rfl)
theorem implBad_l (l : List Int) (hn : l.length ≤ 17592186044416) (hb : ∀ n, isCuts n l = false) : ∀ (d i : Nat) (s : Int), l.length = i + d → 0 ≤ s → s ≤ 14 → Ev (fun k => impl_RankOfCuts.l0 k s l (l.length : Int) i l) (0, false)
  | 0, i, s, h, h0, h1 => by
    refine Ev.step (fun k => by rw [impl_RankOfCuts.l0]) ?_
    refine Ev.neg (by omega) ?_
    refine Ev.bind (areCuts_ev s l hn) ?_
    rw [hb s]
    exact Ev.neg (by simp) (Ev.val rfl)
  | d + 1, i, s, h, h0, h1 => by
    refine Ev.step (fun k => by rw [impl_RankOfCuts.l0]) ?_
    simp only [rd_nat]
    refine Ev.pos (by omega) (Ev.pos (by omega) (Ev.pos (by omega) (Ev.ite (fun _ => Ev.val rfl) (fun hc => Ev.ite (fun _ => Ev.val rfl) (fun hd => Ev.ite (fun _ => Ev.val rfl) (fun he => ?_))))))
    have e : wrap64 ((i : Int) + 1) = ((i + 1 : Nat) : Int) := by rw [w64 (by omega)]; omega
    have e1 : wrap64 (s + nth l i) = s + nth l i := w64 (by omega)
    simp only [e, e1]
    exact implBad_l l hn hb d (i + 1) _ (by omega) (by omega) (by omega)
theorem FnExactCutsWord : laws_FnExactCutsWord.Pure := by
  intro l hm hr hw
  by_cases hv : ∃ n, isCuts n l = true
  · obtain ⟨n, hn⟩ := hv
    obtain ⟨m, h1, h2⟩ := cutsF_of n l hn
    exact ⟨1000, at_each m h1 l h2⟩
  · have hb : ∀ n, isCuts n l = false := fun n => by rw [← Bool.not_eq_true]; exact fun h => hv ⟨n, h⟩
    refine Ev.rounds (?_ : Ev (fun k => laws_FnExactCutsWord.f k l) true)
    unfold laws_FnExactCutsWord.f
    refine Ev.ite (fun _ => Ev.val rfl) (fun hc => ?_)
    refine Ev.bind (toIntS_ev l (by omega)) ?_
    refine Ev.bind (a := ((⟨#[]⟩ : ByteArray), false)) ?_ ?_
    · unfold spec_CutsWord.f
      exact specBad_l l (by omega) hb l.length 0 0 (by omega) (by omega) (by omega) (by omega)
    refine Ev.bind (toIntS_ev l (by omega)) ?_
    refine Ev.bind (a := ((⟨#[]⟩ : ByteArray), false)) ?_ ?_
    · unfold impl_CutsWord.f
      refine Ev.bind (a := (0, false)) ?_ (Ev.neg (by simp) (Ev.val rfl))
      unfold impl_RankOfCuts.f
      exact implBad_l l (by omega) hb l.length 0 0 (by omega) (by omega) (by omega)
    refine Ev.pos rfl ?_
    refine Ev.step (fun k => by rw [laws_FnExactCutsWord.j0]) ?_
    refine Ev.neg (by simp) ?_
    refine Ev.bind (toIntS_ev l (by omega)) ?_
    refine Ev.bind (eqIntS_ev l l (by omega)) ?_
    exact Ev.pos (by simp) (Ev.val rfl)

end Go.Proofs.Ytgmhehgjmlokdaa.Pure
