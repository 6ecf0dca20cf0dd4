/- The program's CountFallSweeps returns what the reference's returns, for every list. -/
import Derived.Test.YtgmhehgjmlokdaaPFnExactCountFallSweepsx6
import Derived.Test.YtgmhehgjmlokdaaK
set_option linter.unusedVariables false
set_option linter.unusedSimpArgs false
namespace Go.Proofs.Ytgmhehgjmlokdaa.Pure
open Go.RowKit Go.Proofs.Ytgmhehgjmlokdaa.PFnExactCountFallSweeps Go.Proofs.YtgmhehgjmlokdaaW.PrintWords Go.Proofs.YtgmhehgjmlokdaaW.PrintLast Go.Proofs.YtgmhehgjmlokdaaW.PrintMore

theorem toIntS_l (x0 : List Int) (hn : x0.length ≤ 17592186044416) : ∀ (d i : Nat) (x3 : List Int), x3.length = x0.length → x3.take i = x0.take i → x0.length = i + d → Ev (fun k => laws_toIntS.l0 k x0 x3 i) x0
  | 0, i, x3, h1, h2, h3 => by
    refine Ev.step (fun k => by rw [laws_toIntS.l0]) ?_
    refine Ev.neg (by omega) (Ev.val ?_)
    rw [List.take_of_length_le (by omega), List.take_of_length_le (by omega)] at h2
    exact h2
  | d + 1, i, x3, h1, h2, h3 => by
    refine Ev.step (fun k => by rw [laws_toIntS.l0]) ?_
    refine Ev.pos (by omega) (Ev.pos (by omega) (Ev.pos (by omega) ?_))
    have e : wrap64 ((i : Int) + 1) = ((i + 1 : Nat) : Int) := by rw [w64 (by omega)]; omega
    simp only [e, Int.toNat_natCast]
    exact toIntS_l x0 hn d (i + 1) _ (by simpa using h1) (by rw [take_set_succ _ _ _ (by omega), h2, take_step _ _ (by omega), rd_nat]) (by omega)
theorem toIntS_ev (l : List Int) (hn : l.length ≤ 17592186044416) : Ev (fun k => laws_toIntS.f k l) l := by
  unfold laws_toIntS.f
  refine Ev.pos (by omega) (Ev.pos (by omega) ?_)
  exact toIntS_l l hn l.length 0 _ (by simp) (by simp) (by omega)

theorem eqIntS_l (a b : List Int) (hn : a.length ≤ 17592186044416) (hl : a.length = b.length) : ∀ (d i : Nat), a.length = i + d → Ev (fun k => laws_eqIntS.l0 k a b i) (decide (a.drop i = b.drop i))
  | 0, i, h => by
    refine Ev.step (fun k => by rw [laws_eqIntS.l0]) ?_
    refine Ev.neg (by omega) (Ev.val ?_)
    rw [List.drop_of_length_le (by omega), List.drop_of_length_le (by omega)]
    simp
  | d + 1, i, h => by
    refine Ev.step (fun k => by rw [laws_eqIntS.l0]) ?_
    refine Ev.pos (by omega) (Ev.pos (by omega) (Ev.pos (by omega) ?_))
    have e : wrap64 ((i : Int) + 1) = ((i + 1 : Nat) : Int) := by rw [w64 (by omega)]; omega
    simp only [e]
    rw [drop_step a i (by omega), drop_step b i (by omega)]
    refine Ev.ite (fun hc => ?_) (fun hc => Ev.val ?_)
    · have hc' : nth a i = nth b i := hc
      refine (eqIntS_l a b hn hl d (i + 1) (by omega)).to ?_
      rw [hc']
      simp
    · have hc' : ¬ nth a i = nth b i := hc
      simp [hc']
theorem eqIntS_ev (a b : List Int) (hn : a.length ≤ 17592186044416) : Ev (fun k => laws_eqIntS.f k a b) (decide (a = b)) := by
  unfold laws_eqIntS.f
  refine Ev.ite (fun hc => ?_) (fun hc => Ev.val ?_)
  · exact (eqIntS_l a b hn (by omega) a.length 0 (by omega)).to (by simp)
  · have : ¬ a = b := fun h => hc (by rw [h])
    simp [this]

theorem l1In_is (a b c : Int) : spec_l1In.f a b c = some (decide (b ≤ a ∧ a ≤ c)) := by
  unfold spec_l1In.f
  by_cases h : a ≥ b
  · rw [if_pos h]; simp [h]
  · rw [if_neg h]; simp; omega

theorem l1Has_l (l : List Int) (x : Int) (hn : l.length ≤ 17592186044416) : ∀ (d i : Nat), l.length = i + d → Ev (fun k => spec_l1Has.l0 k l x i) ((l.drop i).contains x)
  | 0, i, h => by
    refine Ev.step (fun k => by rw [spec_l1Has.l0]) ?_
    refine Ev.neg (by omega) (Ev.val ?_)
    rw [List.drop_of_length_le (by omega)]
    simp
  | d + 1, i, h => by
    refine Ev.step (fun k => by rw [spec_l1Has.l0]) ?_
    have e : wrap64 ((i : Int) + 1) = ((i + 1 : Nat) : Int) := by rw [w64 (by omega)]; omega
    simp only [e]
    rw [drop_step l i (by omega)]
    refine Ev.pos (by omega) (Ev.pos (by omega) (Ev.ite (fun hc => Ev.val ?_) (fun hc => ?_)))
    · have hc' : nth l i = x := hc
      rw [hc']; simp
    · have hc' : ¬ nth l i = x := hc
      refine (l1Has_l l x hn d (i + 1) (by omega)).to ?_
      have : ¬ x = nth l i := fun h => hc' h.symm
      rw [List.contains_cons]
      simp [this]
theorem l1Has_ev (l : List Int) (x : Int) (hn : l.length ≤ 17592186044416) : Ev (fun k => spec_l1Has.f k l x) (l.contains x) := by
  unfold spec_l1Has.f
  exact (l1Has_l l x hn l.length 0 (by omega)).to (by simp)

theorem l2Order_l (l : List Int) (hn : l.length ≤ 17592186044416) : ∀ (d i : Nat), l.length = i + d → Ev (fun k => spec_l2Order.l0 k l i) (allFrom (ordAt l) d i)
  | 0, i, h => by
    refine Ev.step (fun k => by rw [spec_l2Order.l0]) ?_
    exact Ev.neg (by omega) (Ev.val rfl)
  | d + 1, i, h => by
    refine Ev.step (fun k => by rw [spec_l2Order.l0]) ?_
    have e : wrap64 ((i : Int) + 1) = ((i + 1 : Nat) : Int) := by rw [w64 (by omega)]; omega
    simp only [e, l1In_is, Option.bind_some, rd_nat, Int.toNat_natCast, decide_eq_true_eq]
    refine Ev.pos (by omega) (Ev.pos (by omega) (Ev.ite (fun hc => Ev.pos (by omega) ?_) (fun hc => Ev.val ?_)))
    · refine Ev.bind (l1Has_ev _ _ (by simp; omega)) ?_
      refine Ev.ite (fun hb => Ev.val ?_) (fun hb => (l2Order_l l hn d (i + 1) (by omega)).to ?_)
      · rw [allFrom, ordAt, hb]; simp
      · rw [Bool.not_eq_true] at hb
        rw [allFrom, ordAt, hb]; simp [hc]
    · rw [allFrom, ordAt]
      by_cases h1 : 1 ≤ nth l i
      · have : ¬ nth l i ≤ l.length := fun h2 => hc ⟨h1, h2⟩
        simp [this]
      · simp [h1]
theorem l2Order_ev (l : List Int) (hn : l.length ≤ 17592186044416) : Ev (fun k => spec_l2Order.f k l) (isOrd l) := by
  unfold spec_l2Order.f
  simp only [l1In_is, Option.bind_some, decide_eq_true_eq]
  refine Ev.ite (fun hc => (l2Order_l l hn l.length 0 (by omega)).to ?_) (fun hc => Ev.val ?_)
  · have h1 : 1 ≤ l.length := by omega
    have h2 : l.length ≤ 7 := by omega
    simp [isOrd, h1, h2]
  · rw [isOrd]
    by_cases h1 : 1 ≤ l.length
    · have : ¬ l.length ≤ 7 := by omega
      simp [this]
    · simp [h1]

theorem Index_l (l : List Int) (x : Int) (hn : l.length ≤ 17592186044416) : ∀ (d i : Nat), l.length = i + d → (∀ j, j < i → nth l j ≠ x) → Ev (fun k => slices_Index_int_int.l0 k l x (l.length : Int) i) (idx l x)
  | 0, i, h, hq => by
    refine Ev.step (fun k => by rw [slices_Index_int_int.l0]) ?_
    refine Ev.neg (by omega) (Ev.val ?_)
    exact (idx_none l x fun j hj => hq j (by omega)).symm
  | d + 1, i, h, hq => by
    refine Ev.step (fun k => by rw [slices_Index_int_int.l0]) ?_
    have e : wrap64 ((i : Int) + 1) = ((i + 1 : Nat) : Int) := by rw [w64 (by omega)]; omega
    simp only [e]
    refine Ev.pos (by omega) (Ev.pos (by omega) (Ev.pos (by omega) (Ev.ite (fun hc => Ev.val ?_) (fun hc => ?_))))
    · exact (idx_some l x i (by omega) (by rw [hc]; rfl) hq).symm
    · refine Index_l l x hn d (i + 1) (by omega) (fun j hj => ?_)
      by_cases e : j = i
      · subst e; exact fun h => hc h.symm
      · exact hq j (by omega)
theorem Index_ev (l : List Int) (x : Int) (hn : l.length ≤ 17592186044416) : Ev (fun k => slices_Index_int_int.f k l x) (idx l x) := by
  unfold slices_Index_int_int.f
  exact Index_l l x hn l.length 0 (by omega) (fun j hj => by omega)

theorem Contains_ev (l : List Int) (x : Int) (hn : l.length ≤ 17592186044416) : Ev (fun k => slices_Contains_int_int.f k l x) (l.contains x) := by
  unfold slices_Contains_int_int.f
  exact Ev.bind (Index_ev l x hn) (Ev.val (idx_contains l x))

theorem isOrder_l (l : List Int) (hn : l.length ≤ 17592186044416) : ∀ (d i : Nat), l.length = i + d → Ev (fun k => impl_isOrder.l0 k l l (l.length : Int) i) (allFrom (ordAt l) d i)
  | 0, i, h => by
    refine Ev.step (fun k => by rw [impl_isOrder.l0]) ?_
    exact Ev.neg (by omega) (Ev.val rfl)
  | d + 1, i, h => by
    refine Ev.step (fun k => by rw [impl_isOrder.l0]) ?_
    have e : wrap64 ((i : Int) + 1) = ((i + 1 : Nat) : Int) := by rw [w64 (by omega)]; omega
    simp only [e, rd_nat, Int.toNat_natCast]
    refine Ev.pos (by omega) (Ev.pos (by omega) (Ev.pos (by omega) (Ev.ite (fun hc => Ev.val ?_) (fun hc => Ev.ite (fun hd => Ev.val ?_) (fun hd => Ev.pos (by omega) ?_)))))
    · have : ¬ 1 ≤ nth l i := by omega
      rw [allFrom, ordAt]; simp [this]
    · have : ¬ nth l i ≤ l.length := by omega
      rw [allFrom, ordAt]; simp [this]
    · refine Ev.bind (Contains_ev _ _ (by simp; omega)) ?_
      refine Ev.ite (fun hb => Ev.val ?_) (fun hb => (isOrder_l l hn d (i + 1) (by omega)).to ?_)
      · rw [allFrom, ordAt, hb]; simp
      · rw [Bool.not_eq_true] at hb
        have h1 : 1 ≤ nth l i := by omega
        have h2 : nth l i ≤ l.length := by omega
        rw [allFrom, ordAt, hb]; simp [h1, h2]
theorem isOrder_ev (l : List Int) (hn : l.length ≤ 17592186044416) : Ev (fun k => impl_isOrder.f k l) (isOrd l) := by
  unfold impl_isOrder.f
  refine Ev.ite (fun hc => ?_) (fun hc => ?_)
  · refine Ev.step (fun k => by rw [impl_isOrder.j0]) ?_
    refine Ev.pos rfl (Ev.val ?_)
    have : ¬ 1 ≤ l.length := by omega
    simp [isOrd, this]
  · refine Ev.step (fun k => by rw [impl_isOrder.j0]) ?_
    simp only [decide_eq_true_eq]
    refine Ev.ite (fun hd => Ev.val ?_) (fun hd => (isOrder_l l hn l.length 0 (by omega)).to ?_)
    · have : ¬ l.length ≤ 7 := by omega
      simp [isOrd, this]
    · have h1 : 1 ≤ l.length := by omega
      have h2 : l.length ≤ 7 := by omega
      simp [isOrd, h1, h2]

/-! a check of all orders, by the kernel -/
def isOk : Option Bool → Bool
  | some true => true
  | _ => false
theorem isOk_some {o : Option Bool} (h : isOk o = true) : o = some true := by
  unfold isOk at h
  split at h
  · rfl
  · cases h
def allO (ns : List Int) (p : List Int → Bool) : Nat → List Int → Bool
  | 0, q => p q
  | d + 1, q => ns.all fun c => q.contains c || allO ns p d (c :: q)
theorem isOrd_drop {l : List Int} (h : isOrd l = true) (i : Nat) (hi : i < l.length) : nth l i ∉ l.drop (i + 1) := by
  intro hm
  obtain ⟨j, hj, e⟩ := List.mem_iff_getElem.1 hm
  rw [List.getElem_drop] at e
  simp only [List.length_drop] at hj
  refine (isOrd_at h (i + 1 + j) (by omega)).2.2 ?_
  rw [nth_lt l (i + 1 + j) (by omega), e, nth_lt l i hi, List.mem_take_iff_getElem]
  exact ⟨i, by omega, rfl⟩
theorem allO_mem {l : List Int} (h : isOrd l = true) (ns : List Int) (hns : ∀ x : Int, 1 ≤ x → x ≤ l.length → x ∈ ns) (p : List Int → Bool) : ∀ i, i ≤ l.length → allO ns p i (l.drop i) = true → p l = true
  | 0, _, hp => by simpa [allO] using hp
  | i + 1, hi, hp => by
    rw [allO, List.all_eq_true] at hp
    have ha := isOrd_at h i (by omega)
    have h1 := hp (nth l i) (hns _ ha.1 ha.2.1)
    have h2 : (l.drop (i + 1)).contains (nth l i) = false := by
      have := isOrd_drop h i (by omega)
      simpa using this
    rw [h2, Bool.false_or, ← drop_step l i (by omega)] at h1
    exact allO_mem h ns hns p i (by omega) h1
def intsTo (n : Nat) : List Int := ([1, 2, 3, 4, 5, 6, 7] : List Int).take n
theorem intsTo_mem : ∀ n : Nat, n ≤ 7 → ∀ x : Int, 1 ≤ x → x ≤ n → x ∈ intsTo n := by
  intro n hn x h1 h2
  have hx : x = 1 ∨ x = 2 ∨ x = 3 ∨ x = 4 ∨ x = 5 ∨ x = 6 ∨ x = 7 := by omega
  have hn' : n = 0 ∨ n = 1 ∨ n = 2 ∨ n = 3 ∨ n = 4 ∨ n = 5 ∨ n = 6 ∨ n = 7 := by omega
  rcases hn' with rfl | rfl | rfl | rfl | rfl | rfl | rfl | rfl <;> rcases hx with rfl | rfl | rfl | rfl | rfl | rfl | rfl <;> first | (exfalso; omega) | simp [intsTo]
theorem orders_all {l : List Int} (h : isOrd l = true) (p : List Int → Bool) (hp : ∀ n ∈ [1, 2, 3, 4, 5, 6, 7], allO (intsTo n) p n [] = true) : p l = true := by
  have hl := isOrd_len h
  have hm : l.length ∈ [1, 2, 3, 4, 5, 6, 7] := by
    have : l.length = 1 ∨ l.length = 2 ∨ l.length = 3 ∨ l.length = 4 ∨ l.length = 5 ∨ l.length = 6 ∨ l.length = 7 := by omega
    simp [this]
  refine allO_mem h (intsTo l.length) (fun x h1 h2 => intsTo_mem l.length hl.2 x h1 h2) p l.length (Nat.le_refl _) ?_
  rw [List.drop_length]
  exact hp _ hm

theorem l1Own_is (l : List Int) (h : l.length < 17592186044416) : spec_l1Own.f l = some l := by
  unfold spec_l1Own.f
  simp [h]

theorem l1Same_l (a b : List Int) (hn : a.length ≤ 17592186044416) (hl : a.length = b.length) : ∀ (d i : Nat), a.length = i + d → Ev (fun k => spec_l1Same.l0 k a b i) (decide (a.drop i = b.drop i))
  | 0, i, h => by
    refine Ev.step (fun k => by rw [spec_l1Same.l0]) (Ev.neg (by omega) (Ev.val ?_))
    rw [List.drop_of_length_le (by omega), List.drop_of_length_le (by omega)]; rfl
  | d + 1, i, h => by
    refine Ev.step (fun k => by rw [spec_l1Same.l0]) ?_
    have e : wrap64 ((i : Int) + 1) = ((i + 1 : Nat) : Int) := by rw [w64 (by omega)]; omega
    simp only [e]
    refine Ev.pos (by omega) (Ev.pos (by omega) (Ev.pos (by omega) (Ev.ite (fun hc => Ev.to (l1Same_l a b hn hl d (i + 1) (by omega)) ?_) (fun hc => Ev.val ?_))))
    · rw [drop_step a i (by omega), drop_step b i (by omega)]
      have hc' : nth a i = nth b i := hc
      simp [hc']
    · rw [drop_step a i (by omega), drop_step b i (by omega)]
      have hc' : ¬ nth a i = nth b i := hc
      simp [hc']
theorem l1Same_ev (a b : List Int) (hn : a.length ≤ 17592186044416) : Ev (fun k => spec_l1Same.f k a b) (decide (a = b)) := by
  unfold spec_l1Same.f
  by_cases hl : a.length = b.length
  · exact Ev.pos (by omega) (Ev.to (l1Same_l a b hn hl a.length 0 (by omega)) (by simp))
  · refine Ev.neg (by omega) (Ev.val ?_)
    have : a ≠ b := fun e => hl (by rw [e])
    simp [this]

/-! cuts: numbers of at least 1 whose sum is n -/
def cutsOk : Int → List Int → Bool
  | n, [] => n == 0
  | n, c :: cs => decide (1 ≤ c) && (decide (c ≤ n) && cutsOk (n - c) cs)
theorem cutsOk_neg (l : List Int) (n : Int) (h : n < 0) : cutsOk n l = false := by
  cases l with
  | nil => simp [cutsOk]; omega
  | cons c cs =>
    by_cases h1 : 1 ≤ c
    · have : ¬ c ≤ n := by omega
      simp [cutsOk, this]
    · simp [cutsOk, h1]
theorem cutsOk_len : ∀ (l : List Int) (n : Int), cutsOk n l = true → (l.length : Int) ≤ n
  | [], n, h => by simp [cutsOk] at h; simp [h]
  | c :: cs, n, h => by
    simp only [cutsOk, Bool.and_eq_true, decide_eq_true_eq] at h
    have := cutsOk_len cs (n - c) h.2.2
    simp only [List.length_cons]
    omega
def isCuts (n : Int) (l : List Int) : Bool := decide (1 ≤ n ∧ n ≤ 7) && cutsOk n l

/-! falls -/
def fallsL (l : List Int) : Nat → Nat → List Int → List Int
  | 0, _, acc => acc
  | d + 1, i, acc => if 0 < i ∧ nth l i < nth l (i - 1) then fallsL l d (i + 1) (acc.set (acc.length - 1) (wrap64 (nth acc (acc.length - 1) + 1))) else fallsL l d (i + 1) (acc ++ [1])
def fallsOf (l : List Int) : List Int := fallsL l l.length 0 []
theorem fallsL_length (l : List Int) : ∀ (d i : Nat) (acc : List Int), (fallsL l d i acc).length ≤ acc.length + d
  | 0, i, acc => Nat.le_refl _
  | d + 1, i, acc => by
    rw [fallsL]
    split
    · have := fallsL_length l d (i + 1) (acc.set (acc.length - 1) (wrap64 (nth acc (acc.length - 1) + 1))); simp at this ⊢; omega
    · have := fallsL_length l d (i + 1) (acc ++ [1]); simp at this ⊢; omega
theorem l6Falls_l (l : List Int) (hn : l.length ≤ 17592186044415) : ∀ (d i : Nat) (acc : List Int), l.length = i + d → acc.length ≤ i → (0 < i → 0 < acc.length) → Ev (fun k => spec_l6Falls.l0 k l acc i) (fallsL l d i acc)
  | 0, i, acc, h, ha, hp => by
    refine Ev.step (fun k => by rw [spec_l6Falls.l0]) ?_
    refine Ev.neg (by omega) (Ev.val rfl)
  | d + 1, i, acc, h, ha, hp => by
    refine Ev.step (fun k => by rw [spec_l6Falls.l0]) ?_
    refine Ev.pos (by omega) ?_
    have e : wrap64 ((i : Int) + 1) = ((i + 1 : Nat) : Int) := by rw [w64 (by omega)]; omega
    simp only [e]
    rw [fallsL]
    refine Ev.ite (fun hi => ?_) (fun hi => Ev.pos (by omega) ?_)
    · have h0 : 0 < i := by omega
      have hp := hp h0
      have e1 : wrap64 ((i : Int) - 1) = ((i - 1 : Nat) : Int) := by rw [w64 (by omega)]; omega
      have e2 : wrap64 ((acc.length : Int) - 1) = ((acc.length - 1 : Nat) : Int) := by rw [w64 (by omega)]; omega
      simp only [e1, e2, rd_nat, Int.toNat_natCast]
      refine Ev.pos (by omega) (Ev.pos (by omega) (Ev.pos (by omega) (Ev.ite (fun hc => Ev.pos (by omega) (Ev.pos (by omega) ?_)) (fun hc => Ev.pos (by omega) ?_))))
      · rw [if_pos ⟨h0, hc⟩]
        exact l6Falls_l l hn d (i + 1) _ (by omega) (by simp; omega) (fun _ => by simp; omega)
      · rw [if_neg (fun h => hc h.2)]
        exact l6Falls_l l hn d (i + 1) _ (by omega) (by simp; omega) (fun _ => by simp)
    · rw [if_neg (fun h => by omega)]
      exact l6Falls_l l hn d (i + 1) _ (by omega) (by simp; omega) (fun _ => by simp)
theorem l6Falls_ev (l : List Int) (hn : l.length ≤ 17592186044415) : Ev (fun k => spec_l6Falls.f k l) (fallsOf l) := by
  unfold spec_l6Falls.f
  exact l6Falls_l l hn l.length 0 [] (by omega) (by simp) (fun h => by omega)
theorem snoc_last (acc : List Int) (v w : Int) : (acc ++ [v]).set ((acc ++ [v]).length - 1) w = acc ++ [w] := by
  simp [List.set_append]
theorem fallsOf_l (l : List Int) (hn : l.length ≤ 17592186044415) (hne : ∀ i, 0 < i → i < l.length → nth l i ≠ nth l (i - 1)) : ∀ (d i : Nat) (acc : List Int), l.length = i + d → acc.length ≤ i → (0 < i → 0 < acc.length) → Ev (fun k => impl_fallsOf.l0 k l acc l (l.length : Int) i) (fallsL l d i acc)
  | 0, i, acc, h, ha, hp => by
    refine Ev.step (fun k => by rw [impl_fallsOf.l0]) ?_
    refine Ev.neg (by omega) (Ev.val rfl)
  | d + 1, i, acc, h, ha, hp => by
    refine Ev.step (fun k => by rw [impl_fallsOf.l0]) ?_
    refine Ev.pos (by omega) (Ev.pos (by omega) (Ev.pos (by omega) ?_))
    have e : wrap64 ((i : Int) + 1) = ((i + 1 : Nat) : Int) := by rw [w64 (by omega)]; omega
    have e3 : wrap64 (((acc ++ [0]).length : Int) - 1) = ((acc.length : Nat) : Int) := by rw [w64 (by simp; omega)]; simp
    have e4 : rd (acc ++ [0]) (acc.length : Nat) = 0 := by rw [rd_nat, nth_snoc]
    have e5 : wrap64 (0 + 1) = 1 := w64 (by omega)
    have e6 : (acc ++ [(0 : Int)]).set acc.length 1 = acc ++ [1] := by simp [List.set_append]
    simp only [e, Option.bind_some, e3, e4, e5, Int.toNat_natCast, e6]
    rw [fallsL]
    refine Ev.ite (fun hi => Ev.pos (by omega) (Ev.pos (by omega) (Ev.pos (by rw [List.length_append, List.length_singleton]; omega) ?_))) (fun hi => ?_)
    · rw [if_neg (fun h => by omega)]
      exact fallsOf_l l hn hne d (i + 1) _ (by omega) (by simp; omega) (fun _ => by simp)
    · have h0 : 0 < i := by omega
      have hp := hp h0
      have hne' := hne i h0 (by omega)
      have e1 : wrap64 ((i : Int) - 1) = ((i - 1 : Nat) : Int) := by rw [w64 (by omega)]; omega
      have e2 : wrap64 ((acc.length : Int) - 1) = ((acc.length - 1 : Nat) : Int) := by rw [w64 (by omega)]; omega
      simp only [e1, e2, rd_nat, Int.toNat_natCast]
      refine Ev.pos (by omega) (Ev.pos (by omega) (Ev.ite (fun hc => Ev.pos (by omega) (Ev.pos (by omega) (Ev.pos (by rw [List.length_append, List.length_singleton]; omega) ?_))) (fun hc => Ev.pos (by omega) (Ev.pos (by omega) ?_))))
      · rw [if_neg (fun h => by omega)]
        exact fallsOf_l l hn hne d (i + 1) _ (by omega) (by simp; omega) (fun _ => by simp)
      · rw [if_pos ⟨h0, by omega⟩]
        exact fallsOf_l l hn hne d (i + 1) _ (by omega) (by simp; omega) (fun _ => by simp; omega)
theorem isOrd_ne {l : List Int} (h : isOrd l = true) (i : Nat) (h0 : 0 < i) (hi : i < l.length) : nth l i ≠ nth l (i - 1) := by
  intro e
  refine (isOrd_at h i hi).2.2 ?_
  rw [e, nth_lt l (i - 1) (by omega)]
  rw [List.mem_take_iff_getElem]
  exact ⟨i - 1, by omega, rfl⟩
theorem fallsOf_ev (l : List Int) (h : isOrd l = true) : Ev (fun k => impl_fallsOf.f k l) (fallsOf l) := by
  have := isOrd_len h
  unfold impl_fallsOf.f
  exact fallsOf_l l (by omega) (isOrd_ne h) l.length 0 [] (by omega) (by simp) (fun h => by omega)

theorem l2Back_l (l : List Int) (hn : l.length ≤ 17592186044415) : ∀ (i : Nat) (acc : List Int), i ≤ l.length → acc.length + i ≤ l.length → Ev (fun k => spec_l2Back.l0 k l acc ((i : Int) - 1)) (acc ++ (l.take i).reverse)
  | 0, acc, hi, ha => by
    refine Ev.step (fun k => by rw [spec_l2Back.l0]) ?_
    exact Ev.neg (by omega) (Ev.val (by simp))
  | i + 1, acc, hi, ha => by
    have e : ((i + 1 : Nat) : Int) - 1 = (i : Int) := by omega
    have e2 : wrap64 ((i : Int) - 1) = (i : Int) - 1 := w64 (by omega)
    simp only [e]
    refine Ev.step (fun k => by rw [spec_l2Back.l0]) ?_
    simp only [e2, rd_nat]
    refine Ev.pos (by omega) (Ev.pos (by omega) (Ev.pos (by omega) (Ev.pos (by omega) ?_)))
    refine (l2Back_l l hn i (acc ++ [nth l i]) (by omega) (by simp; omega)).to ?_
    rw [take_step l i (by omega)]
    simp
theorem l2Back_ev (l : List Int) (hn : l.length ≤ 17592186044415) : Ev (fun k => spec_l2Back.f k l) l.reverse := by
  unfold spec_l2Back.f
  have e : wrap64 ((l.length : Int) - 1) = (l.length : Int) - 1 := w64 (by omega)
  simp only [e]
  refine (l2Back_l l hn l.length [] (Nat.le_refl _) (by simp)).to ?_
  simp

theorem nth_right (A B : List Int) (i : Nat) (h : A.length ≤ i) : nth (A ++ B) i = nth B (i - A.length) := by
  simp [nth, List.getD_eq_getElem?_getD, List.getElem?_append_right h]
theorem Reverse_l : ∀ (n : Nat) (A M B : List Int), M.length = n → (A ++ (M ++ B)).length ≤ 17592186044415 → Ev (fun k => slices_Reverse_int_int.l0 k (A ++ (M ++ B)) (A.length : Int) ((A.length : Int) + (M.length : Int) - 1)) (A ++ (M.reverse ++ B)) := by
  intro n
  induction n using Nat.strongRecOn with
  | _ n ih =>
    intro A M B hM hn
    by_cases h2 : n < 2
    · refine Ev.step (fun k => by rw [slices_Reverse_int_int.l0]) ?_
      refine Ev.neg (by omega) (Ev.val ?_)
      have : M = [] ∨ ∃ a, M = [a] := by
        rcases M with _ | ⟨a, _ | ⟨b, M⟩⟩
        · exact .inl rfl
        · exact .inr ⟨a, rfl⟩
        · simp at hM; omega
      rcases this with rfl | ⟨a, rfl⟩ <;> simp
    · obtain ⟨a, M', b, rfl⟩ : ∃ a M' b, M = a :: (M' ++ [b]) := by
        rcases M with _ | ⟨a, M⟩
        · simp at hM; omega
        · rcases List.eq_nil_or_concat M with rfl | ⟨M', b, rfl⟩
          · simp at hM; omega
          · exact ⟨a, M', b, by simp⟩
      have hl : M'.length + 2 = n := by simp at hM; omega
      have hn' : A.length + (M'.length + 2 + B.length) ≤ 17592186044415 := by simp at hn; omega
      refine Ev.step (fun k => by rw [slices_Reverse_int_int.l0]) ?_
      have e1 : (A.length : Int) + ((a :: (M' ++ [b])).length : Int) - 1 = ((A.length + 1 + M'.length : Nat) : Int) := by simp; omega
      have e2 : wrap64 ((A.length : Int) + 1) = ((A.length + 1 : Nat) : Int) := by rw [w64 (by omega)]; omega
      have e3 : wrap64 (((A.length + 1 + M'.length : Nat) : Int) - 1) = ((A.length + M'.length : Nat) : Int) := by rw [w64 (by omega)]; omega
      have g1 : nth (A ++ (a :: (M' ++ [b]) ++ B)) (A.length + 1 + M'.length) = b := by
        have : A ++ (a :: (M' ++ [b]) ++ B) = (A ++ a :: M') ++ (b :: B) := by simp
        rw [this, nth_right _ _ _ (by simp; omega)]
        have : A.length + 1 + M'.length - (A ++ a :: M').length = 0 := by simp; omega
        rw [this]; rfl
      have g2 : nth (A ++ (a :: (M' ++ [b]) ++ B)) A.length = a := by
        rw [nth_right _ _ _ (Nat.le_refl _)]
        simp [nth]
      have g3 : ((A ++ (a :: (M' ++ [b]) ++ B)).set A.length b).set (A.length + 1 + M'.length) a = (A ++ [b]) ++ (M' ++ (a :: B)) := by
        have h1 : (A ++ (a :: (M' ++ [b]) ++ B)).set A.length b = (A ++ b :: M') ++ (b :: B) := by
          rw [List.set_append_right _ _ (Nat.le_refl _)]; simp
        rw [h1, List.set_append_right _ _ (by simp; omega)]
        have : A.length + 1 + M'.length - (A ++ b :: M').length = 0 := by simp; omega
        rw [this]; simp
      simp only [e1, e2, e3, rd_nat, Int.toNat_natCast, g1, g2, g3]
      have hlen : (A ++ (a :: (M' ++ [b]) ++ B)).length = A.length + (M'.length + 2 + B.length) := by simp; omega
      refine Ev.pos (by omega) (Ev.pos (by omega) (Ev.pos (by rw [hlen]; omega) (Ev.pos (by omega) (Ev.pos (by rw [hlen]; omega) ?_))))
      have := ih M'.length (by omega) (A ++ [b]) M' (a :: B) rfl (by simp; omega)
      have e4 : ((A ++ [b]).length : Int) + (M'.length : Int) - 1 = ((A.length + M'.length : Nat) : Int) := by simp; omega
      have e5 : ((A ++ [b]).length : Int) = ((A.length + 1 : Nat) : Int) := by simp
      rw [e4, e5] at this
      refine this.to ?_
      simp
theorem Reverse_ev (l : List Int) (hn : l.length ≤ 17592186044415) : Ev (fun k => slices_Reverse_int_int.f k l) l.reverse := by
  unfold slices_Reverse_int_int.f
  have e : wrap64 ((l.length : Int) - 1) = (([] : List Int).length : Int) + (l.length : Int) - 1 := by rw [w64 (by omega)]; simp
  have := Reverse_l l.length [] l [] rfl (by simpa using hn)
  simp only [e]
  simpa using this
theorem back_ev (l : List Int) (hn : l.length ≤ 17592186044415) : Ev (fun k => impl_back.f k l) l.reverse := by
  unfold impl_back.f
  refine Ev.bind (a := l) ?_ (Ev.bind (Reverse_ev l hn) (Ev.val rfl))
  unfold slices_Clone_int_int.f
  exact Ev.pos (by omega) (Ev.val rfl)

/-! what comes out by cuts -/
def runL : List Int → List Int → List Int
  | _, [] => []
  | l, c :: cs => (l.take c.toNat).reverse ++ runL (l.drop c.toNat) cs
theorem runL_length : ∀ (cs l : List Int), (runL l cs).length ≤ l.length
  | [], l => by simp [runL]
  | c :: cs, l => by
    have := runL_length cs (l.drop c.toNat)
    simp [runL] at this ⊢
    omega
theorem l6Run_l (l cs : List Int) (hn : l.length ≤ 17592186044415) (hc : cs.length ≤ 17592186044415) : ∀ (d i f : Nat) (acc : List Int), cs.length = i + d → f ≤ l.length → acc.length = f → cutsOk ((l.length - f : Nat) : Int) (cs.drop i) = true → Ev (fun k => spec_l6Run.l0 k l cs acc f i) (acc ++ runL (l.drop f) (cs.drop i))
  | 0, i, f, acc, h, hf, ha, ho => by
    refine Ev.step (fun k => by rw [spec_l6Run.l0]) ?_
    refine Ev.neg (by omega) (Ev.val ?_)
    rw [List.drop_of_length_le (by omega : cs.length ≤ i)]
    simp [runL]
  | d + 1, i, f, acc, h, hf, ha, ho => by
    refine Ev.step (fun k => by rw [spec_l6Run.l0]) ?_
    rw [drop_step cs i (by omega)] at ho ⊢
    simp only [cutsOk, Bool.and_eq_true, decide_eq_true_eq] at ho
    obtain ⟨m, hm⟩ : ∃ m : Nat, nth cs i = m := ⟨(nth cs i).toNat, by omega⟩
    rw [hm] at ho ⊢
    have e : wrap64 ((i : Int) + 1) = ((i + 1 : Nat) : Int) := by rw [w64 (by omega)]; omega
    have e2 : wrap64 ((f : Int) + (m : Int)) = ((f + m : Nat) : Int) := by rw [w64 (by omega)]; omega
    simp only [rd_nat, hm, e, e2, Int.toNat_natCast]
    clear e e2
    refine Ev.pos (by omega) (Ev.pos (by omega) (Ev.pos (by omega) (Ev.pos (by omega) (Ev.pos (by omega) ?_))))
    have hd : (l.take (f + m)).drop f = (l.drop f).take m := by rw [List.drop_take]; congr 1; omega
    rw [hd]
    refine Ev.bind (l2Back_ev _ (by simp; omega)) (Ev.pos (by simp; omega) ?_)
    refine (l6Run_l l cs hn hc d (i + 1) (f + m) _ (by omega) (by omega) (by simp; omega) ?_).to ?_
    · have : ((l.length - (f + m) : Nat) : Int) = ((l.length - f : Nat) : Int) - (m : Int) := by omega
      rw [this]
      exact ho.2.2
    · simp [runL, List.drop_drop]
theorem l6Run_ev (l cs : List Int) (hn : l.length ≤ 17592186044415) (ho : isCuts (l.length : Int) cs = true) : Ev (fun k => spec_l6Run.f k l cs) (runL l cs) := by
  simp only [isCuts, Bool.and_eq_true, decide_eq_true_eq] at ho
  have := cutsOk_len _ _ ho.2
  unfold spec_l6Run.f
  exact l6Run_l l cs hn (by omega) cs.length 0 0 [] (by omega) (by omega) rfl ho.2
theorem runCuts_l (cs : List Int) (hc : cs.length ≤ 17592186044415) : ∀ (d i : Nat) (l acc : List Int), cs.length = i + d → l.length + acc.length ≤ 17592186044415 → cutsOk (l.length : Int) (cs.drop i) = true → Ev (fun k => impl_runCuts.l0 k l acc cs (cs.length : Int) i) (acc ++ runL l (cs.drop i))
  | 0, i, l, acc, h, hn, ho => by
    refine Ev.step (fun k => by rw [impl_runCuts.l0]) ?_
    refine Ev.neg (by omega) (Ev.val ?_)
    rw [List.drop_of_length_le (by omega : cs.length ≤ i)]
    simp [runL]
  | d + 1, i, l, acc, h, hn, ho => by
    refine Ev.step (fun k => by rw [impl_runCuts.l0]) ?_
    rw [drop_step cs i (by omega)] at ho ⊢
    simp only [cutsOk, Bool.and_eq_true, decide_eq_true_eq] at ho
    obtain ⟨m, hm⟩ : ∃ m : Nat, nth cs i = m := ⟨(nth cs i).toNat, by omega⟩
    rw [hm] at ho ⊢
    have e : wrap64 ((i : Int) + 1) = ((i + 1 : Nat) : Int) := by rw [w64 (by omega)]; omega
    simp only [rd_nat, hm, e, Int.toNat_natCast]
    clear e
    refine Ev.pos (by omega) (Ev.pos (by omega) (Ev.pos (by omega) (Ev.pos (by omega) (Ev.pos (by omega) ?_))))
    refine Ev.bind (back_ev _ (by simp; omega)) (Ev.pos (by simp; omega) ?_)
    refine (runCuts_l cs hc d (i + 1) (l.drop m) _ (by omega) (by simp; omega) ?_).to ?_
    · have : ((l.drop m).length : Int) = (l.length : Int) - (m : Int) := by simp; omega
      rw [this]
      exact ho.2.2
    · simp [runL]
theorem runCuts_ev (l cs : List Int) (hn : l.length ≤ 17592186044415) (ho : isCuts (l.length : Int) cs = true) : Ev (fun k => impl_runCuts.f k l cs) (runL l cs) := by
  simp only [isCuts, Bool.and_eq_true, decide_eq_true_eq] at ho
  have := cutsOk_len _ _ ho.2
  unfold impl_runCuts.f
  exact runCuts_l cs (by omega) cs.length 0 l [] (by omega) (by simpa using hn) ho.2

theorem l2Sorted_l (n : Nat) (hn : n ≤ 1000) : ∀ d i : Nat, n = i + d → Ev (fun k => spec_l2Sorted.l0 k n (marked 1 i) ((i : Int) + 1)) (marked 1 n)
  | 0, i, h => by
    refine Ev.step (fun k => by rw [spec_l2Sorted.l0]) (Ev.neg (by omega) (Ev.val ?_))
    rw [h, Nat.add_zero]
  | d + 1, i, h => by
    refine Ev.step (fun k => by rw [spec_l2Sorted.l0]) ?_
    have e : wrap64 ((i : Int) + 1 + 1) = ((i + 1 : Nat) : Int) + 1 := by rw [w64 (by omega)]; omega
    have e2 : marked 1 i ++ [(i : Int) + 1] = marked 1 (i + 1) := by rw [marked_snoc]; congr 2; omega
    simp only [e, e2]
    exact Ev.pos (by omega) (Ev.pos (by rw [marked_length]; omega) (l2Sorted_l n hn d (i + 1) (by omega)))
theorem l2Sorted_ev (n : Nat) (hn : n ≤ 1000) : Ev (fun k => spec_l2Sorted.f k n) (marked 1 n) := l2Sorted_l n hn n 0 (by omega)

/-! sorted lists -/
def sortedB (l : List Int) : Nat → Bool
  | 0 => true
  | i + 1 => if nth l (i + 1) < nth l i then false else sortedB l i
theorem cmpLess_is (a b : Int) : cmp_Less_int.f a b = some (decide (a < b)) := by
  unfold cmp_Less_int.f cmp_isNaN_int.f
  simp
theorem isSorted_l (l : List Int) (hn : l.length ≤ 17592186044416) : ∀ i : Nat, i < l.length → Ev (fun k => slices_IsSorted_int_int.l0 k l i) (sortedB l i)
  | 0, hi => by
    refine Ev.step (fun k => by rw [slices_IsSorted_int_int.l0]) (Ev.neg (by omega) (Ev.val ?_))
    rw [sortedB]
  | i + 1, hi => by
    refine Ev.step (fun k => by rw [slices_IsSorted_int_int.l0]) ?_
    have e : wrap64 (((i + 1 : Nat) : Int) - 1) = (i : Int) := by rw [w64 (by omega)]; omega
    simp only [e]
    clear e
    refine Ev.pos (by omega) (Ev.pos (by omega) (Ev.pos (by omega) (Ev.pos (by omega) (Ev.pos (by omega) ?_))))
    simp only [cmpLess_is, Option.bind_some, rd_nat]
    rw [sortedB]
    refine Ev.ite (fun hc => Ev.val ?_) (fun hc => ?_)
    · rw [decide_eq_true_eq] at hc; rw [if_pos hc]
    · rw [decide_eq_true_eq] at hc; rw [if_neg hc]; exact isSorted_l l hn i (by omega)
theorem isSorted_ev (l : List Int) (hn : l.length ≤ 17592186044416) (h0 : 0 < l.length) : Ev (fun k => impl_isSorted.f k l) (sortedB l (l.length - 1)) := by
  unfold impl_isSorted.f slices_IsSorted_int_int.f
  have e : wrap64 ((l.length : Int) - 1) = ((l.length - 1 : Nat) : Int) := by rw [w64 (by omega)]; omega
  simp only [e]
  exact Ev.bind (isSorted_l l hn _ (by omega)) (Ev.val rfl)

theorem cutsOk_of : ∀ (l : List Int) (n : Int), (∀ c ∈ l, 1 ≤ c) → l.sum = n → cutsOk n l = true ∧ 0 ≤ n
  | [], n, h, e => by simp at e; simp [cutsOk, ← e]
  | c :: cs, n, h, e => by
    have h1 := h c (by simp)
    rw [List.sum_cons] at e
    have h2 := cutsOk_of cs (n - c) (fun x hx => h x (by simp [hx])) (by omega)
    have h3 : c ≤ n := by omega
    exact ⟨by simp [cutsOk, h1, h3, h2.1], by omega⟩
theorem fallsL_cuts (l : List Int) : ∀ (d i : Nat) (acc : List Int), i + d ≤ 1000 → (0 < i → 0 < acc.length) → (∀ c ∈ acc, 1 ≤ c ∧ c ≤ i) → acc.sum = i → (∀ c ∈ fallsL l d i acc, 1 ≤ c) ∧ (fallsL l d i acc).sum = ((i + d : Nat) : Int)
  | 0, i, acc, hn, hp, ha, hs => ⟨fun c hc => (ha c hc).1, by simpa [fallsL] using hs⟩
  | d + 1, i, acc, hn, hp, ha, hs => by
    rw [fallsL]
    split
    · rename_i hi
      have hp := hp hi.1
      rcases List.eq_nil_or_concat acc with rfl | ⟨A, v, rfl⟩
      · simp at hp
      · rw [List.concat_eq_append] at *
        have hv := ha v (by simp)
        have e1 : nth (A ++ [v]) ((A ++ [v]).length - 1) = v := by simp [nth]
        have e2 : wrap64 (v + 1) = v + 1 := w64 (by omega)
        rw [e1, e2, snoc_last]
        have := fallsL_cuts l d (i + 1) (A ++ [v + 1]) (by omega) (fun _ => by simp) (fun c hc => by
          rw [List.mem_append] at hc
          rcases hc with hc | hc
          · have := ha c (by simp [hc]); omega
          · simp at hc; omega) (by simp at hs ⊢; omega)
        refine ⟨this.1, this.2.trans ?_⟩
        omega
    · have := fallsL_cuts l d (i + 1) (acc ++ [1]) (by omega) (fun _ => by simp) (fun c hc => by
        rw [List.mem_append] at hc
        rcases hc with hc | hc
        · have := ha c hc; omega
        · simp at hc; omega) (by simp; omega)
      refine ⟨this.1, this.2.trans ?_⟩
      omega
theorem fallsOf_cuts {l : List Int} (h : isOrd l = true) : isCuts (l.length : Int) (fallsOf l) = true := by
  have hl := isOrd_len h
  have := fallsL_cuts l l.length 0 [] (by omega) (fun h => by omega) (fun c hc => by simp at hc) (by simp)
  have h2 := cutsOk_of (fallsOf l) (l.length : Int) this.1 (by rw [fallsOf, this.2]; omega)
  simp only [isCuts, Bool.and_eq_true, decide_eq_true_eq]
  exact ⟨by omega, h2.1⟩
theorem l6Sweep_ev {l : List Int} (h : isOrd l = true) : Ev (fun k => spec_l6Sweep.f k l) (runL l (fallsOf l)) := by
  have := isOrd_len h
  unfold spec_l6Sweep.f
  exact Ev.bind (l6Falls_ev l (by omega)) (Ev.bind (l6Run_ev l _ (by omega) (fallsOf_cuts h)) (Ev.val rfl))
theorem fallSweep_ev {l : List Int} (h : isOrd l = true) : Ev (fun k => impl_fallSweep.f k l) (runL l (fallsOf l)) := by
  have := isOrd_len h
  unfold impl_fallSweep.f
  exact Ev.bind (fallsOf_ev l h) (Ev.bind (runCuts_ev l _ (by omega) (fallsOf_cuts h)) (Ev.val rfl))

def swp (l : List Int) : List Int := runL l (fallsOf l)
def val8 : List Int → Nat → Nat
  | [], a => a
  | x :: l, a => val8 l (8 * a + x.toNat)
def swpOk (l : List Int) : Bool := (isOrd (swp l) && ((swp l).length == l.length)) && ((sortedB l (l.length - 1) == decide (l = marked 1 l.length)) && (sortedB l (l.length - 1) || Nat.blt (val8 (swp l) 0) (val8 l 0)))

set_option maxRecDepth 100000 in
set_option maxHeartbeats 100000000 in
theorem swp_all_6 : ∀ n ∈ [1, 2, 3, 4, 5, 6], allO (intsTo n) swpOk n [] = true := by decide +kernel
set_option maxRecDepth 100000 in
set_option maxHeartbeats 100000000 in
theorem swp_all_71 : allO (intsTo 7) swpOk 6 [1] = true := by decide +kernel
set_option maxRecDepth 100000 in
set_option maxHeartbeats 100000000 in
theorem swp_all_72 : allO (intsTo 7) swpOk 6 [2] = true := by decide +kernel
set_option maxRecDepth 100000 in
set_option maxHeartbeats 100000000 in
theorem swp_all_73 : allO (intsTo 7) swpOk 6 [3] = true := by decide +kernel
set_option maxRecDepth 100000 in
set_option maxHeartbeats 100000000 in
theorem swp_all_74 : allO (intsTo 7) swpOk 6 [4] = true := by decide +kernel
set_option maxRecDepth 100000 in
set_option maxHeartbeats 100000000 in
theorem swp_all_75 : allO (intsTo 7) swpOk 6 [5] = true := by decide +kernel
set_option maxRecDepth 100000 in
set_option maxHeartbeats 100000000 in
theorem swp_all_76 : allO (intsTo 7) swpOk 6 [6] = true := by decide +kernel
set_option maxRecDepth 100000 in
set_option maxHeartbeats 100000000 in
theorem swp_all_77 : allO (intsTo 7) swpOk 6 [7] = true := by decide +kernel
theorem swp_all : ∀ n ∈ [1, 2, 3, 4, 5, 6, 7], allO (intsTo n) swpOk n [] = true := by
  intro n hn
  by_cases h7 : n = 7
  · subst h7
    rw [allO]
    simp only [show intsTo 7 = [1, 2, 3, 4, 5, 6, 7] from rfl, List.all_cons, List.all_nil, List.contains_nil, Bool.false_or, Bool.and_true, Bool.and_eq_true]
    exact ⟨swp_all_71, swp_all_72, swp_all_73, swp_all_74, swp_all_75, swp_all_76, swp_all_77⟩
  · exact swp_all_6 n (by simp at hn ⊢; omega)

theorem swp_of {l : List Int} (h : isOrd l = true) : isOrd (swp l) = true ∧ (swp l).length = l.length ∧ (sortedB l (l.length - 1) = decide (l = marked 1 l.length)) ∧ (sortedB l (l.length - 1) = true ∨ val8 (swp l) 0 < val8 l 0) := by
  have := orders_all h _ swp_all
  simp only [swpOk, Bool.and_eq_true, Bool.or_eq_true, beq_iff_eq] at this
  refine ⟨this.1.1, this.1.2, this.2.1, this.2.2.imp id fun h => ?_⟩
  simpa [Nat.blt_eq] using h
/-- how many sweeps: from a value of at most d on -/
def swps : Nat → List Int → Int → Int
  | 0, _, m => m
  | d + 1, l, m => if sortedB l (l.length - 1) = true then m else swps d (swp l) (wrap64 (m + 1))
theorem specSweeps_l (n : Nat) (hn : n ≤ 7) : ∀ (d : Nat) (l0 l : List Int) (m : Int), l0.length = n → isOrd l = true → l.length = n → val8 l 0 < d → Ev (fun k => spec_l6Sweeps.l0 k l0 m l) (swps d l m)
  | 0, _, _, _, _, _, _, h => absurd h (Nat.not_lt_zero _)
  | d + 1, l0, l, m, h0, ho, hl, hd => by
    obtain ⟨a1, a2, a3, a4⟩ := swp_of ho
    refine Ev.step (fun k => by rw [spec_l6Sweeps.l0]) ?_
    rw [h0]
    refine Ev.bind (l2Sorted_ev n (by omega)) (Ev.bind (l1Same_ev _ _ (by omega)) ?_)
    rw [swps, a3, hl]
    refine Ev.ite (fun hc => Ev.val ?_) (fun hc => ?_)
    · rw [if_pos hc]
    · rw [if_neg hc]
      rw [a3, hl] at a4
      exact Ev.bind (l6Sweep_ev ho) (specSweeps_l n hn d l0 (swp l) _ h0 a1 (by omega) (a4.elim (fun a4 => absurd a4 hc) (fun a4 => by omega)))
theorem implSweeps_l (n : Nat) (hn : n ≤ 7) : ∀ (d : Nat) (l : List Int) (m : Int), isOrd l = true → l.length = n → val8 l 0 < d → Ev (fun k => impl_fallSweeps.l0 k l m) (swps d l m)
  | 0, _, _, _, _, h => absurd h (Nat.not_lt_zero _)
  | d + 1, l, m, ho, hl, hd => by
    obtain ⟨a1, a2, a3, a4⟩ := swp_of ho
    have hlen := isOrd_len ho
    refine Ev.step (fun k => by rw [impl_fallSweeps.l0]) ?_
    refine Ev.bind (isSorted_ev l (by omega) (by omega)) ?_
    rw [swps]
    refine Ev.ite (fun hc => Ev.val ?_) (fun hc => ?_)
    · rw [if_pos hc]
    · rw [if_neg hc]
      exact Ev.bind (fallSweep_ev ho) (implSweeps_l n hn d (swp l) _ a1 (by omega) (a4.elim (fun a4 => absurd a4 hc) (fun a4 => by omega)))
def resCountFallSweeps (l : List Int) : Int := if isOrd l then swps (val8 l 0 + 1) l 0 else 0
theorem specCountFallSweeps_ev (l : List Int) (hn : l.length ≤ 17592186044415) : Ev (fun k => spec_CountFallSweeps.f k l) (resCountFallSweeps l, isOrd l) := by
  unfold spec_CountFallSweeps.f
  refine Ev.bind (l2Order_ev l (by omega)) (Ev.ite (fun hc => ?_) (fun hc => Ev.val ?_))
  · have hlen := isOrd_len hc
    unfold spec_l6Sweeps.f
    simp only [l1Own_is l (by omega), Option.bind_some]
    refine Ev.bind (specSweeps_l l.length hlen.2 (val8 l 0 + 1) l l 0 rfl hc rfl (by omega)) (Ev.val ?_)
    simp [resCountFallSweeps, hc]
  · rw [Bool.not_eq_true] at hc; simp [resCountFallSweeps, hc]
theorem implCountFallSweeps_ev (l : List Int) (hn : l.length ≤ 17592186044415) : Ev (fun k => impl_CountFallSweeps.f k l) (resCountFallSweeps l, isOrd l) := by
  unfold impl_CountFallSweeps.f
  refine Ev.bind (isOrder_ev l (by omega)) (Ev.ite (fun hc => ?_) (fun hc => Ev.val ?_))
  · have hlen := isOrd_len hc
    unfold impl_fallSweeps.f
    refine Ev.bind (implSweeps_l l.length hlen.2 (val8 l 0 + 1) l 0 hc rfl (by omega)) (Ev.val ?_)
    simp [resCountFallSweeps, hc]
  · rw [Bool.not_eq_true] at hc; simp [resCountFallSweeps, hc]

/-! one number or bool out of an order: both sides come to the same -/
theorem FnExactCountFallSweeps : laws_FnExactCountFallSweeps.Pure := by
  intro l hm hr hw
  refine Ev.rounds (?_ : Ev (fun k => laws_FnExactCountFallSweeps.f k l) true)
  unfold laws_FnExactCountFallSweeps.f
  refine Ev.ite (fun _ => Ev.val rfl) (fun hc => ?_)
  refine Ev.bind (toIntS_ev l (by omega)) ?_
  refine Ev.bind (specCountFallSweeps_ev l (by omega)) ?_
  refine Ev.bind (toIntS_ev l (by omega)) ?_
  refine Ev.bind (implCountFallSweeps_ev l (by omega)) ?_
  refine Ev.pos (by simp) ?_
  refine Ev.step (fun k => by rw [laws_FnExactCountFallSweeps.j0]) ?_
  refine Ev.neg (by simp) ?_
  refine Ev.bind (toIntS_ev l (by omega)) ?_
  exact Ev.bind (eqIntS_ev l l (by omega)) (Ev.pos (by simp) (Ev.val rfl))

end Go.Proofs.Ytgmhehgjmlokdaa.Pure
