/- The program's MostFallSweeps returns what the reference's returns, for every number, in memory of its own. -/
import Derived.Test.YtgmhehgjmlokdaaPFnExactMostFallSweepsx7
import Derived.Test.YtgmhehgjmlokdaaK
set_option linter.unusedVariables false
set_option linter.unusedSimpArgs false
namespace Go.Proofs.Ytgmhehgjmlokdaa.Pure
open Go.RowKit Go.Proofs.Ytgmhehgjmlokdaa.PFnExactMostFallSweeps Go.Proofs.YtgmhehgjmlokdaaW.PrintWords Go.Proofs.YtgmhehgjmlokdaaW.PrintLast Go.Proofs.YtgmhehgjmlokdaaW.PrintMore

theorem eqIntS_l (a b : List Int) (hn : a.length ≤ 17592186044416) (hl : a.length = b.length) : ∀ (d i : Nat), a.length = i + d → Ev (fun k => laws_eqIntS.l0 k a b i) (decide (a.drop i = b.drop i))
  | 0, i, h => by
    refine Ev.step (fun k => by rw [laws_eqIntS.l0]) ?_
    refine Ev.neg (by omega) (Ev.val ?_)
    rw [List.drop_of_length_le (by omega), List.drop_of_length_le (by omega)]
    simp
  | d + 1, i, h => by
    refine Ev.step (fun k => by rw [laws_eqIntS.l0]) ?_
    refine Ev.pos (by omega) (Ev.pos (by omega) (Ev.pos (by omega) ?_))
    have e : wrap64 ((i : Int) + 1) = ((i + 1 : Nat) : Int) := by rw [w64 (by omega)]; omega
    simp only [e]
    rw [drop_step a i (by omega), drop_step b i (by omega)]
    refine Ev.ite (fun hc => ?_) (fun hc => Ev.val ?_)
    · have hc' : nth a i = nth b i := hc
      refine (eqIntS_l a b hn hl d (i + 1) (by omega)).to ?_
      rw [hc']
      simp
    · have hc' : ¬ nth a i = nth b i := hc
      simp [hc']
theorem eqIntS_ev (a b : List Int) (hn : a.length ≤ 17592186044416) : Ev (fun k => laws_eqIntS.f k a b) (decide (a = b)) := by
  unfold laws_eqIntS.f
  refine Ev.ite (fun hc => ?_) (fun hc => Ev.val ?_)
  · exact (eqIntS_l a b hn (by omega) a.length 0 (by omega)).to (by simp)
  · have : ¬ a = b := fun h => hc (by rw [h])
    simp [this]

theorem markIntS_l : ∀ (d i : Nat) (x0 : List Int) (x1 : Int), x0.length = i + d → x0.length ≤ 17592186044416 → -1000000000000000000 ≤ x1 → x1 + d ≤ 1000000000000000000 → Ev (fun k => laws_markIntS.l0 k x0 x1 i) (x1 + d, x0.take i ++ marked x1 d)
  | 0, i, x0, x1, h, hn, h1, h2 => by
    refine Ev.step (fun k => by rw [laws_markIntS.l0]) ?_
    refine Ev.neg (by omega) (Ev.val ?_)
    rw [List.take_of_length_le (by omega)]
    simp [marked]
  | d + 1, i, x0, x1, h, hn, h1, h2 => by
    refine Ev.step (fun k => by rw [laws_markIntS.l0]) ?_
    refine Ev.pos (by omega) (Ev.pos (by omega) ?_)
    have e : wrap64 ((i : Int) + 1) = ((i + 1 : Nat) : Int) := by rw [w64 (by omega)]; omega
    have e1 : wrap64 (x1 + 1) = x1 + 1 := w64 (by omega)
    simp only [e, e1, Int.toNat_natCast]
    refine (markIntS_l d (i + 1) (x0.set i x1) (x1 + 1) (by simpa using (by omega)) (by simpa using hn) (by omega) (by omega)).to ?_
    rw [take_set_succ _ _ _ (by omega)]
    simp [marked]
    omega
theorem markIntS_ev (l : List Int) (a : Int) (hn : l.length ≤ 17592186044416) (h1 : -1000000000000000 ≤ a) (h2 : a ≤ 1000000000000000) : Ev (fun k => laws_markIntS.f k l a) (a + l.length, marked a l.length) := by
  unfold laws_markIntS.f
  exact (markIntS_l l.length 0 l a (by omega) hn (by omega) (by omega)).to (by simp)

theorem heldIntS_l (n : Nat) (a : Int) (hn : n ≤ 17592186044416) (h1 : -1000000000000000 ≤ a) (h2 : a ≤ 1000000000000000) : ∀ (d i : Nat), n = i + d → Ev (fun k => laws_heldIntS.l0 k (marked a n) (a + i) i) (a + n)
  | 0, i, h => by
    refine Ev.step (fun k => by rw [laws_heldIntS.l0]) ?_
    refine Ev.neg (by rw [marked_length]; omega) (Ev.val ?_)
    omega
  | d + 1, i, h => by
    refine Ev.step (fun k => by rw [laws_heldIntS.l0]) ?_
    refine Ev.pos (by rw [marked_length]; omega) (Ev.pos (by omega) (Ev.pos (by rw [rd_nat, marked_nth n a i (by omega)]) ?_))
    have e : wrap64 ((i : Int) + 1) = ((i + 1 : Nat) : Int) := by rw [w64 (by omega)]; omega
    have e1 : wrap64 (a + i + 1) = a + ((i + 1 : Nat) : Int) := by rw [w64 (by omega)]; omega
    simp only [e, e1]
    exact heldIntS_l n a hn h1 h2 d (i + 1) (by omega)
theorem heldIntS_ev (n : Nat) (a : Int) (hn : n ≤ 17592186044416) (h1 : -1000000000000000 ≤ a) (h2 : a ≤ 1000000000000000) : Ev (fun k => laws_heldIntS.f k (marked a n) a) (a + n) := by
  unfold laws_heldIntS.f
  have := heldIntS_l n a hn h1 h2 n 0 (by omega)
  rw [show a + ((0 : Nat) : Int) = a by omega] at this
  exact this

theorem l1In_is (a b c : Int) : spec_l1In.f a b c = some (decide (b ≤ a ∧ a ≤ c)) := by
  unfold spec_l1In.f
  by_cases h : a ≥ b
  · rw [if_pos h]; simp [h]
  · rw [if_neg h]; simp; omega

/-! a check of all orders, by the kernel -/
def isOk : Option Bool → Bool
  | some true => true
  | _ => false
theorem isOk_some {o : Option Bool} (h : isOk o = true) : o = some true := by
  unfold isOk at h
  split at h
  · rfl
  · cases h
def allO (ns : List Int) (p : List Int → Bool) : Nat → List Int → Bool
  | 0, q => p q
  | d + 1, q => ns.all fun c => q.contains c || allO ns p d (c :: q)
theorem isOrd_drop {l : List Int} (h : isOrd l = true) (i : Nat) (hi : i < l.length) : nth l i ∉ l.drop (i + 1) := by
  intro hm
  obtain ⟨j, hj, e⟩ := List.mem_iff_getElem.1 hm
  rw [List.getElem_drop] at e
  simp only [List.length_drop] at hj
  refine (isOrd_at h (i + 1 + j) (by omega)).2.2 ?_
  rw [nth_lt l (i + 1 + j) (by omega), e, nth_lt l i hi, List.mem_take_iff_getElem]
  exact ⟨i, by omega, rfl⟩
theorem allO_mem {l : List Int} (h : isOrd l = true) (ns : List Int) (hns : ∀ x : Int, 1 ≤ x → x ≤ l.length → x ∈ ns) (p : List Int → Bool) : ∀ i, i ≤ l.length → allO ns p i (l.drop i) = true → p l = true
  | 0, _, hp => by simpa [allO] using hp
  | i + 1, hi, hp => by
    rw [allO, List.all_eq_true] at hp
    have ha := isOrd_at h i (by omega)
    have h1 := hp (nth l i) (hns _ ha.1 ha.2.1)
    have h2 : (l.drop (i + 1)).contains (nth l i) = false := by
      have := isOrd_drop h i (by omega)
      simpa using this
    rw [h2, Bool.false_or, ← drop_step l i (by omega)] at h1
    exact allO_mem h ns hns p i (by omega) h1
def intsTo (n : Nat) : List Int := ([1, 2, 3, 4, 5, 6, 7] : List Int).take n
theorem intsTo_mem : ∀ n : Nat, n ≤ 7 → ∀ x : Int, 1 ≤ x → x ≤ n → x ∈ intsTo n := by
  intro n hn x h1 h2
  have hx : x = 1 ∨ x = 2 ∨ x = 3 ∨ x = 4 ∨ x = 5 ∨ x = 6 ∨ x = 7 := by omega
  have hn' : n = 0 ∨ n = 1 ∨ n = 2 ∨ n = 3 ∨ n = 4 ∨ n = 5 ∨ n = 6 ∨ n = 7 := by omega
  rcases hn' with rfl | rfl | rfl | rfl | rfl | rfl | rfl | rfl <;> rcases hx with rfl | rfl | rfl | rfl | rfl | rfl | rfl <;> first | (exfalso; omega) | simp [intsTo]
theorem orders_all {l : List Int} (h : isOrd l = true) (p : List Int → Bool) (hp : ∀ n ∈ [1, 2, 3, 4, 5, 6, 7], allO (intsTo n) p n [] = true) : p l = true := by
  have hl := isOrd_len h
  have hm : l.length ∈ [1, 2, 3, 4, 5, 6, 7] := by
    have : l.length = 1 ∨ l.length = 2 ∨ l.length = 3 ∨ l.length = 4 ∨ l.length = 5 ∨ l.length = 6 ∨ l.length = 7 := by omega
    simp [this]
  refine allO_mem h (intsTo l.length) (fun x h1 h2 => intsTo_mem l.length hl.2 x h1 h2) p l.length (Nat.le_refl _) ?_
  rw [List.drop_length]
  exact hp _ hm

/-! how many orders; all orders -/
def facN (n : Nat) : Nat := [1, 1, 2, 6, 24, 120, 720, 5040].getD n 1
theorem facN_pos (n : Nat) : 0 < facN n := by
  rcases Nat.lt_or_ge n 8 with h | h
  · have : n = 0 ∨ n = 1 ∨ n = 2 ∨ n = 3 ∨ n = 4 ∨ n = 5 ∨ n = 6 ∨ n = 7 := by omega
    rcases this with rfl | rfl | rfl | rfl | rfl | rfl | rfl | rfl <;> decide
  · unfold facN
    rw [List.getD_eq_getElem?_getD, List.getElem?_eq_none (by simpa using h)]
    decide
theorem facN_le (n : Nat) : facN n ≤ 5040 := by
  rcases Nat.lt_or_ge n 8 with h | h
  · have : n = 0 ∨ n = 1 ∨ n = 2 ∨ n = 3 ∨ n = 4 ∨ n = 5 ∨ n = 6 ∨ n = 7 := by omega
    rcases this with rfl | rfl | rfl | rfl | rfl | rfl | rfl | rfl <;> decide
  · unfold facN
    rw [List.getD_eq_getElem?_getD, List.getElem?_eq_none (by simpa using h)]
    decide
theorem facN_succ (n : Nat) (h : n ≤ 6) : facN (n + 1) = (n + 1) * facN n := by
  have : n = 0 ∨ n = 1 ∨ n = 2 ∨ n = 3 ∨ n = 4 ∨ n = 5 ∨ n = 6 := by omega
  rcases this with rfl | rfl | rfl | rfl | rfl | rfl | rfl <;> decide
def atM : Nat → List Int → Nat → List Int
  | 0, _, _ => []
  | d + 1, left, k => nth left (k / facN d) :: atM d (left.take (k / facN d) ++ left.drop (k / facN d + 1)) (k % facN d)
theorem atM_length : ∀ (d : Nat) (left : List Int) (k : Nat), (atM d left k).length = d
  | 0, _, _ => rfl
  | d + 1, left, k => by rw [atM, List.length_cons, atM_length d]
def ordsM (n : Nat) : List (List Int) := (List.range (facN n)).map fun k => atM n (marked 1 n) k
theorem ordsM_length (n : Nat) : (ordsM n).length = facN n := by simp [ordsM]
theorem ordsM_len (n : Nat) (l : List Int) (h : l ∈ ordsM n) : l.length = n := by
  obtain ⟨k, _, rfl⟩ := List.mem_map.1 h
  exact atM_length n _ k
theorem tdiv_nat (a b : Nat) : Int.tdiv (a : Int) (b : Int) = ((a / b : Nat) : Int) := (Int.ofNat_tdiv a b).symm
theorem tmod_nat (a b : Nat) : Int.tmod (a : Int) (b : Int) = ((a % b : Nat) : Int) := (Int.ofNat_tmod a b).symm
theorem div_lt_of (d k : Nat) (hd : d ≤ 6) (h : k < facN (d + 1)) : k / facN d < d + 1 := by
  rw [Nat.div_lt_iff_lt_mul (facN_pos d), ← facN_succ d hd]
  exact h

theorem l1Own_is (l : List Int) (h : l.length < 17592186044416) : spec_l1Own.f l = some l := by
  unfold spec_l1Own.f
  simp [h]

theorem l1Same_l (a b : List Int) (hn : a.length ≤ 17592186044416) (hl : a.length = b.length) : ∀ (d i : Nat), a.length = i + d → Ev (fun k => spec_l1Same.l0 k a b i) (decide (a.drop i = b.drop i))
  | 0, i, h => by
    refine Ev.step (fun k => by rw [spec_l1Same.l0]) (Ev.neg (by omega) (Ev.val ?_))
    rw [List.drop_of_length_le (by omega), List.drop_of_length_le (by omega)]; rfl
  | d + 1, i, h => by
    refine Ev.step (fun k => by rw [spec_l1Same.l0]) ?_
    have e : wrap64 ((i : Int) + 1) = ((i + 1 : Nat) : Int) := by rw [w64 (by omega)]; omega
    simp only [e]
    refine Ev.pos (by omega) (Ev.pos (by omega) (Ev.pos (by omega) (Ev.ite (fun hc => Ev.to (l1Same_l a b hn hl d (i + 1) (by omega)) ?_) (fun hc => Ev.val ?_))))
    · rw [drop_step a i (by omega), drop_step b i (by omega)]
      have hc' : nth a i = nth b i := hc
      simp [hc']
    · rw [drop_step a i (by omega), drop_step b i (by omega)]
      have hc' : ¬ nth a i = nth b i := hc
      simp [hc']
theorem l1Same_ev (a b : List Int) (hn : a.length ≤ 17592186044416) : Ev (fun k => spec_l1Same.f k a b) (decide (a = b)) := by
  unfold spec_l1Same.f
  by_cases hl : a.length = b.length
  · exact Ev.pos (by omega) (Ev.to (l1Same_l a b hn hl a.length 0 (by omega)) (by simp))
  · refine Ev.neg (by omega) (Ev.val ?_)
    have : a ≠ b := fun e => hl (by rw [e])
    simp [this]

theorem l2Sorted_l (n : Nat) (hn : n ≤ 1000) : ∀ d i : Nat, n = i + d → Ev (fun k => spec_l2Sorted.l0 k n (marked 1 i) ((i : Int) + 1)) (marked 1 n)
  | 0, i, h => by
    refine Ev.step (fun k => by rw [spec_l2Sorted.l0]) (Ev.neg (by omega) (Ev.val ?_))
    rw [h, Nat.add_zero]
  | d + 1, i, h => by
    refine Ev.step (fun k => by rw [spec_l2Sorted.l0]) ?_
    have e : wrap64 ((i : Int) + 1 + 1) = ((i + 1 : Nat) : Int) + 1 := by rw [w64 (by omega)]; omega
    have e2 : marked 1 i ++ [(i : Int) + 1] = marked 1 (i + 1) := by rw [marked_snoc]; congr 2; omega
    simp only [e, e2]
    exact Ev.pos (by omega) (Ev.pos (by rw [marked_length]; omega) (l2Sorted_l n hn d (i + 1) (by omega)))
theorem l2Sorted_ev (n : Nat) (hn : n ≤ 1000) : Ev (fun k => spec_l2Sorted.f k n) (marked 1 n) := l2Sorted_l n hn n 0 (by omega)

theorem sorted_l (n : Nat) (hn : n ≤ 1000) : ∀ d i : Nat, n = i + d → Ev (fun k => impl_sorted.l0 k (marked 1 i) n i) (marked 1 n)
  | 0, i, h => by
    refine Ev.step (fun k => by rw [impl_sorted.l0]) (Ev.neg (by omega) (Ev.val ?_))
    rw [h, Nat.add_zero]
  | d + 1, i, h => by
    refine Ev.step (fun k => by rw [impl_sorted.l0]) ?_
    have e : wrap64 ((i : Int) + 1) = ((i + 1 : Nat) : Int) := by rw [w64 (by omega)]; omega
    have e2 : marked 1 i ++ [((i + 1 : Nat) : Int)] = marked 1 (i + 1) := by rw [marked_snoc]; congr 2; omega
    simp only [e, e2]
    exact Ev.pos (by omega) (Ev.pos (by rw [marked_length]; omega) (sorted_l n hn d (i + 1) (by omega)))
theorem sorted_ev (n : Nat) (hn : n ≤ 1000) : Ev (fun k => impl_sorted.f k n) (marked 1 n) := sorted_l n hn n 0 (by omega)

/-! sorted lists -/
def sortedB (l : List Int) : Nat → Bool
  | 0 => true
  | i + 1 => if nth l (i + 1) < nth l i then false else sortedB l i
theorem cmpLess_is (a b : Int) : cmp_Less_int.f a b = some (decide (a < b)) := by
  unfold cmp_Less_int.f cmp_isNaN_int.f
  simp
theorem isSorted_l (l : List Int) (hn : l.length ≤ 17592186044416) : ∀ i : Nat, i < l.length → Ev (fun k => slices_IsSorted_int_int.l0 k l i) (sortedB l i)
  | 0, hi => by
    refine Ev.step (fun k => by rw [slices_IsSorted_int_int.l0]) (Ev.neg (by omega) (Ev.val ?_))
    rw [sortedB]
  | i + 1, hi => by
    refine Ev.step (fun k => by rw [slices_IsSorted_int_int.l0]) ?_
    have e : wrap64 (((i + 1 : Nat) : Int) - 1) = (i : Int) := by rw [w64 (by omega)]; omega
    simp only [e]
    clear e
    refine Ev.pos (by omega) (Ev.pos (by omega) (Ev.pos (by omega) (Ev.pos (by omega) (Ev.pos (by omega) ?_))))
    simp only [cmpLess_is, Option.bind_some, rd_nat]
    rw [sortedB]
    refine Ev.ite (fun hc => Ev.val ?_) (fun hc => ?_)
    · rw [decide_eq_true_eq] at hc; rw [if_pos hc]
    · rw [decide_eq_true_eq] at hc; rw [if_neg hc]; exact isSorted_l l hn i (by omega)
theorem isSorted_ev (l : List Int) (hn : l.length ≤ 17592186044416) (h0 : 0 < l.length) : Ev (fun k => impl_isSorted.f k l) (sortedB l (l.length - 1)) := by
  unfold impl_isSorted.f slices_IsSorted_int_int.f
  have e : wrap64 ((l.length : Int) - 1) = ((l.length - 1 : Nat) : Int) := by rw [w64 (by omega)]; omega
  simp only [e]
  exact Ev.bind (isSorted_l l hn _ (by omega)) (Ev.val rfl)

theorem l2Ways_ev (n : Nat) (h : n ≤ 7) : Ev (fun k => spec_l2Ways.f k (n : Int)) (facN n : Int) := by
  have : n = 0 ∨ n = 1 ∨ n = 2 ∨ n = 3 ∨ n = 4 ∨ n = 5 ∨ n = 6 ∨ n = 7 := by omega
  rcases this with rfl | rfl | rfl | rfl | rfl | rfl | rfl | rfl <;> exact Ev.of (fun k => spec_l2Ways.mono _ k) (k := 10) (by decide +kernel)
theorem l2At_l : ∀ (d : Nat) (left acc : List Int) (k : Nat), left.length = d → d ≤ 7 → acc.length + d ≤ 100 → k < facN d → Ev (fun q => spec_l2At.l0 q (k : Int) acc left) (acc ++ atM d left k)
  | 0, left, acc, k, hl, hd, ha, hk => by
    refine Ev.step (fun q => by rw [spec_l2At.l0]) (Ev.neg (by omega) (Ev.val ?_))
    rw [atM, List.append_nil]
  | d + 1, left, acc, k, hl, hd, ha, hk => by
    refine Ev.step (fun q => by rw [spec_l2At.l0]) (Ev.pos (by omega) ?_)
    have e1 : wrap64 ((left.length : Int) - 1) = (d : Int) := by rw [w64 (by omega)]; omega
    rw [e1]
    clear e1
    refine Ev.bind (l2Ways_ev d (by omega)) (Ev.neg (by have := facN_pos d; omega) ?_)
    have hq := div_lt_of d k (by omega) hk
    have h5 := facN_le (d + 1)
    have e2 : wrap64 (Int.tdiv (k : Int) (facN d : Int)) = ((k / facN d : Nat) : Int) := by rw [tdiv_nat]; exact w64n _ (by have := Nat.div_le_self k (facN d); omega)
    have hmod := Nat.mod_lt k (facN_pos d)
    simp only [e2, tmod_nat]
    rw [atM]
    clear e2 hk
    generalize k / facN d = qq at hq ⊢
    generalize k % facN d = k2 at hmod ⊢
    have e3 : wrap64 ((qq : Int) + 1) = ((qq + 1 : Nat) : Int) := by rw [w64 (by omega)]; omega
    simp only [e3, Int.toNat_natCast, rd_nat]
    clear e3
    refine Ev.pos (by omega) (Ev.pos (by omega) (Ev.pos (by omega) (Ev.pos (by omega) ?_)))
    have h1 : (left.take qq).length < 17592186044416 := by rw [List.length_take]; omega
    simp only [l1Own_is _ h1, Option.bind_some]
    refine Ev.pos (by omega) (Ev.pos (by omega) (Ev.pos (by rw [List.length_take, List.length_drop]; omega) ?_))
    refine Ev.to (l2At_l d _ _ k2 (by rw [List.length_append, List.length_take, List.length_drop]; omega) (by omega) (by rw [List.length_append, List.length_singleton]; omega) hmod) ?_
    rw [List.append_assoc]; rfl
theorem l2At_ev (n k : Nat) (hn : n ≤ 7) (hk : k < facN n) : Ev (fun q => spec_l2At.f q (n : Int) (k : Int)) (atM n (marked 1 n) k) := by
  unfold spec_l2At.f
  exact Ev.bind (l2Sorted_ev n (by omega)) (Ev.to (l2At_l n _ [] k (marked_length n 1) hn (by simp; omega) hk) (List.nil_append _))
theorem l2Orders_l (n : Nat) (hn : n ≤ 7) : ∀ (d i : Nat), facN n = i + d → Ev (fun q => spec_l2Orders.l0 q (n : Int) ((List.range i).map fun k => atM n (marked 1 n) k) (i : Int)) (ordsM n)
  | 0, i, h => by
    refine Ev.step (fun q => by rw [spec_l2Orders.l0]) ?_
    refine Ev.bind (l2Ways_ev n hn) ?_
    refine Ev.neg (by omega) (Ev.val ?_)
    rw [ordsM, h, Nat.add_zero]
  | d + 1, i, h => by
    have h5 := facN_le n
    refine Ev.step (fun q => by rw [spec_l2Orders.l0]) ?_
    refine Ev.bind (l2Ways_ev n hn) ?_
    refine Ev.pos (by omega) ?_
    refine Ev.bind (l2At_ev n i hn (by omega)) ?_
    refine Ev.pos (by rw [List.length_map, List.length_range]; omega) ?_
    have e : wrap64 ((i : Int) + 1) = ((i + 1 : Nat) : Int) := by rw [w64 (by omega)]; omega
    have e2 : ((List.range i).map fun k => atM n (marked 1 n) k) ++ [atM n (marked 1 n) i] = (List.range (i + 1)).map fun k => atM n (marked 1 n) k := by rw [List.range_succ, List.map_append]; rfl
    simp only [e, e2]
    exact l2Orders_l n hn d (i + 1) (by omega)
theorem l2Orders_ev (n : Nat) (hn : n ≤ 7) : Ev (fun q => spec_l2Orders.f q (n : Int)) (ordsM n) := by
  unfold spec_l2Orders.f
  exact l2Orders_l n hn (facN n) 0 (by omega)

theorem factorial_ev (n : Nat) (h : n ≤ 7) : Ev (fun k => impl_factorial.f k (n : Int)) (facN n : Int) := by
  have : n = 0 ∨ n = 1 ∨ n = 2 ∨ n = 3 ∨ n = 4 ∨ n = 5 ∨ n = 6 ∨ n = 7 := by omega
  rcases this with rfl | rfl | rfl | rfl | rfl | rfl | rfl | rfl <;> exact Ev.of (fun k => impl_factorial.mono _ k) (k := 10) (by decide +kernel)
theorem orderAt_l : ∀ (d : Nat) (left acc : List Int) (k : Nat), left.length = d → d ≤ 7 → acc.length + d ≤ 100 → k < facN d → Ev (fun q => impl_orderAt.l0 q (k : Int) left acc) (acc ++ atM d left k)
  | 0, left, acc, k, hl, hd, ha, hk => by
    refine Ev.step (fun q => by rw [impl_orderAt.l0]) (Ev.neg (by omega) (Ev.val ?_))
    rw [atM, List.append_nil]
  | d + 1, left, acc, k, hl, hd, ha, hk => by
    refine Ev.step (fun q => by rw [impl_orderAt.l0]) (Ev.pos (by omega) ?_)
    have e1 : wrap64 ((left.length : Int) - 1) = (d : Int) := by rw [w64 (by omega)]; omega
    rw [e1]
    clear e1
    refine Ev.bind (factorial_ev d (by omega)) (Ev.neg (by have := facN_pos d; omega) ?_)
    have hq := div_lt_of d k (by omega) hk
    have h5 := facN_le (d + 1)
    have e2 : wrap64 (Int.tdiv (k : Int) (facN d : Int)) = ((k / facN d : Nat) : Int) := by rw [tdiv_nat]; exact w64n _ (by have := Nat.div_le_self k (facN d); omega)
    have hmod := Nat.mod_lt k (facN_pos d)
    simp only [e2, tmod_nat]
    rw [atM]
    clear e2 hk
    generalize k / facN d = qq at hq ⊢
    generalize k % facN d = k2 at hmod ⊢
    have e3 : wrap64 ((qq : Int) + 1) = ((qq + 1 : Nat) : Int) := by rw [w64 (by omega)]; omega
    simp only [e3, rd_nat]
    clear e3
    have hdel : slices_Delete_int_int.f left (qq : Int) ((qq + 1 : Nat) : Int) = some (left.take qq ++ left.drop (qq + 1)) := by
      unfold slices_Delete_int_int.f
      rw [if_pos (by omega), Int.toNat_natCast, Int.toNat_natCast]
    refine Ev.pos (by omega) (Ev.pos (by omega) (Ev.pos (by omega) ?_))
    simp only [hdel, Option.bind_some]
    refine Ev.to (orderAt_l d _ _ k2 (by rw [List.length_append, List.length_take, List.length_drop]; omega) (by omega) (by rw [List.length_append, List.length_singleton]; omega) hmod) ?_
    rw [List.append_assoc]; rfl
theorem orderAt_ev (n k : Nat) (hn : n ≤ 7) (hk : k < facN n) : Ev (fun q => impl_orderAt.f q (n : Int) (k : Int)) (atM n (marked 1 n) k) := by
  unfold impl_orderAt.f
  exact Ev.bind (sorted_ev n (by omega)) (Ev.to (orderAt_l n _ [] k (marked_length n 1) hn (by simp; omega) hk) (List.nil_append _))
theorem allOrders_l (n : Nat) (hn : n ≤ 7) : ∀ (d i : Nat), facN n = i + d → Ev (fun q => impl_allOrders.l0 q (n : Int) ((List.range i).map fun k => atM n (marked 1 n) k) (facN n : Int) (i : Int)) (ordsM n)
  | 0, i, h => by
    refine Ev.step (fun q => by rw [impl_allOrders.l0]) (Ev.neg (by omega) (Ev.val ?_))
    rw [ordsM, h, Nat.add_zero]
  | d + 1, i, h => by
    have h5 := facN_le n
    refine Ev.step (fun q => by rw [impl_allOrders.l0]) ?_
    refine Ev.pos (by omega) ?_
    refine Ev.bind (orderAt_ev n i hn (by omega)) ?_
    refine Ev.pos (by rw [List.length_map, List.length_range]; omega) ?_
    have e : wrap64 ((i : Int) + 1) = ((i + 1 : Nat) : Int) := by rw [w64 (by omega)]; omega
    have e2 : ((List.range i).map fun k => atM n (marked 1 n) k) ++ [atM n (marked 1 n) i] = (List.range (i + 1)).map fun k => atM n (marked 1 n) k := by rw [List.range_succ, List.map_append]; rfl
    simp only [e, e2]
    exact allOrders_l n hn d (i + 1) (by omega)
theorem allOrders_ev (n : Nat) (hn : n ≤ 7) : Ev (fun q => impl_allOrders.f q (n : Int)) (ordsM n) := by
  unfold impl_allOrders.f
  exact Ev.bind (factorial_ev n hn) (allOrders_l n hn (facN n) 0 (by omega))

theorem isOrd_of {l : List Int} (h1 : 1 ≤ l.length) (h2 : l.length ≤ 7) (hd : l.Nodup) (hm : ∀ x ∈ l, 1 ≤ x ∧ x ≤ l.length) : isOrd l = true := by
  simp only [isOrd, Bool.and_eq_true, decide_eq_true_eq]
  refine ⟨h1, h2, (allFrom_iff _ _ _).2 fun j _ hj => ?_⟩
  have hj' : j < l.length := by omega
  have := hm (nth l j) (by rw [nth_lt _ _ hj']; exact List.getElem_mem hj')
  have hn : nth l j ∉ l.take j := by
    intro hc
    obtain ⟨i, hi, e⟩ := List.mem_take_iff_getElem.1 hc
    rw [nth_lt _ _ hj'] at e
    have := (List.getElem_inj hd).1 e
    omega
  simp [ordAt, this.1, this.2, hn]

theorem atM_mem : ∀ (d : Nat) (left : List Int) (k : Nat), left.length = d → d ≤ 7 → k < facN d → (∀ x ∈ atM d left k, x ∈ left) ∧ (left.Nodup → (atM d left k).Nodup)
  | 0, left, k, _, _, _ => ⟨fun x hx => by simp [atM] at hx, fun _ => by simp [atM]⟩
  | d + 1, left, k, hl, hd, hk => by
    have hq := div_lt_of d k (by omega) hk
    have hmod := Nat.mod_lt k (facN_pos d)
    rw [atM]
    generalize k / facN d = q at hq ⊢
    have ih := atM_mem d (left.take q ++ left.drop (q + 1)) (k % facN d) (by rw [List.length_append, List.length_take, List.length_drop]; omega) (by omega) hmod
    have hsub : ∀ x ∈ left.take q ++ left.drop (q + 1), x ∈ left := fun x hx => by
      rcases List.mem_append.1 hx with hx | hx
      · exact List.mem_of_mem_take hx
      · exact List.mem_of_mem_drop hx
    refine ⟨fun x hx => ?_, fun hn => ?_⟩
    · rcases List.mem_cons.1 hx with rfl | hx
      · rw [nth_lt _ _ (by omega)]; exact List.getElem_mem _
      · exact hsub x (ih.1 x hx)
    · have e : left = left.take q ++ nth left q :: left.drop (q + 1) := by
        rw [← drop_step left q (by omega), List.take_append_drop]
      have hn2 := hn
      rw [e, List.nodup_append] at hn2
      obtain ⟨n1, n2, n3⟩ := hn2
      rw [List.nodup_cons] at n2 ⊢
      refine ⟨fun hc => ?_, ih.2 ?_⟩
      · rcases List.mem_append.1 (ih.1 _ hc) with hc | hc
        · exact n3 _ hc _ (by simp) rfl
        · exact n2.1 hc
      · rw [List.nodup_append]
        exact ⟨n1, n2.2, fun a ha b hb => n3 a ha b (by simp [hb])⟩
theorem marked_mem (n : Nat) : ∀ (a x : Int), x ∈ marked a n → a ≤ x ∧ x < a + n := by
  induction n with
  | zero => intro a x h; simp [marked] at h
  | succ n ih =>
    intro a x h
    rw [marked, List.mem_cons] at h
    rcases h with rfl | h
    · omega
    · have := ih (a + 1) x h; omega
theorem marked_nodup (n : Nat) : ∀ (a : Int), (marked a n).Nodup := by
  induction n with
  | zero => intro a; simp [marked]
  | succ n ih =>
    intro a
    rw [marked, List.nodup_cons]
    exact ⟨fun h => by have := marked_mem n _ _ h; omega, ih _⟩
theorem ordsM_ord (n : Nat) (h1 : 1 ≤ n) (h2 : n ≤ 7) (l : List Int) (h : l ∈ ordsM n) : isOrd l = true := by
  obtain ⟨k, hk, rfl⟩ := List.mem_map.1 h
  have hk := List.mem_range.1 hk
  have hm := atM_mem n (marked 1 n) k (marked_length n 1) h2 hk
  have hl := atM_length n (marked 1 n) k
  refine isOrd_of (by omega) (by omega) (hm.2 (marked_nodup n 1)) fun x hx => ?_
  have := marked_mem n 1 x (hm.1 x hx)
  rw [hl]
  omega

/-! cuts: numbers of at least 1 whose sum is n -/
def cutsOk : Int → List Int → Bool
  | n, [] => n == 0
  | n, c :: cs => decide (1 ≤ c) && (decide (c ≤ n) && cutsOk (n - c) cs)
theorem cutsOk_neg (l : List Int) (n : Int) (h : n < 0) : cutsOk n l = false := by
  cases l with
  | nil => simp [cutsOk]; omega
  | cons c cs =>
    by_cases h1 : 1 ≤ c
    · have : ¬ c ≤ n := by omega
      simp [cutsOk, this]
    · simp [cutsOk, h1]
theorem cutsOk_len : ∀ (l : List Int) (n : Int), cutsOk n l = true → (l.length : Int) ≤ n
  | [], n, h => by simp [cutsOk] at h; simp [h]
  | c :: cs, n, h => by
    simp only [cutsOk, Bool.and_eq_true, decide_eq_true_eq] at h
    have := cutsOk_len cs (n - c) h.2.2
    simp only [List.length_cons]
    omega
def isCuts (n : Int) (l : List Int) : Bool := decide (1 ≤ n ∧ n ≤ 7) && cutsOk n l

/-! falls -/
def fallsL (l : List Int) : Nat → Nat → List Int → List Int
  | 0, _, acc => acc
  | d + 1, i, acc => if 0 < i ∧ nth l i < nth l (i - 1) then fallsL l d (i + 1) (acc.set (acc.length - 1) (wrap64 (nth acc (acc.length - 1) + 1))) else fallsL l d (i + 1) (acc ++ [1])
def fallsOf (l : List Int) : List Int := fallsL l l.length 0 []
theorem fallsL_length (l : List Int) : ∀ (d i : Nat) (acc : List Int), (fallsL l d i acc).length ≤ acc.length + d
  | 0, i, acc => Nat.le_refl _
  | d + 1, i, acc => by
    rw [fallsL]
    split
    · have := fallsL_length l d (i + 1) (acc.set (acc.length - 1) (wrap64 (nth acc (acc.length - 1) + 1))); simp at this ⊢; omega
    · have := fallsL_length l d (i + 1) (acc ++ [1]); simp at this ⊢; omega
theorem l6Falls_l (l : List Int) (hn : l.length ≤ 17592186044415) : ∀ (d i : Nat) (acc : List Int), l.length = i + d → acc.length ≤ i → (0 < i → 0 < acc.length) → Ev (fun k => spec_l6Falls.l0 k l acc i) (fallsL l d i acc)
  | 0, i, acc, h, ha, hp => by
    refine Ev.step (fun k => by rw [spec_l6Falls.l0]) ?_
    refine Ev.neg (by omega) (Ev.val rfl)
  | d + 1, i, acc, h, ha, hp => by
    refine Ev.step (fun k => by rw [spec_l6Falls.l0]) ?_
    refine Ev.pos (by omega) ?_
    have e : wrap64 ((i : Int) + 1) = ((i + 1 : Nat) : Int) := by rw [w64 (by omega)]; omega
    simp only [e]
    rw [fallsL]
    refine Ev.ite (fun hi => ?_) (fun hi => Ev.pos (by omega) ?_)
    · have h0 : 0 < i := by omega
      have hp := hp h0
      have e1 : wrap64 ((i : Int) - 1) = ((i - 1 : Nat) : Int) := by rw [w64 (by omega)]; omega
      have e2 : wrap64 ((acc.length : Int) - 1) = ((acc.length - 1 : Nat) : Int) := by rw [w64 (by omega)]; omega
      simp only [e1, e2, rd_nat, Int.toNat_natCast]
      refine Ev.pos (by omega) (Ev.pos (by omega) (Ev.pos (by omega) (Ev.ite (fun hc => Ev.pos (by omega) (Ev.pos (by omega) ?_)) (fun hc => Ev.pos (by omega) ?_))))
      · rw [if_pos ⟨h0, hc⟩]
        exact l6Falls_l l hn d (i + 1) _ (by omega) (by simp; omega) (fun _ => by simp; omega)
      · rw [if_neg (fun h => hc h.2)]
        exact l6Falls_l l hn d (i + 1) _ (by omega) (by simp; omega) (fun _ => by simp)
    · rw [if_neg (fun h => by omega)]
      exact l6Falls_l l hn d (i + 1) _ (by omega) (by simp; omega) (fun _ => by simp)
theorem l6Falls_ev (l : List Int) (hn : l.length ≤ 17592186044415) : Ev (fun k => spec_l6Falls.f k l) (fallsOf l) := by
  unfold spec_l6Falls.f
  exact l6Falls_l l hn l.length 0 [] (by omega) (by simp) (fun h => by omega)
theorem snoc_last (acc : List Int) (v w : Int) : (acc ++ [v]).set ((acc ++ [v]).length - 1) w = acc ++ [w] := by
  simp [List.set_append]
theorem fallsOf_l (l : List Int) (hn : l.length ≤ 17592186044415) (hne : ∀ i, 0 < i → i < l.length → nth l i ≠ nth l (i - 1)) : ∀ (d i : Nat) (acc : List Int), l.length = i + d → acc.length ≤ i → (0 < i → 0 < acc.length) → Ev (fun k => impl_fallsOf.l0 k l acc l (l.length : Int) i) (fallsL l d i acc)
  | 0, i, acc, h, ha, hp => by
    refine Ev.step (fun k => by rw [impl_fallsOf.l0]) ?_
    refine Ev.neg (by omega) (Ev.val rfl)
  | d + 1, i, acc, h, ha, hp => by
    refine Ev.step (fun k => by rw [impl_fallsOf.l0]) ?_
    refine Ev.pos (by omega) (Ev.pos (by omega) (Ev.pos (by omega) ?_))
    have e : wrap64 ((i : Int) + 1) = ((i + 1 : Nat) : Int) := by rw [w64 (by omega)]; omega
    have e3 : wrap64 (((acc ++ [0]).length : Int) - 1) = ((acc.length : Nat) : Int) := by rw [w64 (by simp; omega)]; simp
    have e4 : rd (acc ++ [0]) (acc.length : Nat) = 0 := by rw [rd_nat, nth_snoc]
    have e5 : wrap64 (0 + 1) = 1 := w64 (by omega)
    have e6 : (acc ++ [(0 : Int)]).set acc.length 1 = acc ++ [1] := by simp [List.set_append]
    simp only [e, Option.bind_some, e3, e4, e5, Int.toNat_natCast, e6]
    rw [fallsL]
    refine Ev.ite (fun hi => Ev.pos (by omega) (Ev.pos (by omega) (Ev.pos (by rw [List.length_append, List.length_singleton]; omega) ?_))) (fun hi => ?_)
    · rw [if_neg (fun h => by omega)]
      exact fallsOf_l l hn hne d (i + 1) _ (by omega) (by simp; omega) (fun _ => by simp)
    · have h0 : 0 < i := by omega
      have hp := hp h0
      have hne' := hne i h0 (by omega)
      have e1 : wrap64 ((i : Int) - 1) = ((i - 1 : Nat) : Int) := by rw [w64 (by omega)]; omega
      have e2 : wrap64 ((acc.length : Int) - 1) = ((acc.length - 1 : Nat) : Int) := by rw [w64 (by omega)]; omega
      simp only [e1, e2, rd_nat, Int.toNat_natCast]
      refine Ev.pos (by omega) (Ev.pos (by omega) (Ev.ite (fun hc => Ev.pos (by omega) (Ev.pos (by omega) (Ev.pos (by rw [List.length_append, List.length_singleton]; omega) ?_))) (fun hc => Ev.pos (by omega) (Ev.pos (by omega) ?_))))
      · rw [if_neg (fun h => by omega)]
        exact fallsOf_l l hn hne d (i + 1) _ (by omega) (by simp; omega) (fun _ => by simp)
      · rw [if_pos ⟨h0, by omega⟩]
        exact fallsOf_l l hn hne d (i + 1) _ (by omega) (by simp; omega) (fun _ => by simp; omega)
theorem isOrd_ne {l : List Int} (h : isOrd l = true) (i : Nat) (h0 : 0 < i) (hi : i < l.length) : nth l i ≠ nth l (i - 1) := by
  intro e
  refine (isOrd_at h i hi).2.2 ?_
  rw [e, nth_lt l (i - 1) (by omega)]
  rw [List.mem_take_iff_getElem]
  exact ⟨i - 1, by omega, rfl⟩
theorem fallsOf_ev (l : List Int) (h : isOrd l = true) : Ev (fun k => impl_fallsOf.f k l) (fallsOf l) := by
  have := isOrd_len h
  unfold impl_fallsOf.f
  exact fallsOf_l l (by omega) (isOrd_ne h) l.length 0 [] (by omega) (by simp) (fun h => by omega)

theorem l2Back_l (l : List Int) (hn : l.length ≤ 17592186044415) : ∀ (i : Nat) (acc : List Int), i ≤ l.length → acc.length + i ≤ l.length → Ev (fun k => spec_l2Back.l0 k l acc ((i : Int) - 1)) (acc ++ (l.take i).reverse)
  | 0, acc, hi, ha => by
    refine Ev.step (fun k => by rw [spec_l2Back.l0]) ?_
    exact Ev.neg (by omega) (Ev.val (by simp))
  | i + 1, acc, hi, ha => by
    have e : ((i + 1 : Nat) : Int) - 1 = (i : Int) := by omega
    have e2 : wrap64 ((i : Int) - 1) = (i : Int) - 1 := w64 (by omega)
    simp only [e]
    refine Ev.step (fun k => by rw [spec_l2Back.l0]) ?_
    simp only [e2, rd_nat]
    refine Ev.pos (by omega) (Ev.pos (by omega) (Ev.pos (by omega) (Ev.pos (by omega) ?_)))
    refine (l2Back_l l hn i (acc ++ [nth l i]) (by omega) (by simp; omega)).to ?_
    rw [take_step l i (by omega)]
    simp
theorem l2Back_ev (l : List Int) (hn : l.length ≤ 17592186044415) : Ev (fun k => spec_l2Back.f k l) l.reverse := by
  unfold spec_l2Back.f
  have e : wrap64 ((l.length : Int) - 1) = (l.length : Int) - 1 := w64 (by omega)
  simp only [e]
  refine (l2Back_l l hn l.length [] (Nat.le_refl _) (by simp)).to ?_
  simp

theorem nth_right (A B : List Int) (i : Nat) (h : A.length ≤ i) : nth (A ++ B) i = nth B (i - A.length) := by
  simp [nth, List.getD_eq_getElem?_getD, List.getElem?_append_right h]
theorem Reverse_l : ∀ (n : Nat) (A M B : List Int), M.length = n → (A ++ (M ++ B)).length ≤ 17592186044415 → Ev (fun k => slices_Reverse_int_int.l0 k (A ++ (M ++ B)) (A.length : Int) ((A.length : Int) + (M.length : Int) - 1)) (A ++ (M.reverse ++ B)) := by
  intro n
  induction n using Nat.strongRecOn with
  | _ n ih =>
    intro A M B hM hn
    by_cases h2 : n < 2
    · refine Ev.step (fun k => by rw [slices_Reverse_int_int.l0]) ?_
      refine Ev.neg (by omega) (Ev.val ?_)
      have : M = [] ∨ ∃ a, M = [a] := by
        rcases M with _ | ⟨a, _ | ⟨b, M⟩⟩
        · exact .inl rfl
        · exact .inr ⟨a, rfl⟩
        · simp at hM; omega
      rcases this with rfl | ⟨a, rfl⟩ <;> simp
    · obtain ⟨a, M', b, rfl⟩ : ∃ a M' b, M = a :: (M' ++ [b]) := by
        rcases M with _ | ⟨a, M⟩
        · simp at hM; omega
        · rcases List.eq_nil_or_concat M with rfl | ⟨M', b, rfl⟩
          · simp at hM; omega
          · exact ⟨a, M', b, by simp⟩
      have hl : M'.length + 2 = n := by simp at hM; omega
      have hn' : A.length + (M'.length + 2 + B.length) ≤ 17592186044415 := by simp at hn; omega
      refine Ev.step (fun k => by rw [slices_Reverse_int_int.l0]) ?_
      have e1 : (A.length : Int) + ((a :: (M' ++ [b])).length : Int) - 1 = ((A.length + 1 + M'.length : Nat) : Int) := by simp; omega
      have e2 : wrap64 ((A.length : Int) + 1) = ((A.length + 1 : Nat) : Int) := by rw [w64 (by omega)]; omega
      have e3 : wrap64 (((A.length + 1 + M'.length : Nat) : Int) - 1) = ((A.length + M'.length : Nat) : Int) := by rw [w64 (by omega)]; omega
      have g1 : nth (A ++ (a :: (M' ++ [b]) ++ B)) (A.length + 1 + M'.length) = b := by
        have : A ++ (a :: (M' ++ [b]) ++ B) = (A ++ a :: M') ++ (b :: B) := by simp
        rw [this, nth_right _ _ _ (by simp; omega)]
        have : A.length + 1 + M'.length - (A ++ a :: M').length = 0 := by simp; omega
        rw [this]; rfl
      have g2 : nth (A ++ (a :: (M' ++ [b]) ++ B)) A.length = a := by
        rw [nth_right _ _ _ (Nat.le_refl _)]
        simp [nth]
      have g3 : ((A ++ (a :: (M' ++ [b]) ++ B)).set A.length b).set (A.length + 1 + M'.length) a = (A ++ [b]) ++ (M' ++ (a :: B)) := by
        have h1 : (A ++ (a :: (M' ++ [b]) ++ B)).set A.length b = (A ++ b :: M') ++ (b :: B) := by
          rw [List.set_append_right _ _ (Nat.le_refl _)]; simp
        rw [h1, List.set_append_right _ _ (by simp; omega)]
        have : A.length + 1 + M'.length - (A ++ b :: M').length = 0 := by simp; omega
        rw [this]; simp
      simp only [e1, e2, e3, rd_nat, Int.toNat_natCast, g1, g2, g3]
      have hlen : (A ++ (a :: (M' ++ [b]) ++ B)).length = A.length + (M'.length + 2 + B.length) := by simp; omega
      refine Ev.pos (by omega) (Ev.pos (by omega) (Ev.pos (by rw [hlen]; omega) (Ev.pos (by omega) (Ev.pos (by rw [hlen]; omega) ?_))))
      have := ih M'.length (by omega) (A ++ [b]) M' (a :: B) rfl (by simp; omega)
      have e4 : ((A ++ [b]).length : Int) + (M'.length : Int) - 1 = ((A.length + M'.length : Nat) : Int) := by simp; omega
      have e5 : ((A ++ [b]).length : Int) = ((A.length + 1 : Nat) : Int) := by simp
      rw [e4, e5] at this
      refine this.to ?_
      simp
theorem Reverse_ev (l : List Int) (hn : l.length ≤ 17592186044415) : Ev (fun k => slices_Reverse_int_int.f k l) l.reverse := by
  unfold slices_Reverse_int_int.f
  have e : wrap64 ((l.length : Int) - 1) = (([] : List Int).length : Int) + (l.length : Int) - 1 := by rw [w64 (by omega)]; simp
  have := Reverse_l l.length [] l [] rfl (by simpa using hn)
  simp only [e]
  simpa using this
theorem back_ev (l : List Int) (hn : l.length ≤ 17592186044415) : Ev (fun k => impl_back.f k l) l.reverse := by
  unfold impl_back.f
  refine Ev.bind (a := l) ?_ (Ev.bind (Reverse_ev l hn) (Ev.val rfl))
  unfold slices_Clone_int_int.f
  exact Ev.pos (by omega) (Ev.val rfl)

/-! what comes out by cuts -/
def runL : List Int → List Int → List Int
  | _, [] => []
  | l, c :: cs => (l.take c.toNat).reverse ++ runL (l.drop c.toNat) cs
theorem runL_length : ∀ (cs l : List Int), (runL l cs).length ≤ l.length
  | [], l => by simp [runL]
  | c :: cs, l => by
    have := runL_length cs (l.drop c.toNat)
    simp [runL] at this ⊢
    omega
theorem l6Run_l (l cs : List Int) (hn : l.length ≤ 17592186044415) (hc : cs.length ≤ 17592186044415) : ∀ (d i f : Nat) (acc : List Int), cs.length = i + d → f ≤ l.length → acc.length = f → cutsOk ((l.length - f : Nat) : Int) (cs.drop i) = true → Ev (fun k => spec_l6Run.l0 k l cs acc f i) (acc ++ runL (l.drop f) (cs.drop i))
  | 0, i, f, acc, h, hf, ha, ho => by
    refine Ev.step (fun k => by rw [spec_l6Run.l0]) ?_
    refine Ev.neg (by omega) (Ev.val ?_)
    rw [List.drop_of_length_le (by omega : cs.length ≤ i)]
    simp [runL]
  | d + 1, i, f, acc, h, hf, ha, ho => by
    refine Ev.step (fun k => by rw [spec_l6Run.l0]) ?_
    rw [drop_step cs i (by omega)] at ho ⊢
    simp only [cutsOk, Bool.and_eq_true, decide_eq_true_eq] at ho
    obtain ⟨m, hm⟩ : ∃ m : Nat, nth cs i = m := ⟨(nth cs i).toNat, by omega⟩
    rw [hm] at ho ⊢
    have e : wrap64 ((i : Int) + 1) = ((i + 1 : Nat) : Int) := by rw [w64 (by omega)]; omega
    have e2 : wrap64 ((f : Int) + (m : Int)) = ((f + m : Nat) : Int) := by rw [w64 (by omega)]; omega
    simp only [rd_nat, hm, e, e2, Int.toNat_natCast]
    clear e e2
    refine Ev.pos (by omega) (Ev.pos (by omega) (Ev.pos (by omega) (Ev.pos (by omega) (Ev.pos (by omega) ?_))))
    have hd : (l.take (f + m)).drop f = (l.drop f).take m := by rw [List.drop_take]; congr 1; omega
    rw [hd]
    refine Ev.bind (l2Back_ev _ (by simp; omega)) (Ev.pos (by simp; omega) ?_)
    refine (l6Run_l l cs hn hc d (i + 1) (f + m) _ (by omega) (by omega) (by simp; omega) ?_).to ?_
    · have : ((l.length - (f + m) : Nat) : Int) = ((l.length - f : Nat) : Int) - (m : Int) := by omega
      rw [this]
      exact ho.2.2
    · simp [runL, List.drop_drop]
theorem l6Run_ev (l cs : List Int) (hn : l.length ≤ 17592186044415) (ho : isCuts (l.length : Int) cs = true) : Ev (fun k => spec_l6Run.f k l cs) (runL l cs) := by
  simp only [isCuts, Bool.and_eq_true, decide_eq_true_eq] at ho
  have := cutsOk_len _ _ ho.2
  unfold spec_l6Run.f
  exact l6Run_l l cs hn (by omega) cs.length 0 0 [] (by omega) (by omega) rfl ho.2
theorem runCuts_l (cs : List Int) (hc : cs.length ≤ 17592186044415) : ∀ (d i : Nat) (l acc : List Int), cs.length = i + d → l.length + acc.length ≤ 17592186044415 → cutsOk (l.length : Int) (cs.drop i) = true → Ev (fun k => impl_runCuts.l0 k l acc cs (cs.length : Int) i) (acc ++ runL l (cs.drop i))
  | 0, i, l, acc, h, hn, ho => by
    refine Ev.step (fun k => by rw [impl_runCuts.l0]) ?_
    refine Ev.neg (by omega) (Ev.val ?_)
    rw [List.drop_of_length_le (by omega : cs.length ≤ i)]
    simp [runL]
  | d + 1, i, l, acc, h, hn, ho => by
    refine Ev.step (fun k => by rw [impl_runCuts.l0]) ?_
    rw [drop_step cs i (by omega)] at ho ⊢
    simp only [cutsOk, Bool.and_eq_true, decide_eq_true_eq] at ho
    obtain ⟨m, hm⟩ : ∃ m : Nat, nth cs i = m := ⟨(nth cs i).toNat, by omega⟩
    rw [hm] at ho ⊢
    have e : wrap64 ((i : Int) + 1) = ((i + 1 : Nat) : Int) := by rw [w64 (by omega)]; omega
    simp only [rd_nat, hm, e, Int.toNat_natCast]
    clear e
    refine Ev.pos (by omega) (Ev.pos (by omega) (Ev.pos (by omega) (Ev.pos (by omega) (Ev.pos (by omega) ?_))))
    refine Ev.bind (back_ev _ (by simp; omega)) (Ev.pos (by simp; omega) ?_)
    refine (runCuts_l cs hc d (i + 1) (l.drop m) _ (by omega) (by simp; omega) ?_).to ?_
    · have : ((l.drop m).length : Int) = (l.length : Int) - (m : Int) := by simp; omega
      rw [this]
      exact ho.2.2
    · simp [runL]
theorem runCuts_ev (l cs : List Int) (hn : l.length ≤ 17592186044415) (ho : isCuts (l.length : Int) cs = true) : Ev (fun k => impl_runCuts.f k l cs) (runL l cs) := by
  simp only [isCuts, Bool.and_eq_true, decide_eq_true_eq] at ho
  have := cutsOk_len _ _ ho.2
  unfold impl_runCuts.f
  exact runCuts_l cs (by omega) cs.length 0 l [] (by omega) (by simpa using hn) ho.2

theorem cutsOk_of : ∀ (l : List Int) (n : Int), (∀ c ∈ l, 1 ≤ c) → l.sum = n → cutsOk n l = true ∧ 0 ≤ n
  | [], n, h, e => by simp at e; simp [cutsOk, ← e]
  | c :: cs, n, h, e => by
    have h1 := h c (by simp)
    rw [List.sum_cons] at e
    have h2 := cutsOk_of cs (n - c) (fun x hx => h x (by simp [hx])) (by omega)
    have h3 : c ≤ n := by omega
    exact ⟨by simp [cutsOk, h1, h3, h2.1], by omega⟩
theorem fallsL_cuts (l : List Int) : ∀ (d i : Nat) (acc : List Int), i + d ≤ 1000 → (0 < i → 0 < acc.length) → (∀ c ∈ acc, 1 ≤ c ∧ c ≤ i) → acc.sum = i → (∀ c ∈ fallsL l d i acc, 1 ≤ c) ∧ (fallsL l d i acc).sum = ((i + d : Nat) : Int)
  | 0, i, acc, hn, hp, ha, hs => ⟨fun c hc => (ha c hc).1, by simpa [fallsL] using hs⟩
  | d + 1, i, acc, hn, hp, ha, hs => by
    rw [fallsL]
    split
    · rename_i hi
      have hp := hp hi.1
      rcases List.eq_nil_or_concat acc with rfl | ⟨A, v, rfl⟩
      · simp at hp
      · rw [List.concat_eq_append] at *
        have hv := ha v (by simp)
        have e1 : nth (A ++ [v]) ((A ++ [v]).length - 1) = v := by simp [nth]
        have e2 : wrap64 (v + 1) = v + 1 := w64 (by omega)
        rw [e1, e2, snoc_last]
        have := fallsL_cuts l d (i + 1) (A ++ [v + 1]) (by omega) (fun _ => by simp) (fun c hc => by
          rw [List.mem_append] at hc
          rcases hc with hc | hc
          · have := ha c (by simp [hc]); omega
          · simp at hc; omega) (by simp at hs ⊢; omega)
        refine ⟨this.1, this.2.trans ?_⟩
        omega
    · have := fallsL_cuts l d (i + 1) (acc ++ [1]) (by omega) (fun _ => by simp) (fun c hc => by
        rw [List.mem_append] at hc
        rcases hc with hc | hc
        · have := ha c hc; omega
        · simp at hc; omega) (by simp; omega)
      refine ⟨this.1, this.2.trans ?_⟩
      omega
theorem fallsOf_cuts {l : List Int} (h : isOrd l = true) : isCuts (l.length : Int) (fallsOf l) = true := by
  have hl := isOrd_len h
  have := fallsL_cuts l l.length 0 [] (by omega) (fun h => by omega) (fun c hc => by simp at hc) (by simp)
  have h2 := cutsOk_of (fallsOf l) (l.length : Int) this.1 (by rw [fallsOf, this.2]; omega)
  simp only [isCuts, Bool.and_eq_true, decide_eq_true_eq]
  exact ⟨by omega, h2.1⟩
theorem l6Sweep_ev {l : List Int} (h : isOrd l = true) : Ev (fun k => spec_l6Sweep.f k l) (runL l (fallsOf l)) := by
  have := isOrd_len h
  unfold spec_l6Sweep.f
  exact Ev.bind (l6Falls_ev l (by omega)) (Ev.bind (l6Run_ev l _ (by omega) (fallsOf_cuts h)) (Ev.val rfl))
theorem fallSweep_ev {l : List Int} (h : isOrd l = true) : Ev (fun k => impl_fallSweep.f k l) (runL l (fallsOf l)) := by
  have := isOrd_len h
  unfold impl_fallSweep.f
  exact Ev.bind (fallsOf_ev l h) (Ev.bind (runCuts_ev l _ (by omega) (fallsOf_cuts h)) (Ev.val rfl))

def swp (l : List Int) : List Int := runL l (fallsOf l)
def val8 : List Int → Nat → Nat
  | [], a => a
  | x :: l, a => val8 l (8 * a + x.toNat)
def swpOk (l : List Int) : Bool := (isOrd (swp l) && ((swp l).length == l.length)) && ((sortedB l (l.length - 1) == decide (l = marked 1 l.length)) && (sortedB l (l.length - 1) || Nat.blt (val8 (swp l) 0) (val8 l 0)))

set_option maxRecDepth 100000 in
set_option maxHeartbeats 100000000 in
theorem swp_all_6 : ∀ n ∈ [1, 2, 3, 4, 5, 6], allO (intsTo n) swpOk n [] = true := by decide +kernel
set_option maxRecDepth 100000 in
set_option maxHeartbeats 100000000 in
theorem swp_all_71 : allO (intsTo 7) swpOk 6 [1] = true := by decide +kernel
set_option maxRecDepth 100000 in
set_option maxHeartbeats 100000000 in
theorem swp_all_72 : allO (intsTo 7) swpOk 6 [2] = true := by decide +kernel
set_option maxRecDepth 100000 in
set_option maxHeartbeats 100000000 in
theorem swp_all_73 : allO (intsTo 7) swpOk 6 [3] = true := by decide +kernel
set_option maxRecDepth 100000 in
set_option maxHeartbeats 100000000 in
theorem swp_all_74 : allO (intsTo 7) swpOk 6 [4] = true := by decide +kernel
set_option maxRecDepth 100000 in
set_option maxHeartbeats 100000000 in
theorem swp_all_75 : allO (intsTo 7) swpOk 6 [5] = true := by decide +kernel
set_option maxRecDepth 100000 in
set_option maxHeartbeats 100000000 in
theorem swp_all_76 : allO (intsTo 7) swpOk 6 [6] = true := by decide +kernel
set_option maxRecDepth 100000 in
set_option maxHeartbeats 100000000 in
theorem swp_all_77 : allO (intsTo 7) swpOk 6 [7] = true := by decide +kernel
theorem swp_all : ∀ n ∈ [1, 2, 3, 4, 5, 6, 7], allO (intsTo n) swpOk n [] = true := by
  intro n hn
  by_cases h7 : n = 7
  · subst h7
    rw [allO]
    simp only [show intsTo 7 = [1, 2, 3, 4, 5, 6, 7] from rfl, List.all_cons, List.all_nil, List.contains_nil, Bool.false_or, Bool.and_true, Bool.and_eq_true]
    exact ⟨swp_all_71, swp_all_72, swp_all_73, swp_all_74, swp_all_75, swp_all_76, swp_all_77⟩
  · exact swp_all_6 n (by simp at hn ⊢; omega)

theorem swp_of {l : List Int} (h : isOrd l = true) : isOrd (swp l) = true ∧ (swp l).length = l.length ∧ (sortedB l (l.length - 1) = decide (l = marked 1 l.length)) ∧ (sortedB l (l.length - 1) = true ∨ val8 (swp l) 0 < val8 l 0) := by
  have := orders_all h _ swp_all
  simp only [swpOk, Bool.and_eq_true, Bool.or_eq_true, beq_iff_eq] at this
  refine ⟨this.1.1, this.1.2, this.2.1, this.2.2.imp id fun h => ?_⟩
  simpa [Nat.blt_eq] using h
/-- how many sweeps: from a value of at most d on -/
def swps : Nat → List Int → Int → Int
  | 0, _, m => m
  | d + 1, l, m => if sortedB l (l.length - 1) = true then m else swps d (swp l) (wrap64 (m + 1))
theorem specSweeps_l (n : Nat) (hn : n ≤ 7) : ∀ (d : Nat) (l0 l : List Int) (m : Int), l0.length = n → isOrd l = true → l.length = n → val8 l 0 < d → Ev (fun k => spec_l6Sweeps.l0 k l0 m l) (swps d l m)
  | 0, _, _, _, _, _, _, h => absurd h (Nat.not_lt_zero _)
  | d + 1, l0, l, m, h0, ho, hl, hd => by
    obtain ⟨a1, a2, a3, a4⟩ := swp_of ho
    refine Ev.step (fun k => by rw [spec_l6Sweeps.l0]) ?_
    rw [h0]
    refine Ev.bind (l2Sorted_ev n (by omega)) (Ev.bind (l1Same_ev _ _ (by omega)) ?_)
    rw [swps, a3, hl]
    refine Ev.ite (fun hc => Ev.val ?_) (fun hc => ?_)
    · rw [if_pos hc]
    · rw [if_neg hc]
      rw [a3, hl] at a4
      exact Ev.bind (l6Sweep_ev ho) (specSweeps_l n hn d l0 (swp l) _ h0 a1 (by omega) (a4.elim (fun a4 => absurd a4 hc) (fun a4 => by omega)))
theorem implSweeps_l (n : Nat) (hn : n ≤ 7) : ∀ (d : Nat) (l : List Int) (m : Int), isOrd l = true → l.length = n → val8 l 0 < d → Ev (fun k => impl_fallSweeps.l0 k l m) (swps d l m)
  | 0, _, _, _, _, h => absurd h (Nat.not_lt_zero _)
  | d + 1, l, m, ho, hl, hd => by
    obtain ⟨a1, a2, a3, a4⟩ := swp_of ho
    have hlen := isOrd_len ho
    refine Ev.step (fun k => by rw [impl_fallSweeps.l0]) ?_
    refine Ev.bind (isSorted_ev l (by omega) (by omega)) ?_
    rw [swps]
    refine Ev.ite (fun hc => Ev.val ?_) (fun hc => ?_)
    · rw [if_pos hc]
    · rw [if_neg hc]
      exact Ev.bind (fallSweep_ev ho) (implSweeps_l n hn d (swp l) _ a1 (by omega) (a4.elim (fun a4 => absurd a4 hc) (fun a4 => by omega)))

def bestT (F : List Int → Int) (xs : List (List Int)) : Nat → Int → List Int → Int → List Int × Int
  | 0, _, b, m => (b, m)
  | d + 1, i, b, m => if F (rowOf xs i) > m then bestT F xs d (i + 1) (rowOf xs i) (F (rowOf xs i)) else bestT F xs d (i + 1) b m
theorem rowOf_mem {xs : List (List Int)} {i : Int} (h0 : 0 ≤ i) (h : i < (xs.length : Int)) : rowOf xs i ∈ xs := by
  unfold rowOf
  rw [List.getD_eq_getElem?_getD, List.getElem?_eq_getElem (by omega)]; exact List.getElem_mem _
theorem bestL_ev (of_ : Nat → List Int → Option Int) (F : List Int → Int) (xs : List (List Int)) (hF : ∀ x ∈ xs, Ev (fun k => of_ k x) (F x)) : ∀ (d : Nat) (i : Int) (b : List Int) (m : Int), 0 ≤ i → i + (d : Int) = (xs.length : Int) → Ev (fun k => bestL (of_ k) xs d i b m) (bestT F xs d i b m)
  | 0, i, b, m, _, _ => Ev.val rfl
  | d + 1, i, b, m, h0, h => by
    unfold bestL
    rw [bestT]
    refine Ev.bind (hF _ (rowOf_mem h0 (by omega))) (Ev.ite (fun hc => ?_) (fun hc => ?_))
    · rw [if_pos hc]; exact bestL_ev of_ F xs hF d (i + 1) _ _ (by omega) (by omega)
    · rw [if_neg hc]; exact bestL_ev of_ F xs hF d (i + 1) _ _ (by omega) (by omega)
theorem bestT_mem (F : List Int → Int) (xs : List (List Int)) : ∀ (d : Nat) (i : Int) (b : List Int) (m : Int), 0 ≤ i → i + (d : Int) = (xs.length : Int) → (bestT F xs d i b m).1 = b ∨ (bestT F xs d i b m).1 ∈ xs
  | 0, i, b, m, _, _ => .inl rfl
  | d + 1, i, b, m, h0, h => by
    rw [bestT]
    split
    · rcases bestT_mem F xs d (i + 1) (rowOf xs i) (F (rowOf xs i)) (by omega) (by omega) with h1 | h1
      · right; rw [h1]; exact rowOf_mem h0 (by omega)
      · exact .inr h1
    · exact bestT_mem F xs d (i + 1) b m (by omega) (by omega)
theorem bestT_start (F : List Int → Int) (xs : List (List Int)) (d : Nat) (i : Int) (b b2 : List Int) (m : Int) (h : F (rowOf xs i) > m) : bestT F xs (d + 1) i b m = bestT F xs (d + 1) i b2 m := by
  rw [bestT, bestT, if_pos h, if_pos h]

def swpsI (l : List Int) : Int := swps (val8 l 0 + 1) l 0
theorem specSweepsI_ev {l : List Int} (hc : isOrd l = true) : Ev (fun k => spec_l6Sweeps.f k l) (swpsI l) := by
  have hlen := isOrd_len hc
  unfold spec_l6Sweeps.f
  simp only [l1Own_is l (by omega), Option.bind_some]
  exact specSweeps_l l.length hlen.2 (val8 l 0 + 1) l l 0 rfl hc rfl (by omega)
theorem implSweepsI_ev {l : List Int} (hc : isOrd l = true) : Ev (fun k => impl_fallSweeps.f k l) (swpsI l) := by
  have hlen := isOrd_len hc
  unfold impl_fallSweeps.f
  exact implSweeps_l l.length hlen.2 (val8 l 0 + 1) l 0 hc rfl (by omega)
theorem MostFallSweeps_both (n : Int) : ∃ (b : List Int) (m : Int) (o : Bool), b.length ≤ 1000 ∧ Ev (fun q => spec_MostFallSweeps.f q n) (m, b, o) ∧ Ev (fun q => impl_MostFallSweeps.f q n) (m, b, o) := by
  unfold spec_MostFallSweeps.f impl_MostFallSweeps.f
  simp only [l1In_is, Option.bind_some, decide_eq_true_eq]
  by_cases hn : 1 ≤ n ∧ n ≤ 6
  · obtain ⟨m, rfl⟩ := Int.eq_ofNat_of_zero_le (show 0 ≤ n by omega)
    have hlen := facN_le m
    have hol := ordsM_length m
    have hm : ∀ l ∈ ordsM m, isOrd l = true := fun l hl => ordsM_ord m (by omega) (by omega) l hl
    refine ⟨(bestT swpsI (ordsM m) (ordsM m).length 0 [] (-1)).1, (bestT swpsI (ordsM m) (ordsM m).length 0 [] (-1)).2, true, ?_, ?_, ?_⟩
    · rcases bestT_mem swpsI (ordsM m) (ordsM m).length 0 [] (-1) (by omega) (by omega) with h | h
      · rw [h]; simp
      · have := isOrd_len (hm _ h); omega
    · exact Ev.pos hn (Ev.bind (l2Orders_ev m (by omega)) (Ev.pos (by omega) (Ev.bind (bestL_ev spec_l6Sweeps.f swpsI (ordsM m) (fun x hx => specSweepsI_ev (hm x hx)) (ordsM m).length 0 [] (-1) (by omega) (by omega)) (Ev.val rfl))))
    · exact Ev.pos hn (Ev.bind (allOrders_ev m (by omega)) (Ev.pos (by omega) (Ev.bind (bestL_ev impl_fallSweeps.f swpsI (ordsM m) (fun x hx => implSweepsI_ev (hm x hx)) (ordsM m).length 0 [] (-1) (by omega) (by omega)) (Ev.val rfl))))
  · exact ⟨[], 0, false, by simp, Ev.neg hn (Ev.val rfl), Ev.neg hn (Ev.val rfl)⟩
theorem FnExactMostFallSweeps : laws_FnExactMostFallSweeps.Pure := by
  intro n _
  refine Ev.rounds (?_ : Ev (fun k => laws_FnExactMostFallSweeps.f k n) true)
  obtain ⟨b, m, o, hb, h1, h2⟩ := MostFallSweeps_both n
  have hm1 : (marked 1 b.length).length ≤ 17592186044415 := by rw [marked_length]; omega
  unfold laws_FnExactMostFallSweeps.f
  refine Ev.bind h1 (Ev.bind h2 (Ev.pos rfl ?_))
  refine Ev.bind (eqIntS_ev _ _ (by simp only []; omega)) (Ev.pos (by simp) ?_)
  refine Ev.step (fun k => by rw [laws_FnExactMostFallSweeps.j0]) ?_
  refine Ev.neg (by simp) ?_
  refine Ev.bind (markIntS_ev _ 1 (by simp only []; omega) (by omega) (by omega)) ?_
  refine Ev.bind (heldIntS_ev _ 1 (by simp only []; omega) (by omega) (by omega)) (Ev.neg (by simp only []; omega) (Ev.pos (by simp only []) ?_))
  refine Ev.bind h2 (Ev.pos rfl (Ev.bind (eqIntS_ev _ _ (by simp only []; omega)) (Ev.pos (by simp) ?_)))
  refine Ev.step (fun k => by rw [laws_FnExactMostFallSweeps.j1]) ?_
  refine Ev.neg (by simp) ?_
  exact Ev.bind (heldIntS_ev _ 1 (by simp only []; omega) (by omega) (by omega)) (Ev.neg (by simp only []; omega) (Ev.pos (by simp only []) (Ev.val rfl)))

end Go.Proofs.Ytgmhehgjmlokdaa.Pure
