/- The program's MeanRuns returns what the reference's returns, for every number. -/
import Derived.Test.YtnfcopikfbnheaaPFnExactMeanRunsx6
import Derived.Test.YtnfcopikfbnheaaK
set_option linter.unusedVariables false
set_option linter.unusedSimpArgs false
namespace Go.Proofs.Ytnfcopikfbnheaa.Pure
open Go.RowKit Go.Proofs.Ytnfcopikfbnheaa.PFnExactMeanRuns Go.Proofs.YtnfcopikfbnheaaW.PrintWords Go.Proofs.YtnfcopikfbnheaaW.PrintLast Go.Proofs.YtnfcopikfbnheaaW.PrintMore

theorem l1In_is (a b c : Int) : spec_l1In.f a b c = some (decide (b ≤ a ∧ a ≤ c)) := by
  unfold spec_l1In.f
  by_cases h : a ≥ b
  · rw [if_pos h]; simp [h]
  · rw [if_neg h]; simp; omega

/-! how many orders; all orders -/
def facN (n : Nat) : Nat := [1, 1, 2, 6, 24, 120, 720, 5040].getD n 1
theorem facN_pos (n : Nat) : 0 < facN n := by
  rcases Nat.lt_or_ge n 8 with h | h
  · have : n = 0 ∨ n = 1 ∨ n = 2 ∨ n = 3 ∨ n = 4 ∨ n = 5 ∨ n = 6 ∨ n = 7 := by omega
    rcases this with rfl | rfl | rfl | rfl | rfl | rfl | rfl | rfl <;> decide
  · unfold facN
    rw [List.getD_eq_getElem?_getD, List.getElem?_eq_none (by simpa using h)]
    decide
theorem facN_le (n : Nat) : facN n ≤ 5040 := by
  rcases Nat.lt_or_ge n 8 with h | h
  · have : n = 0 ∨ n = 1 ∨ n = 2 ∨ n = 3 ∨ n = 4 ∨ n = 5 ∨ n = 6 ∨ n = 7 := by omega
    rcases this with rfl | rfl | rfl | rfl | rfl | rfl | rfl | rfl <;> decide
  · unfold facN
    rw [List.getD_eq_getElem?_getD, List.getElem?_eq_none (by simpa using h)]
    decide
theorem facN_succ (n : Nat) (h : n ≤ 6) : facN (n + 1) = (n + 1) * facN n := by
  have : n = 0 ∨ n = 1 ∨ n = 2 ∨ n = 3 ∨ n = 4 ∨ n = 5 ∨ n = 6 := by omega
  rcases this with rfl | rfl | rfl | rfl | rfl | rfl | rfl <;> decide
def atM : Nat → List Int → Nat → List Int
  | 0, _, _ => []
  | d + 1, left, k => nth left (k / facN d) :: atM d (left.take (k / facN d) ++ left.drop (k / facN d + 1)) (k % facN d)
theorem atM_length : ∀ (d : Nat) (left : List Int) (k : Nat), (atM d left k).length = d
  | 0, _, _ => rfl
  | d + 1, left, k => by rw [atM, List.length_cons, atM_length d]
def ordsM (n : Nat) : List (List Int) := (List.range (facN n)).map fun k => atM n (marked 1 n) k
theorem ordsM_length (n : Nat) : (ordsM n).length = facN n := by simp [ordsM]
theorem ordsM_len (n : Nat) (l : List Int) (h : l ∈ ordsM n) : l.length = n := by
  obtain ⟨k, _, rfl⟩ := List.mem_map.1 h
  exact atM_length n _ k
theorem tdiv_nat (a b : Nat) : Int.tdiv (a : Int) (b : Int) = ((a / b : Nat) : Int) := (Int.ofNat_tdiv a b).symm
theorem tmod_nat (a b : Nat) : Int.tmod (a : Int) (b : Int) = ((a % b : Nat) : Int) := (Int.ofNat_tmod a b).symm
theorem div_lt_of (d k : Nat) (hd : d ≤ 6) (h : k < facN (d + 1)) : k / facN d < d + 1 := by
  rw [Nat.div_lt_iff_lt_mul (facN_pos d), ← facN_succ d hd]
  exact h

theorem l1Own_is (l : List Int) (h : l.length < 17592186044416) : spec_l1Own.f l = some l := by
  unfold spec_l1Own.f
  simp [h]

theorem l2Sorted_l (n : Nat) (hn : n ≤ 1000) : ∀ d i : Nat, n = i + d → Ev (fun k => spec_l2Sorted.l0 k n (marked 1 i) ((i : Int) + 1)) (marked 1 n)
  | 0, i, h => by
    refine Ev.step (fun k => by rw [spec_l2Sorted.l0]) (Ev.neg (by omega) (Ev.val ?_))
    rw [h, Nat.add_zero]
  | d + 1, i, h => by
    refine Ev.step (fun k => by rw [spec_l2Sorted.l0]) ?_
    have e : wrap64 ((i : Int) + 1 + 1) = ((i + 1 : Nat) : Int) + 1 := by rw [w64 (by omega)]; omega
    have e2 : marked 1 i ++ [(i : Int) + 1] = marked 1 (i + 1) := by rw [marked_snoc]; congr 2; omega
    simp only [e, e2]
    exact Ev.pos (by omega) (Ev.pos (by rw [marked_length]; omega) (l2Sorted_l n hn d (i + 1) (by omega)))
theorem l2Sorted_ev (n : Nat) (hn : n ≤ 1000) : Ev (fun k => spec_l2Sorted.f k n) (marked 1 n) := l2Sorted_l n hn n 0 (by omega)

theorem sorted_l (n : Nat) (hn : n ≤ 1000) : ∀ d i : Nat, n = i + d → Ev (fun k => impl_sorted.l0 k (marked 1 i) n i) (marked 1 n)
  | 0, i, h => by
    refine Ev.step (fun k => by rw [impl_sorted.l0]) (Ev.neg (by omega) (Ev.val ?_))
    rw [h, Nat.add_zero]
  | d + 1, i, h => by
    refine Ev.step (fun k => by rw [impl_sorted.l0]) ?_
    have e : wrap64 ((i : Int) + 1) = ((i + 1 : Nat) : Int) := by rw [w64 (by omega)]; omega
    have e2 : marked 1 i ++ [((i + 1 : Nat) : Int)] = marked 1 (i + 1) := by rw [marked_snoc]; congr 2; omega
    simp only [e, e2]
    exact Ev.pos (by omega) (Ev.pos (by rw [marked_length]; omega) (sorted_l n hn d (i + 1) (by omega)))
theorem sorted_ev (n : Nat) (hn : n ≤ 1000) : Ev (fun k => impl_sorted.f k n) (marked 1 n) := sorted_l n hn n 0 (by omega)

theorem l2Ways_ev (n : Nat) (h : n ≤ 7) : Ev (fun k => spec_l2Ways.f k (n : Int)) (facN n : Int) := by
  have : n = 0 ∨ n = 1 ∨ n = 2 ∨ n = 3 ∨ n = 4 ∨ n = 5 ∨ n = 6 ∨ n = 7 := by omega
  rcases this with rfl | rfl | rfl | rfl | rfl | rfl | rfl | rfl <;> exact Ev.of (fun k => spec_l2Ways.mono _ k) (k := 10) (by decide +kernel)
theorem l2At_l : ∀ (d : Nat) (left acc : List Int) (k : Nat), left.length = d → d ≤ 7 → acc.length + d ≤ 100 → k < facN d → Ev (fun q => spec_l2At.l0 q (k : Int) acc left) (acc ++ atM d left k)
  | 0, left, acc, k, hl, hd, ha, hk => by
    refine Ev.step (fun q => by rw [spec_l2At.l0]) (Ev.neg (by omega) (Ev.val ?_))
    rw [atM, List.append_nil]
  | d + 1, left, acc, k, hl, hd, ha, hk => by
    refine Ev.step (fun q => by rw [spec_l2At.l0]) (Ev.pos (by omega) ?_)
    have e1 : wrap64 ((left.length : Int) - 1) = (d : Int) := by rw [w64 (by omega)]; omega
    rw [e1]
    clear e1
    refine Ev.bind (l2Ways_ev d (by omega)) (Ev.neg (by have := facN_pos d; omega) ?_)
    have hq := div_lt_of d k (by omega) hk
    have h5 := facN_le (d + 1)
    have e2 : wrap64 (Int.tdiv (k : Int) (facN d : Int)) = ((k / facN d : Nat) : Int) := by rw [tdiv_nat]; exact w64n _ (by have := Nat.div_le_self k (facN d); omega)
    have hmod := Nat.mod_lt k (facN_pos d)
    simp only [e2, tmod_nat]
    rw [atM]
    clear e2 hk
    generalize k / facN d = qq at hq ⊢
    generalize k % facN d = k2 at hmod ⊢
    have e3 : wrap64 ((qq : Int) + 1) = ((qq + 1 : Nat) : Int) := by rw [w64 (by omega)]; omega
    simp only [e3, Int.toNat_natCast, rd_nat]
    clear e3
    refine Ev.pos (by omega) (Ev.pos (by omega) (Ev.pos (by omega) (Ev.pos (by omega) ?_)))
    have h1 : (left.take qq).length < 17592186044416 := by rw [List.length_take]; omega
    simp only [l1Own_is _ h1, Option.bind_some]
    refine Ev.pos (by omega) (Ev.pos (by omega) (Ev.pos (by rw [List.length_take, List.length_drop]; omega) ?_))
    refine Ev.to (l2At_l d _ _ k2 (by rw [List.length_append, List.length_take, List.length_drop]; omega) (by omega) (by rw [List.length_append, List.length_singleton]; omega) hmod) ?_
    rw [List.append_assoc]; rfl
theorem l2At_ev (n k : Nat) (hn : n ≤ 7) (hk : k < facN n) : Ev (fun q => spec_l2At.f q (n : Int) (k : Int)) (atM n (marked 1 n) k) := by
  unfold spec_l2At.f
  exact Ev.bind (l2Sorted_ev n (by omega)) (Ev.to (l2At_l n _ [] k (marked_length n 1) hn (by simp; omega) hk) (List.nil_append _))
theorem l2Orders_l (n : Nat) (hn : n ≤ 7) : ∀ (d i : Nat), facN n = i + d → Ev (fun q => spec_l2Orders.l0 q (n : Int) ((List.range i).map fun k => atM n (marked 1 n) k) (i : Int)) (ordsM n)
  | 0, i, h => by
    refine Ev.step (fun q => by rw [spec_l2Orders.l0]) ?_
    refine Ev.bind (l2Ways_ev n hn) ?_
    refine Ev.neg (by omega) (Ev.val ?_)
    rw [ordsM, h, Nat.add_zero]
  | d + 1, i, h => by
    have h5 := facN_le n
    refine Ev.step (fun q => by rw [spec_l2Orders.l0]) ?_
    refine Ev.bind (l2Ways_ev n hn) ?_
    refine Ev.pos (by omega) ?_
    refine Ev.bind (l2At_ev n i hn (by omega)) ?_
    refine Ev.pos (by rw [List.length_map, List.length_range]; omega) ?_
    have e : wrap64 ((i : Int) + 1) = ((i + 1 : Nat) : Int) := by rw [w64 (by omega)]; omega
    have e2 : ((List.range i).map fun k => atM n (marked 1 n) k) ++ [atM n (marked 1 n) i] = (List.range (i + 1)).map fun k => atM n (marked 1 n) k := by rw [List.range_succ, List.map_append]; rfl
    simp only [e, e2]
    exact l2Orders_l n hn d (i + 1) (by omega)
theorem l2Orders_ev (n : Nat) (hn : n ≤ 7) : Ev (fun q => spec_l2Orders.f q (n : Int)) (ordsM n) := by
  unfold spec_l2Orders.f
  exact l2Orders_l n hn (facN n) 0 (by omega)

theorem factorial_ev (n : Nat) (h : n ≤ 7) : Ev (fun k => impl_factorial.f k (n : Int)) (facN n : Int) := by
  have : n = 0 ∨ n = 1 ∨ n = 2 ∨ n = 3 ∨ n = 4 ∨ n = 5 ∨ n = 6 ∨ n = 7 := by omega
  rcases this with rfl | rfl | rfl | rfl | rfl | rfl | rfl | rfl <;> exact Ev.of (fun k => impl_factorial.mono _ k) (k := 10) (by decide +kernel)
theorem orderAt_l : ∀ (d : Nat) (left acc : List Int) (k : Nat), left.length = d → d ≤ 7 → acc.length + d ≤ 100 → k < facN d → Ev (fun q => impl_orderAt.l0 q (k : Int) left acc) (acc ++ atM d left k)
  | 0, left, acc, k, hl, hd, ha, hk => by
    refine Ev.step (fun q => by rw [impl_orderAt.l0]) (Ev.neg (by omega) (Ev.val ?_))
    rw [atM, List.append_nil]
  | d + 1, left, acc, k, hl, hd, ha, hk => by
    refine Ev.step (fun q => by rw [impl_orderAt.l0]) (Ev.pos (by omega) ?_)
    have e1 : wrap64 ((left.length : Int) - 1) = (d : Int) := by rw [w64 (by omega)]; omega
    rw [e1]
    clear e1
    refine Ev.bind (factorial_ev d (by omega)) (Ev.neg (by have := facN_pos d; omega) ?_)
    have hq := div_lt_of d k (by omega) hk
    have h5 := facN_le (d + 1)
    have e2 : wrap64 (Int.tdiv (k : Int) (facN d : Int)) = ((k / facN d : Nat) : Int) := by rw [tdiv_nat]; exact w64n _ (by have := Nat.div_le_self k (facN d); omega)
    have hmod := Nat.mod_lt k (facN_pos d)
    simp only [e2, tmod_nat]
    rw [atM]
    clear e2 hk
    generalize k / facN d = qq at hq ⊢
    generalize k % facN d = k2 at hmod ⊢
    have e3 : wrap64 ((qq : Int) + 1) = ((qq + 1 : Nat) : Int) := by rw [w64 (by omega)]; omega
    simp only [e3, rd_nat]
    clear e3
    have hdel : slices_Delete_int_int.f left (qq : Int) ((qq + 1 : Nat) : Int) = some (left.take qq ++ left.drop (qq + 1)) := by
      unfold slices_Delete_int_int.f
      rw [if_pos (by omega), Int.toNat_natCast, Int.toNat_natCast]
    refine Ev.pos (by omega) (Ev.pos (by omega) (Ev.pos (by omega) ?_))
    simp only [hdel, Option.bind_some]
    refine Ev.to (orderAt_l d _ _ k2 (by rw [List.length_append, List.length_take, List.length_drop]; omega) (by omega) (by rw [List.length_append, List.length_singleton]; omega) hmod) ?_
    rw [List.append_assoc]; rfl
theorem orderAt_ev (n k : Nat) (hn : n ≤ 7) (hk : k < facN n) : Ev (fun q => impl_orderAt.f q (n : Int) (k : Int)) (atM n (marked 1 n) k) := by
  unfold impl_orderAt.f
  exact Ev.bind (sorted_ev n (by omega)) (Ev.to (orderAt_l n _ [] k (marked_length n 1) hn (by simp; omega) hk) (List.nil_append _))
theorem allOrders_l (n : Nat) (hn : n ≤ 7) : ∀ (d i : Nat), facN n = i + d → Ev (fun q => impl_allOrders.l0 q (n : Int) ((List.range i).map fun k => atM n (marked 1 n) k) (facN n : Int) (i : Int)) (ordsM n)
  | 0, i, h => by
    refine Ev.step (fun q => by rw [impl_allOrders.l0]) (Ev.neg (by omega) (Ev.val ?_))
    rw [ordsM, h, Nat.add_zero]
  | d + 1, i, h => by
    have h5 := facN_le n
    refine Ev.step (fun q => by rw [impl_allOrders.l0]) ?_
    refine Ev.pos (by omega) ?_
    refine Ev.bind (orderAt_ev n i hn (by omega)) ?_
    refine Ev.pos (by rw [List.length_map, List.length_range]; omega) ?_
    have e : wrap64 ((i : Int) + 1) = ((i + 1 : Nat) : Int) := by rw [w64 (by omega)]; omega
    have e2 : ((List.range i).map fun k => atM n (marked 1 n) k) ++ [atM n (marked 1 n) i] = (List.range (i + 1)).map fun k => atM n (marked 1 n) k := by rw [List.range_succ, List.map_append]; rfl
    simp only [e, e2]
    exact allOrders_l n hn d (i + 1) (by omega)
theorem allOrders_ev (n : Nat) (hn : n ≤ 7) : Ev (fun q => impl_allOrders.f q (n : Int)) (ordsM n) := by
  unfold impl_allOrders.f
  exact Ev.bind (factorial_ev n hn) (allOrders_l n hn (facN n) 0 (by omega))

/-! the parts of a list that ascend -/
def runY (l : List Int) (out : List (List Int)) (i : Nat) : List (List Int) := if i = 0 ∨ nth l i < nth l (i - 1) then out ++ [[]] else out
def runPut (y : List (List Int)) (x : Int) : List (List Int) := y.set (y.length - 1) (y.getD (y.length - 1) [] ++ [x])
def runsFrom (l : List Int) : Nat → Nat → List (List Int) → List (List Int)
  | 0, _, out => out
  | d + 1, i, out => runsFrom l d (i + 1) (runPut (runY l out i) (nth l i))
def runsM (l : List Int) : List (List Int) := runsFrom l l.length 0 []
def RunFit (i : Nat) (out : List (List Int)) : Prop := (0 < i → 0 < out.length) ∧ out.length ≤ i ∧ ∀ q ∈ out, q.length ≤ i
theorem runGet_mem {xs : List (List Int)} {i : Nat} (h : i < xs.length) : xs.getD i [] ∈ xs := by
  rw [List.getD_eq_getElem?_getD, List.getElem?_eq_getElem h]; exact List.getElem_mem h
theorem runY_fit {l : List Int} {out : List (List Int)} {i : Nat} (h : RunFit i out) : 0 < (runY l out i).length ∧ (runY l out i).length ≤ i + 1 ∧ ∀ q ∈ runY l out i, q.length ≤ i := by
  unfold runY
  split
  · refine ⟨by simp, by rw [List.length_append, List.length_singleton]; have := h.2.1; omega, fun q hq => ?_⟩
    rcases List.mem_append.1 hq with hq | hq
    · exact h.2.2 q hq
    · rw [List.mem_singleton] at hq; subst hq; simp
  · rename_i hn
    have h0 : 0 < i := by
      rcases Nat.eq_zero_or_pos i with h | h
      · exact absurd (.inl h) hn
      · exact h
    exact ⟨h.1 h0, by have := h.2.1; omega, h.2.2⟩
theorem runPut_fit {y : List (List Int)} {i : Nat} (x : Int) (h0 : 0 < y.length) (h1 : y.length ≤ i + 1) (h2 : ∀ q ∈ y, q.length ≤ i) : RunFit (i + 1) (runPut y x) := by
  unfold runPut
  refine ⟨fun _ => by rw [List.length_set]; exact h0, by rw [List.length_set]; exact h1, fun q hq => ?_⟩
  rcases List.mem_or_eq_of_mem_set hq with hq | hq
  · have := h2 q hq; omega
  · have := h2 _ (runGet_mem (xs := y) (i := y.length - 1) (by omega))
    subst hq
    rw [List.length_append, List.length_singleton]
    omega
theorem implRuns_l (l : List Int) (hl : l.length ≤ 1000) : ∀ (d i : Nat) (out : List (List Int)), l.length = i + d → RunFit i out → Ev (fun k => impl_runs.l0 k l out (i : Int)) (runsFrom l d i out)
  | 0, i, out, h, hf => by
    refine Ev.step (fun k => by rw [impl_runs.l0]) ?_
    exact Ev.neg (by omega) (Ev.val rfl)
  | d + 1, i, out, h, hf => by
    refine Ev.step (fun k => by rw [impl_runs.l0]) ?_
    have e : wrap64 ((i : Int) + 1) = ((i + 1 : Nat) : Int) := wup i (by omega)
    have es : impl_runs.st l out (i : Int) = runY l out i := by
      unfold impl_runs.st runY
      have hw : 0 < i → wrap64 ((i : Int) - 1) = ((i - 1 : Nat) : Int) := fun h0 => wdn i h0 (by omega)
      by_cases hc : i = 0 ∨ nth l i < nth l (i - 1)
      · rw [if_pos hc]
        refine if_pos ?_
        rcases Nat.eq_zero_or_pos i with h0 | h0
        · exact .inl (by omega)
        · rcases hc with hc | hc
          · omega
          · rw [hw h0]; exact .inr hc
      · rw [if_neg hc]
        refine if_neg fun hd => hc ?_
        rcases Nat.eq_zero_or_pos i with h0 | h0
        · exact .inl h0
        · rcases hd with hd | hd
          · omega
          · rw [hw h0] at hd; exact .inr hd
    obtain ⟨f0, f1, f2⟩ := runY_fit (l := l) hf
    have f3 := f2 _ (runGet_mem (xs := runY l out i) (i := (runY l out i).length - 1) (by omega))
    simp only [es, e, rd_nat]
    clear e es
    have hol := hf.2.1
    refine Ev.pos (by omega) (Ev.pos (by omega) ?_)
    rw [runsFrom]
    exact implRuns_l l hl d (i + 1) _ (by omega) (runPut_fit _ f0 f1 f2)
theorem specRuns_put (l : List Int) (hl : l.length ≤ 1000) (i : Nat) (hi : i < l.length) (y : List (List Int)) (r : List (List Int)) (f0 : 0 < y.length) (f1 : y.length ≤ 1001) (f2 : ∀ q ∈ y, q.length ≤ 1000)
    (hr : Ev (fun k => spec_l5Runs.l0 k l (runPut y (nth l i)) ((i + 1 : Nat) : Int)) r) :
    Ev (fun k => if 0 ≤ (wrap64 ((y.length : Int) - 1)) then (if (wrap64 ((y.length : Int) - 1)) < (y.length : Int) then (if (rd_L1 y (wrap64 ((y.length : Int) - 1))).length < 17592186044416 then (spec_l5Runs.l0 k l (y.set ((wrap64 ((y.length : Int) - 1)) : Int).toNat ((rd_L1 y (wrap64 ((y.length : Int) - 1))) ++ [rd l (i : Int)])) (wrap64 ((i : Int) + 1))) else (none)) else (none)) else (none)) r := by
  have e : wrap64 ((i : Int) + 1) = ((i + 1 : Nat) : Int) := wup i (by omega)
  have e1 : wrap64 ((y.length : Int) - 1) = ((y.length - 1 : Nat) : Int) := wdn _ f0 (by omega)
  have f3 := f2 _ (runGet_mem (xs := y) (i := y.length - 1) (by omega))
  have e2 : ∀ j : Nat, rd_L1 y (j : Int) = y.getD j [] := fun _ => rfl
  simp only [e, e1, e2, rd_nat, Int.toNat_natCast]
  clear e e1 e2
  exact Ev.pos (by omega) (Ev.pos (by omega) (Ev.pos (by omega) hr))
theorem specRuns_l (l : List Int) (hl : l.length ≤ 1000) : ∀ (d i : Nat) (out : List (List Int)), l.length = i + d → RunFit i out → Ev (fun k => spec_l5Runs.l0 k l out (i : Int)) (runsFrom l d i out)
  | 0, i, out, h, hf => by
    refine Ev.step (fun k => by rw [spec_l5Runs.l0]) ?_
    exact Ev.neg (by omega) (Ev.val rfl)
  | d + 1, i, out, h, hf => by
    refine Ev.step (fun k => by rw [spec_l5Runs.l0]) ?_
    obtain ⟨f0, f1, f2⟩ := runY_fit (l := l) hf
    have hol := hf.2.1
    have ih := specRuns_l l hl d (i + 1) _ (by omega) (runPut_fit (nth l i) f0 f1 f2)
    have put := specRuns_put l hl i (by omega) (runY l out i) (runsFrom l (d + 1) i out) f0 (by omega) (fun q hq => by have := f2 q hq; omega) ih
    clear ih f0 f1 f2
    refine Ev.pos (by omega) ?_
    by_cases h0 : i = 0
    · have ey : runY l out i = out ++ [[]] := by unfold runY; rw [if_pos (.inl h0)]
      rw [ey] at put
      refine Ev.pos (by omega) (Ev.pos (by omega) (Ev.bind (Ev.now _) ?_))
      subst h0
      refine Ev.congr (fun k => ?_) put
      split
      · split
        · rw [if_pos (by omega)]
        · rfl
      · rfl
    · refine Ev.neg (by omega) ?_
      have e1 : wrap64 ((i : Int) - 1) = ((i - 1 : Nat) : Int) := wdn i (by omega) (by omega)
      have hx : (rd l (i : Int) < rd l (wrap64 ((i : Int) - 1))) = (nth l i < nth l (i - 1)) := by rw [e1]; rfl
      refine Ev.pos (by omega) (Ev.pos (by rw [e1]; omega) (Ev.pos (by rw [e1]; omega) (Ev.ite (fun hc => ?_) (fun hc => ?_))))
      · have ey : runY l out i = out ++ [[]] := by unfold runY; rw [if_pos (.inr (by rw [← hx]; exact hc))]
        rw [ey] at put
        exact Ev.pos (by omega) (Ev.bind (Ev.now _) put)
      · have ey : runY l out i = out := by unfold runY; rw [if_neg (by rintro (h | h); exact h0 h; exact hc (by rw [hx]; exact h))]
        rw [ey] at put
        exact put
theorem runs_ev (l : List Int) (hl : l.length ≤ 1000) : Ev (fun k => spec_l5Runs.f k l) (runsM l) ∧ Ev (fun k => impl_runs.f k l) (runsM l) := by
  have hf : RunFit 0 [] := ⟨fun h => by omega, Nat.le_refl _, fun q hq => by simp at hq⟩
  unfold spec_l5Runs.f impl_runs.f
  exact ⟨specRuns_l l hl l.length 0 [] (by omega) hf, implRuns_l l hl l.length 0 [] (by omega) hf⟩
theorem runsFrom_len (l : List Int) : ∀ (d i : Nat) (out : List (List Int)), RunFit i out → RunFit (i + d) (runsFrom l d i out)
  | 0, i, out, hf => hf
  | d + 1, i, out, hf => by
    obtain ⟨f0, f1, f2⟩ := runY_fit (l := l) hf
    rw [runsFrom, show i + (d + 1) = i + 1 + d by omega]
    exact runsFrom_len l d (i + 1) _ (runPut_fit _ f0 f1 f2)
theorem runsM_len (l : List Int) : (runsM l).length ≤ l.length := by
  have := (runsFrom_len l l.length 0 [] ⟨fun h => by omega, Nat.le_refl _, fun q hq => by simp at hq⟩).2.1
  simpa [runsM] using this

/-! fractions in lowest terms: both sides come to the same two numbers -/
def cutM (s t : Nat) : Int × Int := (((s / Nat.gcd s t : Nat) : Int), ((t / Nat.gcd s t : Nat) : Int))
theorem l9Cut_l (s t : Nat) (hs : s ≤ 1000000) (ht : t ≤ 1000000) (g : Nat) (hg : 0 < g) (hgt : Nat.gcd s t = g) : ∀ (n a b : Nat), b < n → Nat.gcd a b = g → Ev (fun k => spec_l9Cut.l0 k (s : Int) (t : Int) (a : Int) (b : Int)) (cutM s t)
  | 0, a, b, h, _ => by omega
  | n + 1, a, b, h, he => by
    refine Ev.step (fun k => by rw [spec_l9Cut.l0]) ?_
    by_cases h0 : b = 0
    · subst h0
      rw [Nat.gcd_zero_right] at he
      subst he
      refine Ev.neg (by omega) ?_
      have e : spec_l1Most.f (a : Int) 1 = some (a : Int) := by
        unfold spec_l1Most.f
        by_cases h1 : (a : Int) > 1
        · rw [if_pos h1]
        · rw [if_neg h1]; congr 1; omega
      simp only [e, Option.bind_some]
      refine Ev.neg (by omega) (Ev.neg (by omega) (Ev.val ?_))
      have q1 := Nat.div_le_self s a
      have q2 := Nat.div_le_self t a
      rw [← Int.ofNat_tdiv, ← Int.ofNat_tdiv, w64n _ (by omega), w64n _ (by omega), cutM, hgt]
    · refine Ev.pos (by omega) (Ev.neg (by omega) ?_)
      rw [← Int.ofNat_tmod]
      have hm := Nat.mod_lt a (show 0 < b by omega)
      exact l9Cut_l s t hs ht g hg hgt n b (a % b) (by omega) (by rw [Nat.gcd_comm b, ← Nat.gcd_rec, Nat.gcd_comm]; exact he)
theorem fraction_l (s t : Nat) (hs : s ≤ 1000000) (ht : t ≤ 1000000) (g : Nat) (hg : 0 < g) (hgt : Nat.gcd s t = g) : ∀ (n a b : Nat), b < n → Nat.gcd a b = g → Ev (fun k => impl_fraction.l0 k (s : Int) (t : Int) (a : Int) (b : Int)) (cutM s t)
  | 0, a, b, h, _ => by omega
  | n + 1, a, b, h, he => by
    refine Ev.step (fun k => by rw [impl_fraction.l0]) ?_
    by_cases h0 : b = 0
    · subst h0
      rw [Nat.gcd_zero_right] at he
      subst he
      refine Ev.pos (by omega) (Ev.neg (by omega) (Ev.val ?_))
      have q1 := Nat.div_le_self s a
      have q2 := Nat.div_le_self t a
      rw [← Int.ofNat_tdiv, ← Int.ofNat_tdiv, w64n _ (by omega), w64n _ (by omega), cutM, hgt]
    · refine Ev.neg (by omega) ?_
      rw [← Int.ofNat_tmod]
      have hm := Nat.mod_lt a (show 0 < b by omega)
      exact fraction_l s t hs ht g hg hgt n b (a % b) (by omega) (by rw [Nat.gcd_comm b, ← Nat.gcd_rec, Nat.gcd_comm]; exact he)
theorem cut_ev (s t : Nat) (hs : s ≤ 1000000) (ht : t ≤ 1000000) (h0 : 0 < t) : Ev (fun k => spec_l9Cut.f k (s : Int) (t : Int)) (cutM s t) ∧ Ev (fun k => impl_fraction.f k (s : Int) (t : Int)) (cutM s t) := by
  have hg := Nat.gcd_pos_of_pos_right s h0
  unfold spec_l9Cut.f impl_fraction.f
  exact ⟨l9Cut_l s t hs ht _ hg rfl (t + 1) s t (by omega) rfl, fraction_l s t hs ht _ hg rfl (t + 1) s t (by omega) rfl⟩
/-- a sum over lists -/
def sumG (g : List Int → Nat) : List (List Int) → Nat
  | [] => 0
  | l :: ls => g l + sumG g ls
theorem sumG_le {g : List Int → Nat} {m : Nat} : ∀ (ls : List (List Int)), (∀ l ∈ ls, g l ≤ m) → sumG g ls ≤ m * ls.length
  | [], _ => Nat.zero_le _
  | l :: ls, h => by
    have h1 := h l (by simp)
    have h2 := sumG_le ls fun x hx => h x (by simp [hx])
    rw [sumG, List.length_cons, Nat.mul_succ]; omega
theorem drop_stepLL (l : List (List Int)) (i : Nat) (h : i < l.length) : l.drop i = l.getD i [] :: l.drop (i + 1) := by
  rw [List.getD_eq_getElem?_getD, List.getElem?_eq_getElem h]; exact List.drop_eq_getElem_cons h
theorem mean_ev (of_ : Nat → List Int → Option Int) (g : List Int → Nat) (n : Nat) (h1 : 1 ≤ n) (h7 : n ≤ 7) (hg : ∀ l ∈ ordsM n, g l ≤ 100) (ho : ∀ l ∈ ordsM n, Ev (fun k => of_ k l) (g l : Int)) :
    Ev (fun k => impl_drawnMean.f of_ k (n : Int) true ⟨#[]⟩) (if n ≤ 6 then ((cutM (sumG g (ordsM n)) (facN n)).1, (cutM (sumG g (ordsM n)) (facN n)).2, true) else (0, 0, false)) := by
  have hlen := facN_le n
  have hol := ordsM_length n
  have hp := facN_pos n
  have hsum := sumG_le (ordsM n) hg
  have loop : ∀ (d i m : Nat), (ordsM n).length = i + d → m + sumG g ((ordsM n).drop i) = sumG g (ordsM n) → Ev (fun k => impl_mean.l0 of_ k (n : Int) (m : Int) (ordsM n) ((ordsM n).length : Int) (i : Int)) (cutM (sumG g (ordsM n)) (facN n)) := by
    intro d
    induction d with
    | zero =>
      intro i m h hm
      refine Ev.step (fun k => by rw [impl_mean.l0]) ?_
      rw [List.drop_of_length_le (by omega), sumG, Nat.add_zero] at hm
      rw [hm]
      refine Ev.neg (by omega) (Ev.bind (factorial_ev n h7) (Ev.bind (cut_ev _ _ (by omega) (by omega) hp).2 (Ev.val rfl)))
    | succ d ih =>
      intro i m h hm
      refine Ev.step (fun k => by rw [impl_mean.l0]) ?_
      have hi : i < (ordsM n).length := by omega
      have e2 : rd_L1 (ordsM n) (i : Int) = (ordsM n).getD i [] := rfl
      have hmem : (ordsM n).getD i [] ∈ ordsM n := by rw [List.getD_eq_getElem?_getD, List.getElem?_eq_getElem hi]; exact List.getElem_mem hi
      rw [drop_stepLL _ i hi, sumG] at hm
      have e : wrap64 ((i : Int) + 1) = ((i + 1 : Nat) : Int) := wup i (by omega)
      have e3 : wrap64 ((m : Int) + (g ((ordsM n).getD i []) : Int)) = ((m + g ((ordsM n).getD i []) : Nat) : Int) := by rw [w64 (by omega)]; omega
      refine Ev.pos (by omega) (Ev.pos (by omega) (Ev.pos (by omega) ?_))
      simp only [e, e2]
      refine Ev.bind (ho _ hmem) ?_
      rw [e3]
      exact ih (i + 1) _ (by omega) (by omega)
  unfold impl_drawnMean.f impl_mean.f impl_isDrawn.f
  refine Ev.bind (a := decide (n ≤ 6)) (Ev.pos (by omega) (Ev.val (by simp; omega))) ?_
  by_cases h6 : n ≤ 6
  · rw [if_pos h6]
    refine Ev.pos (by simpa using h6) (Ev.pos rfl (Ev.bind (a := cutM (sumG g (ordsM n)) (facN n)) (Ev.bind (allOrders_ev n h7) ?_) (Ev.val rfl)))
    exact loop (ordsM n).length 0 0 (by omega) (by rw [List.drop_zero, Nat.zero_add])
  · rw [if_neg h6]
    exact Ev.neg (by simpa using h6) (Ev.val rfl)

theorem spec_loop (n : Nat) (h1 : 1 ≤ n) (h7 : n ≤ 7) (g : List Int → Nat) (hg : ∀ l ∈ ordsM n, g l ≤ 100) (hev : ∀ l ∈ ordsM n, ∃ r, Ev (fun k => spec_l5Runs.f k l) r ∧ r.length = g l) : ∀ (d i m : Nat), (ordsM n).length = i + d → m + sumG g ((ordsM n).drop i) = sumG g (ordsM n) → Ev (fun k => spec_MeanRuns.l0 k (m : Int) (ordsM n) (i : Int)) ((cutM (sumG g (ordsM n)) (facN n)).1, (cutM (sumG g (ordsM n)) (facN n)).2, true) := by
  have hlen := facN_le n
  have hol := ordsM_length n
  have hp := facN_pos n
  have hsum := sumG_le (ordsM n) hg
  intro d
  induction d with
  | zero =>
    intro i m h hm
    refine Ev.step (fun k => by rw [spec_MeanRuns.l0]) ?_
    rw [List.drop_of_length_le (by omega), sumG, Nat.add_zero] at hm
    rw [hm]
    refine Ev.neg (by omega) (Ev.bind (a := cutM (sumG g (ordsM n)) (facN n)) ?_ (Ev.val rfl))
    rw [hol]
    exact (cut_ev _ _ (by omega) (by omega) hp).1
  | succ d ih =>
    intro i m h hm
    refine Ev.step (fun k => by rw [spec_MeanRuns.l0]) ?_
    have hi : i < (ordsM n).length := by omega
    obtain ⟨x, hx⟩ : ∃ x, (ordsM n).getD i [] = x := ⟨_, rfl⟩
    have e2 : rd_L1 (ordsM n) (i : Int) = x := hx
    have hmem : x ∈ ordsM n := by rw [← hx, List.getD_eq_getElem?_getD, List.getElem?_eq_getElem hi]; exact List.getElem_mem hi
    rw [drop_stepLL _ i hi, hx, sumG] at hm
    obtain ⟨r, hr, hrl⟩ := hev x hmem
    have hgx := hg x hmem
    refine Ev.pos (by omega) (Ev.pos (by omega) ?_)
    rw [wup i (by omega), e2]
    refine Ev.bind hr ?_
    have e3 : wrap64 ((m : Int) + (r.length : Int)) = ((m + g x : Nat) : Int) := by rw [hrl, w64 (by omega)]; omega
    rw [e3]
    exact ih (i + 1) _ (by omega) (by omega)
theorem runs_g (n : Nat) (h7 : n ≤ 7) : (∀ l ∈ ordsM n, (runsM l).length ≤ 100) ∧ ∀ l ∈ ordsM n, ∃ r, Ev (fun k => spec_l5Runs.f k l) r ∧ r.length = (runsM l).length := by
  refine ⟨fun l hl => ?_, fun l hl => ?_⟩
  · have := runsM_len l; have := ordsM_len n l hl; omega
  · exact ⟨_, (runs_ev l (by have := ordsM_len n l hl; omega)).1, rfl⟩
theorem mean1_ev (n : Nat) (h1 : 1 ≤ n) (h7 : n ≤ 7) : Ev (fun k => impl_drawnMean.f impl_MeanRuns_1.f k (n : Int) true ⟨#[]⟩) (if n ≤ 6 then ((cutM (sumG (fun l => (runsM l).length) (ordsM n)) (facN n)).1, (cutM (sumG (fun l => (runsM l).length) (ordsM n)) (facN n)).2, true) else (0, 0, false)) := by
  refine mean_ev _ (fun l => (runsM l).length) n h1 h7 (fun l hl => by have := runsM_len l; have := ordsM_len n l hl; omega) (fun l hl => ?_)
  unfold impl_MeanRuns_1.f
  exact Ev.bind (runs_ev l (by have := ordsM_len n l hl; omega)).2 (Ev.val rfl)
theorem drawn_any (of_ : Nat → List Int → Option Int) (k : Nat) (n : Int) (s s' : ByteArray) : impl_drawnMean.f of_ k n true s = impl_drawnMean.f of_ k n true s' := rfl
theorem l9Size_is (a : Int) : spec_l9Size.f a = some (decide (1 ≤ a ∧ a ≤ 6)) := by
  unfold spec_l9Size.f
  rw [l1In_is]; rfl
theorem isDrawn_is (a : Int) : impl_isDrawn.f a = some (decide (1 ≤ a ∧ a ≤ 6)) := by
  unfold impl_isDrawn.f
  by_cases h : a ≥ 1
  · rw [if_pos h]; simp [h]
  · rw [if_neg h]; simp; omega
theorem both_ev (n : Int) : ∃ r : Int × Int × Bool, Ev (fun q => spec_MeanRuns.f q n) r ∧ Ev (fun q => impl_MeanRuns.f q n) r := by
  unfold spec_MeanRuns.f impl_MeanRuns.f
  simp only [l9Size_is, Option.bind_some]
  by_cases hn : 1 ≤ n ∧ n ≤ 6
  · obtain ⟨m, rfl⟩ := Int.eq_ofNat_of_zero_le (show 0 ≤ n by omega)
    refine ⟨((cutM (sumG (fun l => (runsM l).length) (ordsM m)) (facN m)).1, (cutM (sumG (fun l => (runsM l).length) (ordsM m)) (facN m)).2, true), ?_, ?_⟩
    · refine Ev.pos (by simpa using hn) (Ev.bind (l2Orders_ev m (by omega)) ?_)
      exact spec_loop m (by omega) (by omega) _ (runs_g m (by omega)).1 (runs_g m (by omega)).2 (ordsM m).length 0 0 (by omega) (by rw [List.drop_zero, Nat.zero_add])
    · have := mean1_ev m (by omega) (by omega)
      rw [if_pos (by omega)] at this
      exact Ev.bind this (Ev.val rfl)
  · refine ⟨(0, 0, false), ?_, ?_⟩
    · exact Ev.neg (by simpa using hn) (Ev.val rfl)
    · unfold impl_drawnMean.f
      simp only [isDrawn_is, Option.bind_some]
      exact Ev.bind (Ev.neg (by simpa using hn) (Ev.val rfl)) (Ev.val rfl)
theorem FnExactMeanRuns : laws_FnExactMeanRuns.Pure := by
  intro n _
  refine Ev.rounds (?_ : Ev (fun q => laws_FnExactMeanRuns.f q n) true)
  obtain ⟨r, h1, h2⟩ := both_ev n
  unfold laws_FnExactMeanRuns.f
  refine Ev.bind h1 (Ev.bind h2 ?_)
  unfold laws_eqIntA2.f
  refine Ev.bind (a := true) (Ev.val (by simp)) ?_
  exact Ev.pos rfl (Ev.neg (by simp) (Ev.val rfl))

end Go.Proofs.Ytnfcopikfbnheaa.Pure
