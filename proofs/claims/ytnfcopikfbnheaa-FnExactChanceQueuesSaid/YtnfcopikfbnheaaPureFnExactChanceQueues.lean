/- The program's ChanceQueues returns what the reference's returns, for all numbers. -/
import Derived.Test.YtnfcopikfbnheaaPFnExactChanceQueuesx7
import Derived.Test.YtnfcopikfbnheaaK
set_option linter.unusedVariables false
set_option linter.unusedSimpArgs false
namespace Go.Proofs.Ytnfcopikfbnheaa.Pure
open Go.RowKit Go.Proofs.Ytnfcopikfbnheaa.PFnExactChanceQueues Go.Proofs.YtnfcopikfbnheaaW.PrintWords Go.Proofs.YtnfcopikfbnheaaW.PrintLast Go.Proofs.YtnfcopikfbnheaaW.PrintMore

theorem l1In_is (a b c : Int) : spec_l1In.f a b c = some (decide (b ≤ a ∧ a ≤ c)) := by
  unfold spec_l1In.f
  by_cases h : a ≥ b
  · rw [if_pos h]; simp [h]
  · rw [if_neg h]; simp; omega

/-! a check of all orders, by the kernel -/
def isOk : Option Bool → Bool
  | some true => true
  | _ => false
theorem isOk_some {o : Option Bool} (h : isOk o = true) : o = some true := by
  unfold isOk at h
  split at h
  · rfl
  · cases h
def allO (ns : List Int) (p : List Int → Bool) : Nat → List Int → Bool
  | 0, q => p q
  | d + 1, q => ns.all fun c => q.contains c || allO ns p d (c :: q)
theorem isOrd_drop {l : List Int} (h : isOrd l = true) (i : Nat) (hi : i < l.length) : nth l i ∉ l.drop (i + 1) := by
  intro hm
  obtain ⟨j, hj, e⟩ := List.mem_iff_getElem.1 hm
  rw [List.getElem_drop] at e
  simp only [List.length_drop] at hj
  refine (isOrd_at h (i + 1 + j) (by omega)).2.2 ?_
  rw [nth_lt l (i + 1 + j) (by omega), e, nth_lt l i hi, List.mem_take_iff_getElem]
  exact ⟨i, by omega, rfl⟩
theorem allO_mem {l : List Int} (h : isOrd l = true) (ns : List Int) (hns : ∀ x : Int, 1 ≤ x → x ≤ l.length → x ∈ ns) (p : List Int → Bool) : ∀ i, i ≤ l.length → allO ns p i (l.drop i) = true → p l = true
  | 0, _, hp => by simpa [allO] using hp
  | i + 1, hi, hp => by
    rw [allO, List.all_eq_true] at hp
    have ha := isOrd_at h i (by omega)
    have h1 := hp (nth l i) (hns _ ha.1 ha.2.1)
    have h2 : (l.drop (i + 1)).contains (nth l i) = false := by
      have := isOrd_drop h i (by omega)
      simpa using this
    rw [h2, Bool.false_or, ← drop_step l i (by omega)] at h1
    exact allO_mem h ns hns p i (by omega) h1
def intsTo (n : Nat) : List Int := ([1, 2, 3, 4, 5, 6, 7] : List Int).take n
theorem intsTo_mem : ∀ n : Nat, n ≤ 7 → ∀ x : Int, 1 ≤ x → x ≤ n → x ∈ intsTo n := by
  intro n hn x h1 h2
  have hx : x = 1 ∨ x = 2 ∨ x = 3 ∨ x = 4 ∨ x = 5 ∨ x = 6 ∨ x = 7 := by omega
  have hn' : n = 0 ∨ n = 1 ∨ n = 2 ∨ n = 3 ∨ n = 4 ∨ n = 5 ∨ n = 6 ∨ n = 7 := by omega
  rcases hn' with rfl | rfl | rfl | rfl | rfl | rfl | rfl | rfl <;> rcases hx with rfl | rfl | rfl | rfl | rfl | rfl | rfl <;> first | (exfalso; omega) | simp [intsTo]
theorem orders_all {l : List Int} (h : isOrd l = true) (p : List Int → Bool) (hp : ∀ n ∈ [1, 2, 3, 4, 5, 6, 7], allO (intsTo n) p n [] = true) : p l = true := by
  have hl := isOrd_len h
  have hm : l.length ∈ [1, 2, 3, 4, 5, 6, 7] := by
    have : l.length = 1 ∨ l.length = 2 ∨ l.length = 3 ∨ l.length = 4 ∨ l.length = 5 ∨ l.length = 6 ∨ l.length = 7 := by omega
    simp [this]
  refine allO_mem h (intsTo l.length) (fun x h1 h2 => intsTo_mem l.length hl.2 x h1 h2) p l.length (Nat.le_refl _) ?_
  rw [List.drop_length]
  exact hp _ hm

/-! how many orders; all orders -/
def facN (n : Nat) : Nat := [1, 1, 2, 6, 24, 120, 720, 5040].getD n 1
theorem facN_pos (n : Nat) : 0 < facN n := by
  rcases Nat.lt_or_ge n 8 with h | h
  · have : n = 0 ∨ n = 1 ∨ n = 2 ∨ n = 3 ∨ n = 4 ∨ n = 5 ∨ n = 6 ∨ n = 7 := by omega
    rcases this with rfl | rfl | rfl | rfl | rfl | rfl | rfl | rfl <;> decide
  · unfold facN
    rw [List.getD_eq_getElem?_getD, List.getElem?_eq_none (by simpa using h)]
    decide
theorem facN_le (n : Nat) : facN n ≤ 5040 := by
  rcases Nat.lt_or_ge n 8 with h | h
  · have : n = 0 ∨ n = 1 ∨ n = 2 ∨ n = 3 ∨ n = 4 ∨ n = 5 ∨ n = 6 ∨ n = 7 := by omega
    rcases this with rfl | rfl | rfl | rfl | rfl | rfl | rfl | rfl <;> decide
  · unfold facN
    rw [List.getD_eq_getElem?_getD, List.getElem?_eq_none (by simpa using h)]
    decide
theorem facN_succ (n : Nat) (h : n ≤ 6) : facN (n + 1) = (n + 1) * facN n := by
  have : n = 0 ∨ n = 1 ∨ n = 2 ∨ n = 3 ∨ n = 4 ∨ n = 5 ∨ n = 6 := by omega
  rcases this with rfl | rfl | rfl | rfl | rfl | rfl | rfl <;> decide
def atM : Nat → List Int → Nat → List Int
  | 0, _, _ => []
  | d + 1, left, k => nth left (k / facN d) :: atM d (left.take (k / facN d) ++ left.drop (k / facN d + 1)) (k % facN d)
theorem atM_length : ∀ (d : Nat) (left : List Int) (k : Nat), (atM d left k).length = d
  | 0, _, _ => rfl
  | d + 1, left, k => by rw [atM, List.length_cons, atM_length d]
def ordsM (n : Nat) : List (List Int) := (List.range (facN n)).map fun k => atM n (marked 1 n) k
theorem ordsM_length (n : Nat) : (ordsM n).length = facN n := by simp [ordsM]
theorem ordsM_len (n : Nat) (l : List Int) (h : l ∈ ordsM n) : l.length = n := by
  obtain ⟨k, _, rfl⟩ := List.mem_map.1 h
  exact atM_length n _ k
theorem tdiv_nat (a b : Nat) : Int.tdiv (a : Int) (b : Int) = ((a / b : Nat) : Int) := (Int.ofNat_tdiv a b).symm
theorem tmod_nat (a b : Nat) : Int.tmod (a : Int) (b : Int) = ((a % b : Nat) : Int) := (Int.ofNat_tmod a b).symm
theorem div_lt_of (d k : Nat) (hd : d ≤ 6) (h : k < facN (d + 1)) : k / facN d < d + 1 := by
  rw [Nat.div_lt_iff_lt_mul (facN_pos d), ← facN_succ d hd]
  exact h

theorem l1Own_is (l : List Int) (h : l.length < 17592186044416) : spec_l1Own.f l = some l := by
  unfold spec_l1Own.f
  simp [h]

theorem l2Sorted_l (n : Nat) (hn : n ≤ 1000) : ∀ d i : Nat, n = i + d → Ev (fun k => spec_l2Sorted.l0 k n (marked 1 i) ((i : Int) + 1)) (marked 1 n)
  | 0, i, h => by
    refine Ev.step (fun k => by rw [spec_l2Sorted.l0]) (Ev.neg (by omega) (Ev.val ?_))
    rw [h, Nat.add_zero]
  | d + 1, i, h => by
    refine Ev.step (fun k => by rw [spec_l2Sorted.l0]) ?_
    have e : wrap64 ((i : Int) + 1 + 1) = ((i + 1 : Nat) : Int) + 1 := by rw [w64 (by omega)]; omega
    have e2 : marked 1 i ++ [(i : Int) + 1] = marked 1 (i + 1) := by rw [marked_snoc]; congr 2; omega
    simp only [e, e2]
    exact Ev.pos (by omega) (Ev.pos (by rw [marked_length]; omega) (l2Sorted_l n hn d (i + 1) (by omega)))
theorem l2Sorted_ev (n : Nat) (hn : n ≤ 1000) : Ev (fun k => spec_l2Sorted.f k n) (marked 1 n) := l2Sorted_l n hn n 0 (by omega)

theorem sorted_l (n : Nat) (hn : n ≤ 1000) : ∀ d i : Nat, n = i + d → Ev (fun k => impl_sorted.l0 k (marked 1 i) n i) (marked 1 n)
  | 0, i, h => by
    refine Ev.step (fun k => by rw [impl_sorted.l0]) (Ev.neg (by omega) (Ev.val ?_))
    rw [h, Nat.add_zero]
  | d + 1, i, h => by
    refine Ev.step (fun k => by rw [impl_sorted.l0]) ?_
    have e : wrap64 ((i : Int) + 1) = ((i + 1 : Nat) : Int) := by rw [w64 (by omega)]; omega
    have e2 : marked 1 i ++ [((i + 1 : Nat) : Int)] = marked 1 (i + 1) := by rw [marked_snoc]; congr 2; omega
    simp only [e, e2]
    exact Ev.pos (by omega) (Ev.pos (by rw [marked_length]; omega) (sorted_l n hn d (i + 1) (by omega)))
theorem sorted_ev (n : Nat) (hn : n ≤ 1000) : Ev (fun k => impl_sorted.f k n) (marked 1 n) := sorted_l n hn n 0 (by omega)

theorem l2Ways_ev (n : Nat) (h : n ≤ 7) : Ev (fun k => spec_l2Ways.f k (n : Int)) (facN n : Int) := by
  have : n = 0 ∨ n = 1 ∨ n = 2 ∨ n = 3 ∨ n = 4 ∨ n = 5 ∨ n = 6 ∨ n = 7 := by omega
  rcases this with rfl | rfl | rfl | rfl | rfl | rfl | rfl | rfl <;> exact Ev.of (fun k => spec_l2Ways.mono _ k) (k := 10) (by decide +kernel)
theorem l2At_l : ∀ (d : Nat) (left acc : List Int) (k : Nat), left.length = d → d ≤ 7 → acc.length + d ≤ 100 → k < facN d → Ev (fun q => spec_l2At.l0 q (k : Int) acc left) (acc ++ atM d left k)
  | 0, left, acc, k, hl, hd, ha, hk => by
    refine Ev.step (fun q => by rw [spec_l2At.l0]) (Ev.neg (by omega) (Ev.val ?_))
    rw [atM, List.append_nil]
  | d + 1, left, acc, k, hl, hd, ha, hk => by
    refine Ev.step (fun q => by rw [spec_l2At.l0]) (Ev.pos (by omega) ?_)
    have e1 : wrap64 ((left.length : Int) - 1) = (d : Int) := by rw [w64 (by omega)]; omega
    rw [e1]
    clear e1
    refine Ev.bind (l2Ways_ev d (by omega)) (Ev.neg (by have := facN_pos d; omega) ?_)
    have hq := div_lt_of d k (by omega) hk
    have h5 := facN_le (d + 1)
    have e2 : wrap64 (Int.tdiv (k : Int) (facN d : Int)) = ((k / facN d : Nat) : Int) := by rw [tdiv_nat]; exact w64n _ (by have := Nat.div_le_self k (facN d); omega)
    have hmod := Nat.mod_lt k (facN_pos d)
    simp only [e2, tmod_nat]
    rw [atM]
    clear e2 hk
    generalize k / facN d = qq at hq ⊢
    generalize k % facN d = k2 at hmod ⊢
    have e3 : wrap64 ((qq : Int) + 1) = ((qq + 1 : Nat) : Int) := by rw [w64 (by omega)]; omega
    simp only [e3, Int.toNat_natCast, rd_nat]
    clear e3
    refine Ev.pos (by omega) (Ev.pos (by omega) (Ev.pos (by omega) (Ev.pos (by omega) ?_)))
    have h1 : (left.take qq).length < 17592186044416 := by rw [List.length_take]; omega
    simp only [l1Own_is _ h1, Option.bind_some]
    refine Ev.pos (by omega) (Ev.pos (by omega) (Ev.pos (by rw [List.length_take, List.length_drop]; omega) ?_))
    refine Ev.to (l2At_l d _ _ k2 (by rw [List.length_append, List.length_take, List.length_drop]; omega) (by omega) (by rw [List.length_append, List.length_singleton]; omega) hmod) ?_
    rw [List.append_assoc]; rfl
theorem l2At_ev (n k : Nat) (hn : n ≤ 7) (hk : k < facN n) : Ev (fun q => spec_l2At.f q (n : Int) (k : Int)) (atM n (marked 1 n) k) := by
  unfold spec_l2At.f
  exact Ev.bind (l2Sorted_ev n (by omega)) (Ev.to (l2At_l n _ [] k (marked_length n 1) hn (by simp; omega) hk) (List.nil_append _))
theorem l2Orders_l (n : Nat) (hn : n ≤ 7) : ∀ (d i : Nat), facN n = i + d → Ev (fun q => spec_l2Orders.l0 q (n : Int) ((List.range i).map fun k => atM n (marked 1 n) k) (i : Int)) (ordsM n)
  | 0, i, h => by
    refine Ev.step (fun q => by rw [spec_l2Orders.l0]) ?_
    refine Ev.bind (l2Ways_ev n hn) ?_
    refine Ev.neg (by omega) (Ev.val ?_)
    rw [ordsM, h, Nat.add_zero]
  | d + 1, i, h => by
    have h5 := facN_le n
    refine Ev.step (fun q => by rw [spec_l2Orders.l0]) ?_
    refine Ev.bind (l2Ways_ev n hn) ?_
    refine Ev.pos (by omega) ?_
    refine Ev.bind (l2At_ev n i hn (by omega)) ?_
    refine Ev.pos (by rw [List.length_map, List.length_range]; omega) ?_
    have e : wrap64 ((i : Int) + 1) = ((i + 1 : Nat) : Int) := by rw [w64 (by omega)]; omega
    have e2 : ((List.range i).map fun k => atM n (marked 1 n) k) ++ [atM n (marked 1 n) i] = (List.range (i + 1)).map fun k => atM n (marked 1 n) k := by rw [List.range_succ, List.map_append]; rfl
    simp only [e, e2]
    exact l2Orders_l n hn d (i + 1) (by omega)
theorem l2Orders_ev (n : Nat) (hn : n ≤ 7) : Ev (fun q => spec_l2Orders.f q (n : Int)) (ordsM n) := by
  unfold spec_l2Orders.f
  exact l2Orders_l n hn (facN n) 0 (by omega)

theorem factorial_ev (n : Nat) (h : n ≤ 7) : Ev (fun k => impl_factorial.f k (n : Int)) (facN n : Int) := by
  have : n = 0 ∨ n = 1 ∨ n = 2 ∨ n = 3 ∨ n = 4 ∨ n = 5 ∨ n = 6 ∨ n = 7 := by omega
  rcases this with rfl | rfl | rfl | rfl | rfl | rfl | rfl | rfl <;> exact Ev.of (fun k => impl_factorial.mono _ k) (k := 10) (by decide +kernel)
theorem orderAt_l : ∀ (d : Nat) (left acc : List Int) (k : Nat), left.length = d → d ≤ 7 → acc.length + d ≤ 100 → k < facN d → Ev (fun q => impl_orderAt.l0 q (k : Int) left acc) (acc ++ atM d left k)
  | 0, left, acc, k, hl, hd, ha, hk => by
    refine Ev.step (fun q => by rw [impl_orderAt.l0]) (Ev.neg (by omega) (Ev.val ?_))
    rw [atM, List.append_nil]
  | d + 1, left, acc, k, hl, hd, ha, hk => by
    refine Ev.step (fun q => by rw [impl_orderAt.l0]) (Ev.pos (by omega) ?_)
    have e1 : wrap64 ((left.length : Int) - 1) = (d : Int) := by rw [w64 (by omega)]; omega
    rw [e1]
    clear e1
    refine Ev.bind (factorial_ev d (by omega)) (Ev.neg (by have := facN_pos d; omega) ?_)
    have hq := div_lt_of d k (by omega) hk
    have h5 := facN_le (d + 1)
    have e2 : wrap64 (Int.tdiv (k : Int) (facN d : Int)) = ((k / facN d : Nat) : Int) := by rw [tdiv_nat]; exact w64n _ (by have := Nat.div_le_self k (facN d); omega)
    have hmod := Nat.mod_lt k (facN_pos d)
    simp only [e2, tmod_nat]
    rw [atM]
    clear e2 hk
    generalize k / facN d = qq at hq ⊢
    generalize k % facN d = k2 at hmod ⊢
    have e3 : wrap64 ((qq : Int) + 1) = ((qq + 1 : Nat) : Int) := by rw [w64 (by omega)]; omega
    simp only [e3, rd_nat]
    clear e3
    have hdel : slices_Delete_int_int.f left (qq : Int) ((qq + 1 : Nat) : Int) = some (left.take qq ++ left.drop (qq + 1)) := by
      unfold slices_Delete_int_int.f
      rw [if_pos (by omega), Int.toNat_natCast, Int.toNat_natCast]
    refine Ev.pos (by omega) (Ev.pos (by omega) (Ev.pos (by omega) ?_))
    simp only [hdel, Option.bind_some]
    refine Ev.to (orderAt_l d _ _ k2 (by rw [List.length_append, List.length_take, List.length_drop]; omega) (by omega) (by rw [List.length_append, List.length_singleton]; omega) hmod) ?_
    rw [List.append_assoc]; rfl
theorem orderAt_ev (n k : Nat) (hn : n ≤ 7) (hk : k < facN n) : Ev (fun q => impl_orderAt.f q (n : Int) (k : Int)) (atM n (marked 1 n) k) := by
  unfold impl_orderAt.f
  exact Ev.bind (sorted_ev n (by omega)) (Ev.to (orderAt_l n _ [] k (marked_length n 1) hn (by simp; omega) hk) (List.nil_append _))
theorem allOrders_l (n : Nat) (hn : n ≤ 7) : ∀ (d i : Nat), facN n = i + d → Ev (fun q => impl_allOrders.l0 q (n : Int) ((List.range i).map fun k => atM n (marked 1 n) k) (facN n : Int) (i : Int)) (ordsM n)
  | 0, i, h => by
    refine Ev.step (fun q => by rw [impl_allOrders.l0]) (Ev.neg (by omega) (Ev.val ?_))
    rw [ordsM, h, Nat.add_zero]
  | d + 1, i, h => by
    have h5 := facN_le n
    refine Ev.step (fun q => by rw [impl_allOrders.l0]) ?_
    refine Ev.pos (by omega) ?_
    refine Ev.bind (orderAt_ev n i hn (by omega)) ?_
    refine Ev.pos (by rw [List.length_map, List.length_range]; omega) ?_
    have e : wrap64 ((i : Int) + 1) = ((i + 1 : Nat) : Int) := by rw [w64 (by omega)]; omega
    have e2 : ((List.range i).map fun k => atM n (marked 1 n) k) ++ [atM n (marked 1 n) i] = (List.range (i + 1)).map fun k => atM n (marked 1 n) k := by rw [List.range_succ, List.map_append]; rfl
    simp only [e, e2]
    exact allOrders_l n hn d (i + 1) (by omega)
theorem allOrders_ev (n : Nat) (hn : n ≤ 7) : Ev (fun q => impl_allOrders.f q (n : Int)) (ordsM n) := by
  unfold impl_allOrders.f
  exact Ev.bind (factorial_ev n hn) (allOrders_l n hn (facN n) 0 (by omega))

theorem isOrd_of {l : List Int} (h1 : 1 ≤ l.length) (h2 : l.length ≤ 7) (hd : l.Nodup) (hm : ∀ x ∈ l, 1 ≤ x ∧ x ≤ l.length) : isOrd l = true := by
  simp only [isOrd, Bool.and_eq_true, decide_eq_true_eq]
  refine ⟨h1, h2, (allFrom_iff _ _ _).2 fun j _ hj => ?_⟩
  have hj' : j < l.length := by omega
  have := hm (nth l j) (by rw [nth_lt _ _ hj']; exact List.getElem_mem hj')
  have hn : nth l j ∉ l.take j := by
    intro hc
    obtain ⟨i, hi, e⟩ := List.mem_take_iff_getElem.1 hc
    rw [nth_lt _ _ hj'] at e
    have := (List.getElem_inj hd).1 e
    omega
  simp [ordAt, this.1, this.2, hn]

theorem atM_mem : ∀ (d : Nat) (left : List Int) (k : Nat), left.length = d → d ≤ 7 → k < facN d → (∀ x ∈ atM d left k, x ∈ left) ∧ (left.Nodup → (atM d left k).Nodup)
  | 0, left, k, _, _, _ => ⟨fun x hx => by simp [atM] at hx, fun _ => by simp [atM]⟩
  | d + 1, left, k, hl, hd, hk => by
    have hq := div_lt_of d k (by omega) hk
    have hmod := Nat.mod_lt k (facN_pos d)
    rw [atM]
    generalize k / facN d = q at hq ⊢
    have ih := atM_mem d (left.take q ++ left.drop (q + 1)) (k % facN d) (by rw [List.length_append, List.length_take, List.length_drop]; omega) (by omega) hmod
    have hsub : ∀ x ∈ left.take q ++ left.drop (q + 1), x ∈ left := fun x hx => by
      rcases List.mem_append.1 hx with hx | hx
      · exact List.mem_of_mem_take hx
      · exact List.mem_of_mem_drop hx
    refine ⟨fun x hx => ?_, fun hn => ?_⟩
    · rcases List.mem_cons.1 hx with rfl | hx
      · rw [nth_lt _ _ (by omega)]; exact List.getElem_mem _
      · exact hsub x (ih.1 x hx)
    · have e : left = left.take q ++ nth left q :: left.drop (q + 1) := by
        rw [← drop_step left q (by omega), List.take_append_drop]
      have hn2 := hn
      rw [e, List.nodup_append] at hn2
      obtain ⟨n1, n2, n3⟩ := hn2
      rw [List.nodup_cons] at n2 ⊢
      refine ⟨fun hc => ?_, ih.2 ?_⟩
      · rcases List.mem_append.1 (ih.1 _ hc) with hc | hc
        · exact n3 _ hc _ (by simp) rfl
        · exact n2.1 hc
      · rw [List.nodup_append]
        exact ⟨n1, n2.2, fun a ha b hb => n3 a ha b (by simp [hb])⟩
theorem marked_mem (n : Nat) : ∀ (a x : Int), x ∈ marked a n → a ≤ x ∧ x < a + n := by
  induction n with
  | zero => intro a x h; simp [marked] at h
  | succ n ih =>
    intro a x h
    rw [marked, List.mem_cons] at h
    rcases h with rfl | h
    · omega
    · have := ih (a + 1) x h; omega
theorem marked_nodup (n : Nat) : ∀ (a : Int), (marked a n).Nodup := by
  induction n with
  | zero => intro a; simp [marked]
  | succ n ih =>
    intro a
    rw [marked, List.nodup_cons]
    exact ⟨fun h => by have := marked_mem n _ _ h; omega, ih _⟩
theorem ordsM_ord (n : Nat) (h1 : 1 ≤ n) (h2 : n ≤ 7) (l : List Int) (h : l ∈ ordsM n) : isOrd l = true := by
  obtain ⟨k, hk, rfl⟩ := List.mem_map.1 h
  have hk := List.mem_range.1 hk
  have hm := atM_mem n (marked 1 n) k (marked_length n 1) h2 hk
  have hl := atM_length n (marked 1 n) k
  refine isOrd_of (by omega) (by omega) (hm.2 (marked_nodup n 1)) fun x hx => ?_
  have := marked_mem n 1 x (hm.1 x hx)
  rw [hl]
  omega

/-! numbers into queues -/
def lastOf (q : List Int) : Int := nth q (q.length - 1)
def putBy (p : List Int → Bool) (qs : List (List Int)) (x : Int) : List (List Int) := if idxF p qs < 0 then qs ++ [[x]] else qs.set (idxF p qs).toNat (qs.getD (idxF p qs).toNat [] ++ [x])
def qS (l : List Int) : List (List Int) := l.foldl (fun qs x => putBy (fun q => decide (¬ lastOf q > x)) qs x) []
def qI (l : List Int) : List (List Int) := l.foldl (fun qs x => putBy (fun q => decide (lastOf q < x)) qs x) []
/-- none is empty; not too many, not too long -/
def Fit (i : Nat) (qs : List (List Int)) : Prop := qs.length ≤ i ∧ ∀ q ∈ qs, 0 < q.length ∧ q.length ≤ i
theorem idxF_lt {p : List Int → Bool} {qs : List (List Int)} (h : ¬ idxF p qs < 0) : (idxF p qs).toNat < qs.length := by
  have := idxF_ge p qs
  omega
theorem putBy_fit {p : List Int → Bool} {i : Nat} {qs : List (List Int)} (x : Int) (h : Fit i qs) : Fit (i + 1) (putBy p qs x) := by
  unfold putBy
  split
  · refine ⟨by simp; exact h.1, fun q hq => ?_⟩
    rw [List.mem_append] at hq
    rcases hq with hq | hq
    · have := h.2 q hq; omega
    · rw [List.mem_singleton] at hq; subst hq; simp
  · rename_i hn
    have hlt := idxF_lt hn
    refine ⟨by rw [List.length_set]; have := h.1; omega, fun q hq => ?_⟩
    rcases List.mem_or_eq_of_mem_set hq with hq | hq
    · have := h.2 q hq; omega
    · have := h.2 (qs.getD (idxF p qs).toNat []) (by rw [List.getD_eq_getElem?_getD, List.getElem?_eq_getElem hlt]; exact List.getElem_mem hlt)
      subst hq
      rw [List.length_append, List.length_singleton]
      omega
theorem rd_L3_nat (xs : List (List Int)) (i : Nat) : rd_L3 xs (i : Int) = xs.getD i [] := rfl
theorem getD_mem {xs : List (List Int)} {i : Nat} (h : i < xs.length) : xs.getD i [] ∈ xs := by
  rw [List.getD_eq_getElem?_getD, List.getElem?_eq_getElem h]; exact List.getElem_mem h
/-- the first place at which p holds -/
theorem idxF_at {p : List Int → Bool} : ∀ (qs : List (List Int)) (j : Nat), j < qs.length → p (qs.getD j []) = true → (∀ i, i < j → p (qs.getD i []) = false) → idxF p qs = j
  | [], j, h, _, _ => by simp at h
  | q :: qs, 0, h, e, _ => by
    have h0 : p q = true := by simpa using e
    simp [idxF, h0]
  | q :: qs, j + 1, h, e, hq => by
    have h0 : p q = false := by simpa using hq 0 (by omega)
    have h1 := idxF_at qs j (by simpa using h) (by simpa using e) fun i hi => by simpa using hq (i + 1) (by omega)
    simp only [idxF, h0, h1]
    rw [if_neg (by simp), if_neg (by omega)]
    omega
theorem idxF_no {p : List Int → Bool} : ∀ (qs : List (List Int)), (∀ i, i < qs.length → p (qs.getD i []) = false) → idxF p qs = -1
  | [], _ => rfl
  | q :: qs, hq => by
    have h0 : p q = false := by simpa using hq 0 (by simp)
    have h1 := idxF_no qs fun i hi => by simpa using hq (i + 1) (by simpa using hi)
    simp [idxF, h0, h1]
theorem l5Queues_l1 (l : List Int) (r : List (List Int)) (i : Nat) (hi : i < l.length) (hl : l.length ≤ 1000) (qs : List (List Int)) (hf : Fit i qs)
    (hr : Ev (fun k => spec_l5Queues.l0 k l (putBy (fun q => decide (¬ lastOf q > nth l i)) qs (nth l i)) ((i + 1 : Nat) : Int)) r) :
    ∀ (d j : Nat), qs.length = j + d → (∀ m, m < j → lastOf (qs.getD m []) > nth l i) → Ev (fun k => spec_l5Queues.l1 k l qs (i : Int) (j : Int)) r
  | 0, j, h, hj => by
    have e : wrap64 ((i : Int) + 1) = ((i + 1 : Nat) : Int) := by rw [w64 (by omega)]; omega
    refine Ev.step (fun k => by rw [spec_l5Queues.l1]) (Ev.neg (by omega) (Ev.pos (by omega) ?_))
    have hq := hf.1
    simp only [e, rd_nat, Option.bind_some, rd_L3_nat, Int.toNat_natCast]
    clear e
    have hjl : j = qs.length := by omega
    subst hjl
    have e1 : (qs ++ [([] : List Int)]).getD qs.length [] = [] := by simp
    have e2 : (qs ++ [([] : List Int)]).set qs.length ([] ++ [nth l i]) = qs ++ [[nth l i]] := by rw [List.set_append_right _ _ (Nat.le_refl _)]; simp
    rw [e1, e2]
    have e3 : putBy (fun q => decide (¬ lastOf q > nth l i)) qs (nth l i) = qs ++ [[nth l i]] := by
      rw [putBy, idxF_no qs (fun m hm => by simpa using hj m hm), if_pos (by omega)]
    rw [e3] at hr
    exact Ev.pos (by omega) (Ev.pos (by omega) (Ev.pos (by rw [List.length_append, List.length_singleton]; omega) (Ev.pos (by omega) (Ev.pos (by omega) (Ev.pos (by simp) hr)))))
  | d + 1, j, h, hj => by
    have hjl : j < qs.length := by omega
    have hq := hf.2 _ (getD_mem hjl)
    have hql := hf.1
    refine Ev.step (fun k => by rw [spec_l5Queues.l1]) (Ev.pos (by omega) (Ev.pos (by omega) ?_))
    have e : wrap64 ((i : Int) + 1) = ((i + 1 : Nat) : Int) := by rw [w64 (by omega)]; omega
    have e1 : wrap64 ((j : Int) + 1) = ((j + 1 : Nat) : Int) := by rw [w64 (by omega)]; omega
    have e2 : wrap64 (((qs.getD j []).length : Int) - 1) = (((qs.getD j []).length - 1 : Nat) : Int) := by rw [w64 (by omega)]; omega
    simp only [rd_L3_nat, e, e1, e2, rd_nat, Int.toNat_natCast]
    clear e e1 e2
    refine Ev.pos (by omega) (Ev.pos (by omega) (Ev.pos (by omega) (Ev.pos (by omega) (Ev.ite (fun hc => ?_) (fun hc => Ev.neg (by omega) (Ev.pos (by omega) ?_))))))
    · exact l5Queues_l1 l r i hi hl qs hf hr d (j + 1) (by omega) (fun m hm => by
        by_cases hmj : m = j
        · subst hmj; exact hc
        · exact hj m (by omega))
    · have e3 : idxF (fun q => decide (¬ lastOf q > nth l i)) qs = (j : Int) := idxF_at qs j hjl (by simpa [lastOf] using hc) (fun m hm => by simpa using hj m hm)
      rw [putBy, e3, if_neg (by omega), Int.toNat_natCast] at hr
      exact hr
theorem l5Queues_l (l : List Int) (hl : l.length ≤ 1000) : ∀ (d i : Nat) (qs : List (List Int)), l.length = i + d → Fit i qs → Ev (fun k => spec_l5Queues.l0 k l qs (i : Int)) ((l.drop i).foldl (fun qs x => putBy (fun q => decide (¬ lastOf q > x)) qs x) qs)
  | 0, i, qs, h, hf => by
    refine Ev.step (fun k => by rw [spec_l5Queues.l0]) (Ev.neg (by omega) (Ev.val ?_))
    rw [List.drop_of_length_le (by omega)]; rfl
  | d + 1, i, qs, h, hf => by
    refine Ev.step (fun k => by rw [spec_l5Queues.l0]) (Ev.pos (by omega) ?_)
    refine l5Queues_l1 l _ i (by omega) hl qs hf ?_ qs.length 0 (by omega) (fun m hm => absurd hm (Nat.not_lt_zero _))
    rw [drop_step l i (by omega), List.foldl_cons]
    exact l5Queues_l l hl d (i + 1) _ (by omega) (putBy_fit _ hf)
theorem l5Queues_ev (l : List Int) (hl : l.length ≤ 1000) : Ev (fun k => spec_l5Queues.f k l) (qS l) := by
  unfold spec_l5Queues.f
  have := l5Queues_l l hl l.length 0 [] (by omega) ⟨by simp, fun q hq => by cases hq⟩
  rw [List.drop_zero] at this
  exact this
theorem queues1_is (q : List Int) (x : Int) (h : 0 < q.length) (h2 : q.length ≤ 1000) : impl_queues_1.f q x = some (decide (lastOf q < x)) := by
  unfold impl_queues_1.f
  have e2 : wrap64 ((q.length : Int) - 1) = ((q.length - 1 : Nat) : Int) := by rw [w64 (by omega)]; omega
  simp only [e2, rd_nat]
  clear e2
  rw [if_pos (by omega), if_pos (by omega)]
  rfl
theorem IndexFuncQ_l (of_ : Nat → List Int → Option Bool) (p : List Int → Bool) (l : List (List Int)) (hn : l.length ≤ 1000) (hof : ∀ k x, x ∈ l → of_ k x = some (p x)) : ∀ (d i : Nat), l.length = i + d → (∀ m, m < i → p (l.getD m []) = false) → Ev (fun k => slices_IndexFunc_int_int.l0 of_ k l (l.length : Int) i) (idxF p l)
  | 0, i, h, hq => by
    refine Ev.step (fun k => by rw [slices_IndexFunc_int_int.l0]) (Ev.neg (by omega) (Ev.val ?_))
    exact (idxF_no l fun m hm => hq m (by omega)).symm
  | d + 1, i, h, hq => by
    refine Ev.step (fun k => by rw [slices_IndexFunc_int_int.l0]) (Ev.pos (by omega) (Ev.pos (by omega) (Ev.pos (by omega) ?_)))
    have e : wrap64 ((i : Int) + 1) = ((i + 1 : Nat) : Int) := by rw [w64 (by omega)]; omega
    have e2 : ∀ k, of_ k (l.getD i []) = some (p (l.getD i [])) := fun k => hof k _ (getD_mem (by omega))
    simp only [e, rd_L3_nat, e2, Option.bind_some]
    clear e
    refine Ev.ite (fun hc => Ev.val ?_) (fun hc => ?_)
    · exact (idxF_at l i (by omega) hc hq).symm
    · rw [Bool.not_eq_true] at hc
      exact IndexFuncQ_l of_ p l hn hof d (i + 1) (by omega) (fun m hm => by
        by_cases hmi : m = i
        · subst hmi; exact hc
        · exact hq m (by omega))
theorem IndexFuncQ_ev (of_ : Nat → List Int → Option Bool) (p : List Int → Bool) (l : List (List Int)) (s : ByteArray) (hn : l.length ≤ 1000) (hof : ∀ k x, x ∈ l → of_ k x = some (p x)) : Ev (fun k => slices_IndexFunc_int_int.f of_ k l s) (idxF p l) := by
  unfold slices_IndexFunc_int_int.f
  exact IndexFuncQ_l of_ p l hn hof l.length 0 (by omega) (fun m hm => absurd hm (Nat.not_lt_zero _))
theorem queues_l (l : List Int) (hl : l.length ≤ 1000) : ∀ (d i : Nat) (qs : List (List Int)), l.length = i + d → Fit i qs → Ev (fun k => impl_queues.l0 k qs l (l.length : Int) (i : Int)) ((l.drop i).foldl (fun qs x => putBy (fun q => decide (lastOf q < x)) qs x) qs)
  | 0, i, qs, h, hf => by
    refine Ev.step (fun k => by rw [impl_queues.l0]) (Ev.neg (by omega) (Ev.val ?_))
    rw [List.drop_of_length_le (by omega)]; rfl
  | d + 1, i, qs, h, hf => by
    have hql := hf.1
    refine Ev.step (fun k => by rw [impl_queues.l0]) (Ev.pos (by omega) (Ev.pos (by omega) (Ev.pos (by omega) ?_)))
    have e : wrap64 ((i : Int) + 1) = ((i + 1 : Nat) : Int) := by rw [w64 (by omega)]; omega
    simp only [e, rd_nat]
    clear e
    refine Ev.bind (IndexFuncQ_ev _ (fun q => decide (lastOf q < nth l i)) qs _ (by omega) (fun k q hq => queues1_is q _ (hf.2 q hq).1 (by have := (hf.2 q hq).2; omega))) ?_
    have ih := queues_l l hl d (i + 1) (putBy (fun q => decide (lastOf q < nth l i)) qs (nth l i)) (by omega) (putBy_fit _ hf)
    rw [drop_step l i (by omega), List.foldl_cons]
    refine Ev.ite (fun hc => Ev.pos (by omega) ?_) (fun hc => ?_)
    · refine Ev.to ?_ rfl
      have e3 : putBy (fun q => decide (lastOf q < nth l i)) qs (nth l i) = qs ++ [[nth l i]] := by rw [putBy, if_pos hc]
      rw [e3] at ih ⊢
      exact ih
    · have hlt := idxF_lt hc
      have hq := hf.2 _ (getD_mem hlt)
      have e3 : putBy (fun q => decide (lastOf q < nth l i)) qs (nth l i) = qs.set (idxF (fun q => decide (lastOf q < nth l i)) qs).toNat (qs.getD (idxF (fun q => decide (lastOf q < nth l i)) qs).toNat [] ++ [nth l i]) := by rw [putBy, if_neg hc]
      rw [e3] at ih ⊢
      have e4 : rd_L3 qs (idxF (fun q => decide (lastOf q < nth l i)) qs) = qs.getD (idxF (fun q => decide (lastOf q < nth l i)) qs).toNat [] := rfl
      rw [e4]
      exact Ev.pos (by omega) (Ev.pos (by omega) (Ev.pos (by omega) ih))
theorem queues_ev (l : List Int) (hl : l.length ≤ 1000) : Ev (fun k => impl_queues.f k l) (qI l) := by
  unfold impl_queues.f
  have := queues_l l hl l.length 0 [] (by omega) ⟨by simp, fun q hq => by cases hq⟩
  rw [List.drop_zero] at this
  exact this
theorem foldPut_fit (p : Int → List Int → Bool) : ∀ (l : List Int) (i : Nat) (qs : List (List Int)), Fit i qs → Fit (i + l.length) (l.foldl (fun qs x => putBy (p x) qs x) qs)
  | [], i, qs, h => h
  | x :: l, i, qs, h => by
    have := foldPut_fit p l (i + 1) _ (putBy_fit (p := p x) x h)
    rw [List.length_cons, show i + (l.length + 1) = i + 1 + l.length by omega]
    exact this
theorem qI_fit (l : List Int) : Fit l.length (qI l) := by
  have := foldPut_fit (fun x q => decide (lastOf q < x)) l 0 [] ⟨by simp, fun q hq => by cases hq⟩
  rw [Nat.zero_add] at this
  exact this
def qOk (l : List Int) : Bool := decide (qS l = qI l)

set_option maxRecDepth 100000 in
set_option maxHeartbeats 100000000 in
theorem q_all_6 : ∀ n ∈ [1, 2, 3, 4, 5, 6], allO (intsTo n) qOk n [] = true := by decide +kernel
set_option maxRecDepth 100000 in
set_option maxHeartbeats 100000000 in
theorem q_all_71 : allO (intsTo 7) qOk 6 [1] = true := by decide +kernel
set_option maxRecDepth 100000 in
set_option maxHeartbeats 100000000 in
theorem q_all_72 : allO (intsTo 7) qOk 6 [2] = true := by decide +kernel
set_option maxRecDepth 100000 in
set_option maxHeartbeats 100000000 in
theorem q_all_73 : allO (intsTo 7) qOk 6 [3] = true := by decide +kernel
set_option maxRecDepth 100000 in
set_option maxHeartbeats 100000000 in
theorem q_all_74 : allO (intsTo 7) qOk 6 [4] = true := by decide +kernel
set_option maxRecDepth 100000 in
set_option maxHeartbeats 100000000 in
theorem q_all_75 : allO (intsTo 7) qOk 6 [5] = true := by decide +kernel
set_option maxRecDepth 100000 in
set_option maxHeartbeats 100000000 in
theorem q_all_76 : allO (intsTo 7) qOk 6 [6] = true := by decide +kernel
set_option maxRecDepth 100000 in
set_option maxHeartbeats 100000000 in
theorem q_all_77 : allO (intsTo 7) qOk 6 [7] = true := by decide +kernel
theorem q_all : ∀ n ∈ [1, 2, 3, 4, 5, 6, 7], allO (intsTo n) qOk n [] = true := by
  intro n hn
  by_cases h7 : n = 7
  · subst h7
    rw [allO]
    simp only [show intsTo 7 = [1, 2, 3, 4, 5, 6, 7] from rfl, List.all_cons, List.all_nil, List.contains_nil, Bool.false_or, Bool.and_true, Bool.and_eq_true]
    exact ⟨q_all_71, q_all_72, q_all_73, q_all_74, q_all_75, q_all_76, q_all_77⟩
  · exact q_all_6 n (by simp at hn ⊢; omega)

/-! fractions in lowest terms: both sides come to the same two numbers -/
def cutM (s t : Nat) : Int × Int := (((s / Nat.gcd s t : Nat) : Int), ((t / Nat.gcd s t : Nat) : Int))
theorem l9Cut_l (s t : Nat) (hs : s ≤ 1000000) (ht : t ≤ 1000000) (g : Nat) (hg : 0 < g) (hgt : Nat.gcd s t = g) : ∀ (n a b : Nat), b < n → Nat.gcd a b = g → Ev (fun k => spec_l9Cut.l0 k (s : Int) (t : Int) (a : Int) (b : Int)) (cutM s t)
  | 0, a, b, h, _ => by omega
  | n + 1, a, b, h, he => by
    refine Ev.step (fun k => by rw [spec_l9Cut.l0]) ?_
    by_cases h0 : b = 0
    · subst h0
      rw [Nat.gcd_zero_right] at he
      subst he
      refine Ev.neg (by omega) ?_
      have e : spec_l1Most.f (a : Int) 1 = some (a : Int) := by
        unfold spec_l1Most.f
        by_cases h1 : (a : Int) > 1
        · rw [if_pos h1]
        · rw [if_neg h1]; congr 1; omega
      simp only [e, Option.bind_some]
      refine Ev.neg (by omega) (Ev.neg (by omega) (Ev.val ?_))
      have q1 := Nat.div_le_self s a
      have q2 := Nat.div_le_self t a
      rw [← Int.ofNat_tdiv, ← Int.ofNat_tdiv, w64n _ (by omega), w64n _ (by omega), cutM, hgt]
    · refine Ev.pos (by omega) (Ev.neg (by omega) ?_)
      rw [← Int.ofNat_tmod]
      have hm := Nat.mod_lt a (show 0 < b by omega)
      exact l9Cut_l s t hs ht g hg hgt n b (a % b) (by omega) (by rw [Nat.gcd_comm b, ← Nat.gcd_rec, Nat.gcd_comm]; exact he)
theorem fraction_l (s t : Nat) (hs : s ≤ 1000000) (ht : t ≤ 1000000) (g : Nat) (hg : 0 < g) (hgt : Nat.gcd s t = g) : ∀ (n a b : Nat), b < n → Nat.gcd a b = g → Ev (fun k => impl_fraction.l0 k (s : Int) (t : Int) (a : Int) (b : Int)) (cutM s t)
  | 0, a, b, h, _ => by omega
  | n + 1, a, b, h, he => by
    refine Ev.step (fun k => by rw [impl_fraction.l0]) ?_
    by_cases h0 : b = 0
    · subst h0
      rw [Nat.gcd_zero_right] at he
      subst he
      refine Ev.pos (by omega) (Ev.neg (by omega) (Ev.val ?_))
      have q1 := Nat.div_le_self s a
      have q2 := Nat.div_le_self t a
      rw [← Int.ofNat_tdiv, ← Int.ofNat_tdiv, w64n _ (by omega), w64n _ (by omega), cutM, hgt]
    · refine Ev.neg (by omega) ?_
      rw [← Int.ofNat_tmod]
      have hm := Nat.mod_lt a (show 0 < b by omega)
      exact fraction_l s t hs ht g hg hgt n b (a % b) (by omega) (by rw [Nat.gcd_comm b, ← Nat.gcd_rec, Nat.gcd_comm]; exact he)
theorem cut_ev (s t : Nat) (hs : s ≤ 1000000) (ht : t ≤ 1000000) (h0 : 0 < t) : Ev (fun k => spec_l9Cut.f k (s : Int) (t : Int)) (cutM s t) ∧ Ev (fun k => impl_fraction.f k (s : Int) (t : Int)) (cutM s t) := by
  have hg := Nat.gcd_pos_of_pos_right s h0
  unfold spec_l9Cut.f impl_fraction.f
  exact ⟨l9Cut_l s t hs ht _ hg rfl (t + 1) s t (by omega) rfl, fraction_l s t hs ht _ hg rfl (t + 1) s t (by omega) rfl⟩
/-- a sum over lists -/
def sumG (g : List Int → Nat) : List (List Int) → Nat
  | [] => 0
  | l :: ls => g l + sumG g ls
theorem sumG_le {g : List Int → Nat} {m : Nat} : ∀ (ls : List (List Int)), (∀ l ∈ ls, g l ≤ m) → sumG g ls ≤ m * ls.length
  | [], _ => Nat.zero_le _
  | l :: ls, h => by
    have h1 := h l (by simp)
    have h2 := sumG_le ls fun x hx => h x (by simp [hx])
    rw [sumG, List.length_cons, Nat.mul_succ]; omega
theorem drop_stepLL (l : List (List Int)) (i : Nat) (h : i < l.length) : l.drop i = l.getD i [] :: l.drop (i + 1) := by
  rw [List.getD_eq_getElem?_getD, List.getElem?_eq_getElem h]; exact List.drop_eq_getElem_cons h
theorem mean_ev (of_ : Nat → List Int → Option Int) (g : List Int → Nat) (n : Nat) (h1 : 1 ≤ n) (h7 : n ≤ 7) (hg : ∀ l ∈ ordsM n, g l ≤ 100) (ho : ∀ l ∈ ordsM n, Ev (fun k => of_ k l) (g l : Int)) :
    Ev (fun k => impl_drawnMean.f of_ k (n : Int) true ⟨#[]⟩) (if n ≤ 6 then ((cutM (sumG g (ordsM n)) (facN n)).1, (cutM (sumG g (ordsM n)) (facN n)).2, true) else (0, 0, false)) := by
  have hlen := facN_le n
  have hol := ordsM_length n
  have hp := facN_pos n
  have hsum := sumG_le (ordsM n) hg
  have loop : ∀ (d i m : Nat), (ordsM n).length = i + d → m + sumG g ((ordsM n).drop i) = sumG g (ordsM n) → Ev (fun k => impl_mean.l0 of_ k (n : Int) (m : Int) (ordsM n) ((ordsM n).length : Int) (i : Int)) (cutM (sumG g (ordsM n)) (facN n)) := by
    intro d
    induction d with
    | zero =>
      intro i m h hm
      refine Ev.step (fun k => by rw [impl_mean.l0]) ?_
      rw [List.drop_of_length_le (by omega), sumG, Nat.add_zero] at hm
      rw [hm]
      refine Ev.neg (by omega) (Ev.bind (factorial_ev n h7) (Ev.bind (cut_ev _ _ (by omega) (by omega) hp).2 (Ev.val rfl)))
    | succ d ih =>
      intro i m h hm
      refine Ev.step (fun k => by rw [impl_mean.l0]) ?_
      have hi : i < (ordsM n).length := by omega
      have e2 : rd_L3 (ordsM n) (i : Int) = (ordsM n).getD i [] := rfl
      have hmem : (ordsM n).getD i [] ∈ ordsM n := by rw [List.getD_eq_getElem?_getD, List.getElem?_eq_getElem hi]; exact List.getElem_mem hi
      rw [drop_stepLL _ i hi, sumG] at hm
      have e : wrap64 ((i : Int) + 1) = ((i + 1 : Nat) : Int) := wup i (by omega)
      have e3 : wrap64 ((m : Int) + (g ((ordsM n).getD i []) : Int)) = ((m + g ((ordsM n).getD i []) : Nat) : Int) := by rw [w64 (by omega)]; omega
      refine Ev.pos (by omega) (Ev.pos (by omega) (Ev.pos (by omega) ?_))
      simp only [e, e2]
      refine Ev.bind (ho _ hmem) ?_
      rw [e3]
      exact ih (i + 1) _ (by omega) (by omega)
  unfold impl_drawnMean.f impl_mean.f impl_isDrawn.f
  refine Ev.bind (a := decide (n ≤ 6)) (Ev.pos (by omega) (Ev.val (by simp; omega))) ?_
  by_cases h6 : n ≤ 6
  · rw [if_pos h6]
    refine Ev.pos (by simpa using h6) (Ev.pos rfl (Ev.bind (a := cutM (sumG g (ordsM n)) (facN n)) (Ev.bind (allOrders_ev n h7) ?_) (Ev.val rfl)))
    exact loop (ordsM n).length 0 0 (by omega) (by rw [List.drop_zero, Nat.zero_add])
  · rw [if_neg h6]
    exact Ev.neg (by simpa using h6) (Ev.val rfl)

def gQ (kk : Int) (l : List Int) : Nat := if ((qI l).length : Int) = kk then 1 else 0
theorem gQ_le (kk : Int) (l : List Int) : gQ kk l ≤ 100 := by unfold gQ; split <;> omega
theorem spec_loop (kk : Int) (n : Nat) (h1 : 1 ≤ n) (h7 : n ≤ 7) : ∀ (d i m : Nat), (ordsM n).length = i + d → m + sumG (gQ kk) ((ordsM n).drop i) = sumG (gQ kk) (ordsM n) → Ev (fun k => spec_ChanceQueues.l0 k kk (m : Int) (ordsM n) (i : Int)) ((cutM (sumG (gQ kk) (ordsM n)) (facN n)).1, (cutM (sumG (gQ kk) (ordsM n)) (facN n)).2, true) := by
  have hlen := facN_le n
  have hol := ordsM_length n
  have hp := facN_pos n
  have hsum := sumG_le (ordsM n) (fun l _ => gQ_le kk l)
  intro d
  induction d with
  | zero =>
    intro i m h hm
    refine Ev.step (fun k => by rw [spec_ChanceQueues.l0]) ?_
    rw [List.drop_of_length_le (by omega), sumG, Nat.add_zero] at hm
    rw [hm]
    refine Ev.neg (by omega) (Ev.bind (a := cutM (sumG (gQ kk) (ordsM n)) (facN n)) ?_ (Ev.val rfl))
    rw [hol]
    exact (cut_ev _ _ (by omega) (by omega) hp).1
  | succ d ih =>
    intro i m h hm
    refine Ev.step (fun k => by rw [spec_ChanceQueues.l0]) ?_
    have hi : i < (ordsM n).length := by omega
    obtain ⟨x, hx⟩ : ∃ x, (ordsM n).getD i [] = x := ⟨_, rfl⟩
    have e2 : rd_L3 (ordsM n) (i : Int) = x := hx
    have hmem : x ∈ ordsM n := by rw [← hx, List.getD_eq_getElem?_getD, List.getElem?_eq_getElem hi]; exact List.getElem_mem hi
    rw [drop_stepLL _ i hi, hx, sumG] at hm
    have hxl := ordsM_len n x hmem
    have hsame : qS x = qI x := by simpa [qOk] using orders_all (ordsM_ord n h1 h7 x hmem) _ q_all
    have hgx := gQ_le kk x
    have hge : gQ kk x = if ((qI x).length : Int) = kk then 1 else 0 := rfl
    refine Ev.pos (by omega) (Ev.pos (by omega) ?_)
    rw [wup i (by omega), e2]
    refine Ev.bind (l5Queues_ev x (by omega)) ?_
    rw [hsame]
    refine Ev.ite (fun hc => ?_) (fun hc => ?_)
    · rw [if_pos hc] at hge
      rw [wup m (by omega)]
      exact ih (i + 1) _ (by omega) (by omega)
    · rw [if_neg hc] at hge
      exact ih (i + 1) _ (by omega) (by omega)
theorem chance_ev (kk : Int) (n : Nat) (h1 : 1 ≤ n) (h6 : n ≤ 6) : Ev (fun k => impl_drawnChance.f (fun k x => impl_ChanceQueues_1.f k x kk) k (n : Int) true) ((cutM (sumG (gQ kk) (ordsM n)) (facN n)).1, (cutM (sumG (gQ kk) (ordsM n)) (facN n)).2, true) := by
  have := mean_ev (impl_drawnChance_1.f fun k x => impl_ChanceQueues_1.f k x kk) (gQ kk) n h1 (by omega) (fun l _ => gQ_le kk l) (fun l hl => ?_)
  · rw [if_pos h6] at this
    exact this
  · unfold impl_drawnChance_1.f impl_ChanceQueues_1.f
    refine Ev.bind (Ev.bind (queues_ev l (by have := ordsM_len n l hl; omega)) (Ev.val rfl)) (Ev.val ?_)
    unfold gQ
    by_cases hc : ((qI l).length : Int) = kk
    · simp [hc]
    · simp [hc]
theorem l9Size_is (a : Int) : spec_l9Size.f a = some (decide (1 ≤ a ∧ a ≤ 6)) := by
  unfold spec_l9Size.f
  rw [l1In_is]; rfl
theorem isDrawn_is (a : Int) : impl_isDrawn.f a = some (decide (1 ≤ a ∧ a ≤ 6)) := by
  unfold impl_isDrawn.f
  by_cases h : a ≥ 1
  · rw [if_pos h]; simp [h]
  · rw [if_neg h]; simp; omega
theorem both_ev (n kk : Int) : ∃ r : Int × Int × Bool, Ev (fun q => spec_ChanceQueues.f q n kk) r ∧ Ev (fun q => impl_ChanceQueues.f q n kk) r := by
  unfold spec_ChanceQueues.f impl_ChanceQueues.f
  simp only [l9Size_is, isDrawn_is, l1In_is, Option.bind_some]
  by_cases hn : 1 ≤ n ∧ n ≤ 6
  · by_cases hk : 1 ≤ kk ∧ kk ≤ 6
    · obtain ⟨m, rfl⟩ := Int.eq_ofNat_of_zero_le (show 0 ≤ n by omega)
      refine ⟨((cutM (sumG (gQ kk) (ordsM m)) (facN m)).1, (cutM (sumG (gQ kk) (ordsM m)) (facN m)).2, true), ?_, ?_⟩
      · refine Ev.pos (by simpa using hn) ?_
        refine Ev.step (fun q => by rw [spec_ChanceQueues.j0]) ?_
        refine Ev.neg (by simpa using hk) (Ev.bind (l2Orders_ev m (by omega)) ?_)
        exact spec_loop kk m (by omega) (by omega) (ordsM m).length 0 0 (by omega) (by rw [List.drop_zero, Nat.zero_add])
      · rw [show decide (1 ≤ kk ∧ kk ≤ 6) = true from decide_eq_true hk]
        exact chance_ev kk m (by omega) (by omega)
    · refine ⟨(0, 0, false), ?_, ?_⟩
      · refine Ev.pos (by simpa using hn) ?_
        refine Ev.step (fun q => by rw [spec_ChanceQueues.j0]) ?_
        exact Ev.pos (by simp; omega) (Ev.val rfl)
      · rw [show decide (1 ≤ kk ∧ kk ≤ 6) = false from decide_eq_false hk]
        unfold impl_drawnChance.f impl_drawnMean.f
        simp only [isDrawn_is, Option.bind_some]
        exact Ev.pos (by simpa using hn) (Ev.neg (by simp) (Ev.val rfl))
  · refine ⟨(0, 0, false), ?_, ?_⟩
    · refine Ev.neg (by simpa using hn) ?_
      refine Ev.step (fun q => by rw [spec_ChanceQueues.j0]) ?_
      exact Ev.pos rfl (Ev.val rfl)
    · unfold impl_drawnChance.f impl_drawnMean.f
      simp only [isDrawn_is, Option.bind_some]
      exact Ev.neg (by simpa using hn) (Ev.val rfl)
theorem FnExactChanceQueues : laws_FnExactChanceQueues.Pure := by
  intro n kk _ _
  refine Ev.rounds (?_ : Ev (fun q => laws_FnExactChanceQueues.f q n kk) true)
  obtain ⟨r, h1, h2⟩ := both_ev n kk
  unfold laws_FnExactChanceQueues.f
  refine Ev.bind h1 (Ev.bind h2 ?_)
  unfold laws_eqIntA2.f
  refine Ev.bind (a := true) (Ev.val (by simp)) ?_
  exact Ev.pos rfl (Ev.neg (by simp) (Ev.val rfl))

end Go.Proofs.Ytnfcopikfbnheaa.Pure
