/- The program's CountEnds returns what the reference's returns, for every number. -/
import Derived.Test.YtgdjnaojcpoigaaPFnExactCountEndsx8
import Derived.Test.YtgdjnaojcpoigaaK
set_option linter.unusedVariables false
set_option linter.unusedSimpArgs false
namespace Go.Proofs.Ytgdjnaojcpoigaa.Pure
open Go.RowKit Go.Proofs.Ytgdjnaojcpoigaa.PFnExactCountEnds Go.Proofs.YtgdjnaojcpoigaaW.PrintWords Go.Proofs.YtgdjnaojcpoigaaW.PrintLast Go.Proofs.YtgdjnaojcpoigaaW.PrintMore

theorem l1In_is (a b c : Int) : spec_l1In.f a b c = some (decide (b ≤ a ∧ a ≤ c)) := by
  unfold spec_l1In.f
  by_cases h : a ≥ b
  · rw [if_pos h]; simp [h]
  · rw [if_neg h]; simp; omega

theorem isSize_is (a : Int) : impl_isSize.f a = some (decide (1 ≤ a ∧ a ≤ 7)) := by
  unfold impl_isSize.f
  by_cases h : a ≥ 1
  · rw [if_pos h]; simp [h]
  · rw [if_neg h]; simp; omega

/-! how many orders; all orders -/
def facN (n : Nat) : Nat := [1, 1, 2, 6, 24, 120, 720, 5040].getD n 1
theorem facN_pos (n : Nat) : 0 < facN n := by
  rcases Nat.lt_or_ge n 8 with h | h
  · have : n = 0 ∨ n = 1 ∨ n = 2 ∨ n = 3 ∨ n = 4 ∨ n = 5 ∨ n = 6 ∨ n = 7 := by omega
    rcases this with rfl | rfl | rfl | rfl | rfl | rfl | rfl | rfl <;> decide
  · unfold facN
    rw [List.getD_eq_getElem?_getD, List.getElem?_eq_none (by simpa using h)]
    decide
theorem facN_le (n : Nat) : facN n ≤ 5040 := by
  rcases Nat.lt_or_ge n 8 with h | h
  · have : n = 0 ∨ n = 1 ∨ n = 2 ∨ n = 3 ∨ n = 4 ∨ n = 5 ∨ n = 6 ∨ n = 7 := by omega
    rcases this with rfl | rfl | rfl | rfl | rfl | rfl | rfl | rfl <;> decide
  · unfold facN
    rw [List.getD_eq_getElem?_getD, List.getElem?_eq_none (by simpa using h)]
    decide
theorem facN_succ (n : Nat) (h : n ≤ 6) : facN (n + 1) = (n + 1) * facN n := by
  have : n = 0 ∨ n = 1 ∨ n = 2 ∨ n = 3 ∨ n = 4 ∨ n = 5 ∨ n = 6 := by omega
  rcases this with rfl | rfl | rfl | rfl | rfl | rfl | rfl <;> decide
def atM : Nat → List Int → Nat → List Int
  | 0, _, _ => []
  | d + 1, left, k => nth left (k / facN d) :: atM d (left.take (k / facN d) ++ left.drop (k / facN d + 1)) (k % facN d)
theorem atM_length : ∀ (d : Nat) (left : List Int) (k : Nat), (atM d left k).length = d
  | 0, _, _ => rfl
  | d + 1, left, k => by rw [atM, List.length_cons, atM_length d]
def ordsM (n : Nat) : List (List Int) := (List.range (facN n)).map fun k => atM n (marked 1 n) k
theorem ordsM_length (n : Nat) : (ordsM n).length = facN n := by simp [ordsM]
theorem ordsM_len (n : Nat) (l : List Int) (h : l ∈ ordsM n) : l.length = n := by
  obtain ⟨k, _, rfl⟩ := List.mem_map.1 h
  exact atM_length n _ k
theorem tdiv_nat (a b : Nat) : Int.tdiv (a : Int) (b : Int) = ((a / b : Nat) : Int) := (Int.ofNat_tdiv a b).symm
theorem tmod_nat (a b : Nat) : Int.tmod (a : Int) (b : Int) = ((a % b : Nat) : Int) := (Int.ofNat_tmod a b).symm
theorem div_lt_of (d k : Nat) (hd : d ≤ 6) (h : k < facN (d + 1)) : k / facN d < d + 1 := by
  rw [Nat.div_lt_iff_lt_mul (facN_pos d), ← facN_succ d hd]
  exact h

theorem l1Own_is (l : List Int) (h : l.length < 17592186044416) : spec_l1Own.f l = some l := by
  unfold spec_l1Own.f
  simp [h]

theorem l2Sorted_l (n : Nat) (hn : n ≤ 1000) : ∀ d i : Nat, n = i + d → Ev (fun k => spec_l2Sorted.l0 k n (marked 1 i) ((i : Int) + 1)) (marked 1 n)
  | 0, i, h => by
    refine Ev.step (fun k => by rw [spec_l2Sorted.l0]) (Ev.neg (by omega) (Ev.val ?_))
    rw [h, Nat.add_zero]
  | d + 1, i, h => by
    refine Ev.step (fun k => by rw [spec_l2Sorted.l0]) ?_
    have e : wrap64 ((i : Int) + 1 + 1) = ((i + 1 : Nat) : Int) + 1 := by rw [w64 (by omega)]; omega
    have e2 : marked 1 i ++ [(i : Int) + 1] = marked 1 (i + 1) := by rw [marked_snoc]; congr 2; omega
    simp only [e, e2]
    exact Ev.pos (by omega) (Ev.pos (by rw [marked_length]; omega) (l2Sorted_l n hn d (i + 1) (by omega)))
theorem l2Sorted_ev (n : Nat) (hn : n ≤ 1000) : Ev (fun k => spec_l2Sorted.f k n) (marked 1 n) := l2Sorted_l n hn n 0 (by omega)

theorem sorted_l (n : Nat) (hn : n ≤ 1000) : ∀ d i : Nat, n = i + d → Ev (fun k => impl_sorted.l0 k (marked 1 i) n i) (marked 1 n)
  | 0, i, h => by
    refine Ev.step (fun k => by rw [impl_sorted.l0]) (Ev.neg (by omega) (Ev.val ?_))
    rw [h, Nat.add_zero]
  | d + 1, i, h => by
    refine Ev.step (fun k => by rw [impl_sorted.l0]) ?_
    have e : wrap64 ((i : Int) + 1) = ((i + 1 : Nat) : Int) := by rw [w64 (by omega)]; omega
    have e2 : marked 1 i ++ [((i + 1 : Nat) : Int)] = marked 1 (i + 1) := by rw [marked_snoc]; congr 2; omega
    simp only [e, e2]
    exact Ev.pos (by omega) (Ev.pos (by rw [marked_length]; omega) (sorted_l n hn d (i + 1) (by omega)))
theorem sorted_ev (n : Nat) (hn : n ≤ 1000) : Ev (fun k => impl_sorted.f k n) (marked 1 n) := sorted_l n hn n 0 (by omega)

theorem l2Ways_ev (n : Nat) (h : n ≤ 7) : Ev (fun k => spec_l2Ways.f k (n : Int)) (facN n : Int) := by
  have : n = 0 ∨ n = 1 ∨ n = 2 ∨ n = 3 ∨ n = 4 ∨ n = 5 ∨ n = 6 ∨ n = 7 := by omega
  rcases this with rfl | rfl | rfl | rfl | rfl | rfl | rfl | rfl <;> exact Ev.of (fun k => spec_l2Ways.mono _ k) (k := 10) (by decide +kernel)
theorem l2At_l : ∀ (d : Nat) (left acc : List Int) (k : Nat), left.length = d → d ≤ 7 → acc.length + d ≤ 100 → k < facN d → Ev (fun q => spec_l2At.l0 q (k : Int) acc left) (acc ++ atM d left k)
  | 0, left, acc, k, hl, hd, ha, hk => by
    refine Ev.step (fun q => by rw [spec_l2At.l0]) (Ev.neg (by omega) (Ev.val ?_))
    rw [atM, List.append_nil]
  | d + 1, left, acc, k, hl, hd, ha, hk => by
    refine Ev.step (fun q => by rw [spec_l2At.l0]) (Ev.pos (by omega) ?_)
    have e1 : wrap64 ((left.length : Int) - 1) = (d : Int) := by rw [w64 (by omega)]; omega
    rw [e1]
    clear e1
    refine Ev.bind (l2Ways_ev d (by omega)) (Ev.neg (by have := facN_pos d; omega) ?_)
    have hq := div_lt_of d k (by omega) hk
    have h5 := facN_le (d + 1)
    have e2 : wrap64 (Int.tdiv (k : Int) (facN d : Int)) = ((k / facN d : Nat) : Int) := by rw [tdiv_nat]; exact w64n _ (by have := Nat.div_le_self k (facN d); omega)
    have hmod := Nat.mod_lt k (facN_pos d)
    simp only [e2, tmod_nat]
    rw [atM]
    clear e2 hk
    generalize k / facN d = qq at hq ⊢
    generalize k % facN d = k2 at hmod ⊢
    have e3 : wrap64 ((qq : Int) + 1) = ((qq + 1 : Nat) : Int) := by rw [w64 (by omega)]; omega
    simp only [e3, Int.toNat_natCast, rd_nat]
    clear e3
    refine Ev.pos (by omega) (Ev.pos (by omega) (Ev.pos (by omega) (Ev.pos (by omega) ?_)))
    have h1 : (left.take qq).length < 17592186044416 := by rw [List.length_take]; omega
    simp only [l1Own_is _ h1, Option.bind_some]
    refine Ev.pos (by omega) (Ev.pos (by omega) (Ev.pos (by rw [List.length_take, List.length_drop]; omega) ?_))
    refine Ev.to (l2At_l d _ _ k2 (by rw [List.length_append, List.length_take, List.length_drop]; omega) (by omega) (by rw [List.length_append, List.length_singleton]; omega) hmod) ?_
    rw [List.append_assoc]; rfl
theorem l2At_ev (n k : Nat) (hn : n ≤ 7) (hk : k < facN n) : Ev (fun q => spec_l2At.f q (n : Int) (k : Int)) (atM n (marked 1 n) k) := by
  unfold spec_l2At.f
  exact Ev.bind (l2Sorted_ev n (by omega)) (Ev.to (l2At_l n _ [] k (marked_length n 1) hn (by simp; omega) hk) (List.nil_append _))
theorem l2Orders_l (n : Nat) (hn : n ≤ 7) : ∀ (d i : Nat), facN n = i + d → Ev (fun q => spec_l2Orders.l0 q (n : Int) ((List.range i).map fun k => atM n (marked 1 n) k) (i : Int)) (ordsM n)
  | 0, i, h => by
    refine Ev.step (fun q => by rw [spec_l2Orders.l0]) ?_
    refine Ev.bind (l2Ways_ev n hn) ?_
    refine Ev.neg (by omega) (Ev.val ?_)
    rw [ordsM, h, Nat.add_zero]
  | d + 1, i, h => by
    have h5 := facN_le n
    refine Ev.step (fun q => by rw [spec_l2Orders.l0]) ?_
    refine Ev.bind (l2Ways_ev n hn) ?_
    refine Ev.pos (by omega) ?_
    refine Ev.bind (l2At_ev n i hn (by omega)) ?_
    refine Ev.pos (by rw [List.length_map, List.length_range]; omega) ?_
    have e : wrap64 ((i : Int) + 1) = ((i + 1 : Nat) : Int) := by rw [w64 (by omega)]; omega
    have e2 : ((List.range i).map fun k => atM n (marked 1 n) k) ++ [atM n (marked 1 n) i] = (List.range (i + 1)).map fun k => atM n (marked 1 n) k := by rw [List.range_succ, List.map_append]; rfl
    simp only [e, e2]
    exact l2Orders_l n hn d (i + 1) (by omega)
theorem l2Orders_ev (n : Nat) (hn : n ≤ 7) : Ev (fun q => spec_l2Orders.f q (n : Int)) (ordsM n) := by
  unfold spec_l2Orders.f
  exact l2Orders_l n hn (facN n) 0 (by omega)

theorem factorial_ev (n : Nat) (h : n ≤ 7) : Ev (fun k => impl_factorial.f k (n : Int)) (facN n : Int) := by
  have : n = 0 ∨ n = 1 ∨ n = 2 ∨ n = 3 ∨ n = 4 ∨ n = 5 ∨ n = 6 ∨ n = 7 := by omega
  rcases this with rfl | rfl | rfl | rfl | rfl | rfl | rfl | rfl <;> exact Ev.of (fun k => impl_factorial.mono _ k) (k := 10) (by decide +kernel)
theorem orderAt_l : ∀ (d : Nat) (left acc : List Int) (k : Nat), left.length = d → d ≤ 7 → acc.length + d ≤ 100 → k < facN d → Ev (fun q => impl_orderAt.l0 q (k : Int) left acc) (acc ++ atM d left k)
  | 0, left, acc, k, hl, hd, ha, hk => by
    refine Ev.step (fun q => by rw [impl_orderAt.l0]) (Ev.neg (by omega) (Ev.val ?_))
    rw [atM, List.append_nil]
  | d + 1, left, acc, k, hl, hd, ha, hk => by
    refine Ev.step (fun q => by rw [impl_orderAt.l0]) (Ev.pos (by omega) ?_)
    have e1 : wrap64 ((left.length : Int) - 1) = (d : Int) := by rw [w64 (by omega)]; omega
    rw [e1]
    clear e1
    refine Ev.bind (factorial_ev d (by omega)) (Ev.neg (by have := facN_pos d; omega) ?_)
    have hq := div_lt_of d k (by omega) hk
    have h5 := facN_le (d + 1)
    have e2 : wrap64 (Int.tdiv (k : Int) (facN d : Int)) = ((k / facN d : Nat) : Int) := by rw [tdiv_nat]; exact w64n _ (by have := Nat.div_le_self k (facN d); omega)
    have hmod := Nat.mod_lt k (facN_pos d)
    simp only [e2, tmod_nat]
    rw [atM]
    clear e2 hk
    generalize k / facN d = qq at hq ⊢
    generalize k % facN d = k2 at hmod ⊢
    have e3 : wrap64 ((qq : Int) + 1) = ((qq + 1 : Nat) : Int) := by rw [w64 (by omega)]; omega
    simp only [e3, rd_nat]
    clear e3
    have hdel : slices_Delete_int_int.f left (qq : Int) ((qq + 1 : Nat) : Int) = some (left.take qq ++ left.drop (qq + 1)) := by
      unfold slices_Delete_int_int.f
      rw [if_pos (by omega), Int.toNat_natCast, Int.toNat_natCast]
    refine Ev.pos (by omega) (Ev.pos (by omega) (Ev.pos (by omega) ?_))
    simp only [hdel, Option.bind_some]
    refine Ev.to (orderAt_l d _ _ k2 (by rw [List.length_append, List.length_take, List.length_drop]; omega) (by omega) (by rw [List.length_append, List.length_singleton]; omega) hmod) ?_
    rw [List.append_assoc]; rfl
theorem orderAt_ev (n k : Nat) (hn : n ≤ 7) (hk : k < facN n) : Ev (fun q => impl_orderAt.f q (n : Int) (k : Int)) (atM n (marked 1 n) k) := by
  unfold impl_orderAt.f
  exact Ev.bind (sorted_ev n (by omega)) (Ev.to (orderAt_l n _ [] k (marked_length n 1) hn (by simp; omega) hk) (List.nil_append _))
theorem allOrders_l (n : Nat) (hn : n ≤ 7) : ∀ (d i : Nat), facN n = i + d → Ev (fun q => impl_allOrders.l0 q (n : Int) ((List.range i).map fun k => atM n (marked 1 n) k) (facN n : Int) (i : Int)) (ordsM n)
  | 0, i, h => by
    refine Ev.step (fun q => by rw [impl_allOrders.l0]) (Ev.neg (by omega) (Ev.val ?_))
    rw [ordsM, h, Nat.add_zero]
  | d + 1, i, h => by
    have h5 := facN_le n
    refine Ev.step (fun q => by rw [impl_allOrders.l0]) ?_
    refine Ev.pos (by omega) ?_
    refine Ev.bind (orderAt_ev n i hn (by omega)) ?_
    refine Ev.pos (by rw [List.length_map, List.length_range]; omega) ?_
    have e : wrap64 ((i : Int) + 1) = ((i + 1 : Nat) : Int) := by rw [w64 (by omega)]; omega
    have e2 : ((List.range i).map fun k => atM n (marked 1 n) k) ++ [atM n (marked 1 n) i] = (List.range (i + 1)).map fun k => atM n (marked 1 n) k := by rw [List.range_succ, List.map_append]; rfl
    simp only [e, e2]
    exact allOrders_l n hn d (i + 1) (by omega)
theorem allOrders_ev (n : Nat) (hn : n ≤ 7) : Ev (fun q => impl_allOrders.f q (n : Int)) (ordsM n) := by
  unfold impl_allOrders.f
  exact Ev.bind (factorial_ev n hn) (allOrders_l n hn (facN n) 0 (by omega))

theorem keepO_ev (of_ : Nat → List Int → Option Bool) (p : List Int → Bool) : ∀ l : List (List Int), (∀ x ∈ l, Ev (fun k => of_ k x) (p x)) → Ev (fun k => keepO (of_ k) l) (l.filter fun x => !p x)
  | [], _ => Ev.val rfl
  | x :: l, h => by
    refine Ev.congr (fun k => by rw [keepO]) ?_
    refine Ev.bind (h x (by simp)) (Ev.bind (keepO_ev of_ p l fun y hy => h y (by simp [hy])) (Ev.val ?_))
    rw [List.filter_cons]
    cases p x <;> rfl
theorem drop_stepK (l : List (List Int)) (i : Nat) (h : i < l.length) : l.drop i = l.getD i [] :: l.drop (i + 1) := by
  rw [List.getD_eq_getElem?_getD, List.getElem?_eq_getElem h]; exact List.drop_eq_getElem_cons h
theorem getD_memK {xs : List (List Int)} {i : Nat} (h : i < xs.length) : xs.getD i [] ∈ xs := by
  rw [List.getD_eq_getElem?_getD, List.getElem?_eq_getElem h]; exact List.getElem_mem h
theorem rd_L1_natK (xs : List (List Int)) (i : Nat) : rd_L1 xs (i : Int) = xs.getD i [] := rfl

/-! ends words by which an order comes out of another: both sides go side by side -/
theorem str_snoc (out : List Int) (n : Int) : strOfNums (out ++ [n]) = strOfNums out ++ (⟨#[UInt8.ofNat n.toNat]⟩ : ByteArray) := by
  apply ByteArray.ext
  apply Array.ext'
  simp [strOfNums, ByteArray.data_append]
theorem str_T (out : List Int) : strOfNums (out ++ [84]) = strOfNums out ++ (⟨#[84]⟩ : ByteArray) := str_snoc out 84
theorem str_B (out : List Int) : strOfNums (out ++ [66]) = strOfNums out ++ (⟨#[66]⟩ : ByteArray) := str_snoc out 66
theorem str_I (out : List Int) : strOfNums (out ++ [73]) = strOfNums out ++ (⟨#[73]⟩ : ByteArray) := str_snoc out 73
/-- where both are, ahead of one more look -/
structure EndsAt (l s : List Int) (m i next : Nat) (there out : List Int) : Prop where
  hi : i < s.length
  hn : next ≤ l.length
  hm : (s.length - i) + (l.length - next) ≤ m
  ht : there.length ≤ next
  ho : out.length ≤ i + next
def Both1 (l s : List Int) (i next : Nat) (there out : List Int) : Prop := ∃ r : ByteArray × Bool, r.1.size ≤ 2000 ∧ Ev (fun k => spec_l8To.l1 k l s (strOfNums out) there (next : Int) (i : Int)) r ∧ Ev (fun k => impl_endsTo.l1 k (l.drop next) there out (nth s i) s (s.length : Int) (i : Int)) r
def Both0 (l s : List Int) (i next : Nat) (there out : List Int) : Prop := ∃ r : ByteArray × Bool, r.1.size ≤ 2000 ∧ Ev (fun k => spec_l8To.l0 k l s (strOfNums out) there (next : Int) (i : Int)) r ∧ Ev (fun k => impl_endsTo.l0 k (l.drop next) there out s (s.length : Int) (i : Int)) r
theorem both0_of {l s : List Int} {i next : Nat} {there out : List Int} (h : i < s.length → Both1 l s i next there out) (hi : i ≤ s.length) (hz : out.length ≤ 2000) : Both0 l s i next there out := by
  by_cases hc : i < s.length
  · obtain ⟨r, hr, h1, h2⟩ := h hc
    refine ⟨r, hr, ?_, ?_⟩
    · refine Ev.step (fun k => by rw [spec_l8To.l0]) ?_
      exact Ev.pos (by omega) h1
    · refine Ev.step (fun k => by rw [impl_endsTo.l0]) ?_
      exact Ev.pos (by omega) (Ev.pos (by omega) (Ev.pos (by omega) h2))
  · refine ⟨(strOfNums out, true), by rw [strOfNums_size]; exact hz, ?_, ?_⟩
    · refine Ev.step (fun k => by rw [spec_l8To.l0]) ?_
      exact Ev.neg (by omega) (Ev.val rfl)
    · refine Ev.step (fun k => by rw [impl_endsTo.l0]) ?_
      exact Ev.neg (by omega) (Ev.val rfl)
/-- behind the look at the bottom -/
theorem both_j3 {l s : List Int} (hl : l.length ≤ 1000) (hs : s.length ≤ 1000) {m i next : Nat} {there out : List Int} (h : EndsAt l s m i next there out) (b : Bool) (hb : b = true → 0 < there.length)
    (h0 : 0 < there.length → Both0 l s (i + 1) next (there.drop 1) (out ++ [66])) (h1 : next < l.length → Both1 l s i (next + 1) (there ++ [nth l next]) (out ++ [73])) :
    ∃ r : ByteArray × Bool, r.1.size ≤ 2000 ∧ Ev (fun k => spec_l8To.j3 k l s (strOfNums out) there (next : Int) (i : Int) b) r ∧ Ev (fun k => impl_endsTo.j3 k (l.drop next) there out (nth s i) s (s.length : Int) (i : Int) b) r := by
  obtain ⟨hi, hn, hm, ht, ho⟩ := h
  have hsz : (strOfNums out).size = out.length := strOfNums_size out
  cases b with
  | true =>
    have hp := hb rfl
    obtain ⟨r, hr, a1, a2⟩ := h0 hp
    rw [str_B] at a1
    refine ⟨r, hr, ?_, ?_⟩
    · refine Ev.step (fun k => by rw [spec_l8To.j3]) ?_
      simp only [wup i (by omega)]
      refine Ev.pos trivial (Ev.pos (by omega) ?_)
      simp only [l1Own_is (there.drop 1) (by rw [List.length_drop]; omega), Option.bind_some]
      exact Ev.pos (by omega) a1
    · refine Ev.step (fun k => by rw [impl_endsTo.j3]) ?_
      simp only [wup i (by omega), Option.bind_some]
      exact Ev.pos trivial (Ev.pos (by simp; omega) (Ev.pos (by omega) a2))
  | false =>
    by_cases hc : next = l.length
    · refine ⟨((⟨#[]⟩ : ByteArray), false), Nat.zero_le _, ?_, ?_⟩
      · refine Ev.step (fun k => by rw [spec_l8To.j3]) ?_
        exact Ev.neg (by simp) (Ev.pos (by omega) (Ev.val rfl))
      · refine Ev.step (fun k => by rw [impl_endsTo.j3]) ?_
        refine Ev.neg (by simp) ?_
        refine Ev.pos ?_ (Ev.val rfl)
        rw [List.length_drop]; omega
    · obtain ⟨r, hr, a1, a2⟩ := h1 (by omega)
      rw [str_I] at a1
      refine ⟨r, hr, ?_, ?_⟩
      · refine Ev.step (fun k => by rw [spec_l8To.j3]) ?_
        simp only [wup next (by omega), rd_nat]
        exact Ev.neg (by simp) (Ev.neg (by omega) (Ev.pos (by omega) (Ev.pos (by omega) (Ev.pos (by omega) (Ev.pos (by omega) a1)))))
      · refine Ev.step (fun k => by rw [impl_endsTo.j3]) ?_
        have e4 : rd (l.drop next) 0 = nth l next := by
          show nth (l.drop next) 0 = _
          unfold nth
          rw [List.getD_eq_getElem?_getD, List.getD_eq_getElem?_getD, List.getElem?_drop, Nat.add_zero]
        have e5 : (l.drop next).drop 1 = l.drop (next + 1) := by rw [List.drop_drop]
        simp only [e4, e5, Option.bind_some]
        clear e4 e5
        have e6 : (l.drop next).length = l.length - next := List.length_drop
        refine Ev.neg (by simp) ?_
        refine Ev.neg (by omega) ?_
        refine Ev.pos (by simp; omega) ?_
        refine Ev.pos (by omega) ?_
        refine Ev.pos (by simp; omega) ?_
        exact Ev.pos (by omega) a2
theorem both1 {l s : List Int} (hl : l.length ≤ 1000) (hs : s.length ≤ 1000) : ∀ (m i next : Nat) (there out : List Int), EndsAt l s m i next there out → Both1 l s i next there out
  | 0, i, next, there, out, h => absurd h.hm (by have := h.hi; omega)
  | m + 1, i, next, there, out, h => by
    have hT : 0 < there.length → Both0 l s (i + 1) next (there.take (there.length - 1)) (out ++ [84]) := fun hp => both0_of (fun hc => both1 hl hs m (i + 1) next _ _ ⟨hc, h.hn, by have := h.hm; have := h.hi; omega, by rw [List.length_take]; have := h.ht; omega, by rw [List.length_append, List.length_singleton]; have := h.ho; omega⟩) (by have := h.hi; omega) (by rw [List.length_append, List.length_singleton]; have := h.ho; have := h.hi; have := h.hn; omega)
    have hB : 0 < there.length → Both0 l s (i + 1) next (there.drop 1) (out ++ [66]) := fun hp => both0_of (fun hc => both1 hl hs m (i + 1) next _ _ ⟨hc, h.hn, by have := h.hm; have := h.hi; omega, by rw [List.length_drop]; have := h.ht; omega, by rw [List.length_append, List.length_singleton]; have := h.ho; omega⟩) (by have := h.hi; omega) (by rw [List.length_append, List.length_singleton]; have := h.ho; have := h.hi; have := h.hn; omega)
    have hI : next < l.length → Both1 l s i (next + 1) (there ++ [nth l next]) (out ++ [73]) := fun hp => both1 hl hs m i (next + 1) _ _ ⟨h.hi, hp, by have := h.hm; omega, by rw [List.length_append, List.length_singleton]; have := h.ht; omega, by rw [List.length_append, List.length_singleton]; have := h.ho; omega⟩
    have hj3 := fun b hb => both_j3 hl hs h b hb hB hI
    have ht := h.ht
    have hi := h.hi
    have hn := h.hn
    have ho := h.ho
    have hsz : (strOfNums out).size = out.length := strOfNums_size out
    rcases Nat.eq_zero_or_pos there.length with h0 | hp
    · obtain ⟨r, hr, a1, a2⟩ := hj3 false (fun hb => by cases hb)
      refine ⟨r, hr, ?_, ?_⟩
      · refine Ev.step (fun k => by rw [spec_l8To.l1]) ?_
        refine Ev.neg (by omega) ?_
        refine Ev.step (fun k => by rw [spec_l8To.j2]) ?_
        exact Ev.neg (by simp) (Ev.neg (by omega) a1)
      · refine Ev.step (fun k => by rw [impl_endsTo.l1]) ?_
        simp only [show wrap64 ((there.length : Int) - 1) = -1 from by rw [h0, w64 (by omega)]; rfl]
        refine Ev.neg (by omega) ?_
        refine Ev.step (fun k => by rw [impl_endsTo.j2]) ?_
        exact Ev.neg (by simp) (Ev.neg (by omega) a2)
    · by_cases hc : nth there (there.length - 1) = nth s i
      · obtain ⟨r, hr, a1, a2⟩ := hT hp
        rw [str_T] at a1
        have hc' : (nth there (there.length - 1) == nth s i) = true := by simp [hc]
        refine ⟨r, hr, ?_, ?_⟩
        · refine Ev.step (fun k => by rw [spec_l8To.l1]) ?_
          simp only [wdn there.length hp (by omega), rd_nat, hc']
          refine Ev.pos (by omega) (Ev.pos (by omega) (Ev.pos (by omega) (Ev.pos (by omega) (Ev.pos (by omega) ?_))))
          refine Ev.step (fun k => by rw [spec_l8To.j2]) ?_
          simp only [wup i (by omega), wdn there.length hp (by omega), Int.toNat_natCast]
          exact Ev.pos trivial (Ev.pos (by omega) (Ev.pos (by omega) (Ev.pos (by omega) a1)))
        · refine Ev.step (fun k => by rw [impl_endsTo.l1]) ?_
          simp only [wdn there.length hp (by omega), rd_nat, hc']
          refine Ev.pos (by omega) (Ev.pos (by omega) (Ev.pos (by omega) ?_))
          refine Ev.step (fun k => by rw [impl_endsTo.j2]) ?_
          simp only [wup i (by omega), Option.bind_some, Int.toNat_natCast]
          exact Ev.pos trivial (Ev.pos (by simp; omega) (Ev.pos (by omega) (Ev.pos (by omega) a2)))
      · have hc' : (nth there (there.length - 1) == nth s i) = false := by simp [hc]
        obtain ⟨r, hr, a1, a2⟩ := hj3 (nth there 0 == nth s i) (fun _ => hp)
        have e3 : ∀ x : List Int, rd x 0 = nth x 0 := fun _ => rfl
        refine ⟨r, hr, ?_, ?_⟩
        · refine Ev.step (fun k => by rw [spec_l8To.l1]) ?_
          simp only [wdn there.length hp (by omega), rd_nat, hc']
          refine Ev.pos (by omega) (Ev.pos (by omega) (Ev.pos (by omega) (Ev.pos (by omega) (Ev.pos (by omega) ?_))))
          refine Ev.step (fun k => by rw [spec_l8To.j2]) ?_
          simp only [e3, rd_nat]
          exact Ev.neg (by simp) (Ev.pos (by omega) (Ev.pos (by omega) (Ev.pos (by omega) (Ev.pos (by omega) a1))))
        · refine Ev.step (fun k => by rw [impl_endsTo.l1]) ?_
          simp only [wdn there.length hp (by omega), rd_nat, hc']
          refine Ev.pos (by omega) (Ev.pos (by omega) (Ev.pos (by omega) ?_))
          refine Ev.step (fun k => by rw [impl_endsTo.j2]) ?_
          simp only [e3]
          exact Ev.neg (by simp) (Ev.pos (by omega) (Ev.pos (by omega) a2))
theorem endsTo_bothz (l s : List Int) (hl : l.length ≤ 1000) (hs : s.length ≤ 1000) : ∃ r : ByteArray × Bool, r.1.size ≤ 2000 ∧ Ev (fun k => spec_l8To.f k l s) r ∧ Ev (fun k => impl_endsTo.f k l s) r := by
  have := both0_of (l := l) (s := s) (i := 0) (next := 0) (there := []) (out := []) (fun hc => both1 hl hs (s.length + l.length) 0 0 [] [] ⟨hc, Nat.zero_le _, by omega, by simp, by simp⟩) (Nat.zero_le _) (by simp)
  obtain ⟨r, hr, h1, h2⟩ := this
  rw [List.drop_zero] at h2
  have e : strOfNums [] = (⟨#[]⟩ : ByteArray) := rfl
  rw [e] at h1
  unfold spec_l8To.f impl_endsTo.f
  exact ⟨r, hr, h1, h2⟩
theorem endsTo_both (l s : List Int) (hl : l.length ≤ 1000) (hs : s.length ≤ 1000) : ∃ r : ByteArray × Bool, Ev (fun k => spec_l8To.f k l s) r ∧ Ev (fun k => impl_endsTo.f k l s) r := by
  obtain ⟨r, _, h⟩ := endsTo_bothz l s hl hs
  exact ⟨r, h⟩

theorem ends_g (l : List Int) (hl : l.length ≤ 1000) : ∃ g : List Int → Bool, ∀ t : List Int, t.length ≤ 1000 → ∃ w : ByteArray, Ev (fun k => spec_l8To.f k l t) (w, g t) ∧ Ev (fun k => impl_endsTo.f k l t) (w, g t) := by
  have h : ∀ t : List Int, ∃ b : Bool, t.length ≤ 1000 → ∃ w : ByteArray, Ev (fun k => spec_l8To.f k l t) (w, b) ∧ Ev (fun k => impl_endsTo.f k l t) (w, b) := fun t => by
    by_cases ht : t.length ≤ 1000
    · obtain ⟨⟨w, b⟩, h1, h2⟩ := endsTo_both l t hl ht
      exact ⟨b, fun _ => ⟨w, h1, h2⟩⟩
    · exact ⟨false, fun h => absurd h ht⟩
  exact Classical.skolem.1 h
theorem endsOutputs_ev (l : List Int) (h7 : l.length ≤ 7) (g : List Int → Bool) (hg : ∀ t : List Int, t.length ≤ 1000 → ∃ w : ByteArray, Ev (fun k => spec_l8To.f k l t) (w, g t) ∧ Ev (fun k => impl_endsTo.f k l t) (w, g t)) : Ev (fun k => impl_endsOutputs.f k l) ((ordsM l.length).filter g) := by
  unfold impl_endsOutputs.f
  refine Ev.bind (allOrders_ev l.length h7) ?_
  refine Ev.to (keepO_ev (fun k x => impl_endsOutputs_1.f k x l) (fun x => !g x) _ fun x hx => ?_) (by simp)
  obtain ⟨w, _, h2⟩ := hg x (by have := ordsM_len _ x hx; omega)
  unfold impl_endsOutputs_1.f
  exact Ev.bind h2 (Ev.val rfl)

/-! the reference's words, alone -/
structure WordAt (l s : List Int) (m i next : Nat) (st : List Int) (out : ByteArray) : Prop where
  hi : i < s.length
  hs : s.length ≤ l.length
  hn : next ≤ l.length
  hm : (s.length - i) + (l.length - next) ≤ m
  ht : st.length + i = next
  ho : out.size ≤ i + next
def Word1 (l s : List Int) (i next : Nat) (st : List Int) (out : ByteArray) : Prop := ∃ r : ByteArray × Bool, Ev (fun k => spec_l2To.l1 k l s out st (next : Int) (i : Int)) r
def Word0 (l s : List Int) (i next : Nat) (st : List Int) (out : ByteArray) : Prop := ∃ r : ByteArray × Bool, Ev (fun k => spec_l2To.l0 k l s out st (next : Int) (i : Int)) r
theorem word0_of {l s : List Int} {i next : Nat} {st : List Int} {out : ByteArray} (h : i < s.length → Word1 l s i next st out) (hi : i ≤ s.length) : Word0 l s i next st out := by
  by_cases hc : i < s.length
  · obtain ⟨r, h1⟩ := h hc
    exact ⟨r, Ev.step (fun k => by rw [spec_l2To.l0]) (Ev.pos (by omega) h1)⟩
  · exact ⟨(out, true), Ev.step (fun k => by rw [spec_l2To.l0]) (Ev.neg (by omega) (Ev.val rfl))⟩
theorem word1 {l s : List Int} (hl : l.length ≤ 1000) : ∀ (m i next : Nat) (st : List Int) (out : ByteArray), WordAt l s m i next st out → Word1 l s i next st out
  | 0, i, next, st, out, h => absurd h.hm (by have := h.hi; omega)
  | m + 1, i, next, st, out, h => by
    have hO : 0 < st.length → Word0 l s (i + 1) next (st.take (st.length - 1)) (out ++ (⟨#[79]⟩ : ByteArray)) := fun hp => word0_of (fun hc => word1 hl m (i + 1) next _ _ ⟨hc, h.hs, h.hn, by have := h.hm; have := h.hi; omega, by rw [List.length_take]; have := h.ht; omega, by rw [ByteArray.size_append]; have := h.ho; show _ + 1 ≤ _; omega⟩) (by have := h.hi; omega)
    have hI : next < l.length → Word1 l s i (next + 1) (st ++ [nth l next]) (out ++ (⟨#[73]⟩ : ByteArray)) := fun hp => word1 hl m i (next + 1) _ _ ⟨h.hi, h.hs, hp, by have := h.hm; omega, by rw [List.length_append, List.length_singleton]; have := h.ht; omega, by rw [ByteArray.size_append]; have := h.ho; show _ + 1 ≤ _; omega⟩
    obtain ⟨hi, hs, hn, hm, ht, ho⟩ := h
    by_cases hnl : next < l.length
    · rcases Nat.eq_zero_or_pos st.length with h0 | hp
      · obtain ⟨r, a1⟩ := hI hnl
        refine ⟨r, Ev.step (fun k => by rw [spec_l2To.l1]) ?_⟩
        simp only [wup next (by omega), rd_nat]
        exact Ev.pos (by omega) (Ev.pos (by omega) (Ev.pos (by omega) (Ev.pos (by omega) (Ev.pos (by omega) a1))))
      · by_cases hc : nth st (st.length - 1) = nth s i
        · obtain ⟨r, a1⟩ := hO hp
          refine ⟨r, Ev.step (fun k => by rw [spec_l2To.l1]) ?_⟩
          simp only [wup i (by omega), wdn st.length hp (by omega), rd_nat, Int.toNat_natCast]
          exact Ev.pos (by omega) (Ev.neg (by omega) (Ev.pos (by omega) (Ev.pos (by omega) (Ev.pos (by omega) (Ev.pos (by omega) (Ev.pos hc (Ev.pos (by omega) (Ev.pos (by omega) a1))))))))
        · obtain ⟨r, a1⟩ := hI hnl
          refine ⟨r, Ev.step (fun k => by rw [spec_l2To.l1]) ?_⟩
          simp only [wup next (by omega), wdn st.length hp (by omega), rd_nat]
          exact Ev.pos (by omega) (Ev.neg (by omega) (Ev.pos (by omega) (Ev.pos (by omega) (Ev.pos (by omega) (Ev.pos (by omega) (Ev.neg hc (Ev.pos (by omega) (Ev.pos (by omega) (Ev.pos (by omega) a1)))))))))
    · have hp : 0 < st.length := by omega
      by_cases hc : nth st (st.length - 1) = nth s i
      · obtain ⟨r, a1⟩ := hO hp
        refine ⟨r, Ev.step (fun k => by rw [spec_l2To.l1]) ?_⟩
        simp only [wup i (by omega), wdn st.length hp (by omega), rd_nat, Int.toNat_natCast]
        exact Ev.neg (by omega) (Ev.pos (by omega) (Ev.pos (by omega) (Ev.pos (by omega) (Ev.pos (by omega) (Ev.pos hc (Ev.pos (by omega) (Ev.pos (by omega) a1)))))))
      · refine ⟨((⟨#[]⟩ : ByteArray), false), Ev.step (fun k => by rw [spec_l2To.l1]) ?_⟩
        simp only [wdn st.length hp (by omega), rd_nat]
        exact Ev.neg (by omega) (Ev.pos (by omega) (Ev.pos (by omega) (Ev.pos (by omega) (Ev.pos (by omega) (Ev.neg hc (Ev.val rfl))))))
theorem words_h1 (l : List Int) (hl : l.length ≤ 1000) : ∃ g : List Int → Bool, ∀ t : List Int, t.length ≤ l.length → ∃ w : ByteArray, Ev (fun k => spec_l2To.f k l t) (w, g t) := by
  have h : ∀ t : List Int, ∃ b : Bool, t.length ≤ l.length → ∃ w : ByteArray, Ev (fun k => spec_l2To.f k l t) (w, b) := fun t => by
    by_cases ht : t.length ≤ l.length
    · obtain ⟨⟨w, b⟩, h1⟩ := word0_of (l := l) (s := t) (i := 0) (next := 0) (st := []) (out := (⟨#[]⟩ : ByteArray)) (fun hc => word1 hl (t.length + l.length) 0 0 [] _ ⟨hc, ht, Nat.zero_le _, by omega, by simp, Nat.zero_le _⟩) (Nat.zero_le _)
      exact ⟨b, fun _ => ⟨w, h1⟩⟩
    · exact ⟨false, fun h => absurd h ht⟩
  exact Classical.skolem.1 h

/-- how many of the orders from a place on are so -/
theorem l8Count_l (l : List Int) (h7 : l.length ≤ 7) (only : Bool) (g h : List Int → Bool) (hg : ∀ t : List Int, t.length ≤ 1000 → ∃ w : ByteArray, Ev (fun k => spec_l8To.f k l t) (w, g t) ∧ Ev (fun k => impl_endsTo.f k l t) (w, g t)) (hh : ∀ t : List Int, t.length ≤ l.length → ∃ w : ByteArray, Ev (fun k => spec_l2To.f k l t) (w, h t)) :
    ∀ (d i m : Nat), (ordsM l.length).length = i + d → m ≤ i → Ev (fun k => spec_l8Count.l0 k l only (m : Int) (ordsM l.length) (i : Int)) ((m + (((ordsM l.length).drop i).filter fun t => g t && !(only && h t)).length : Nat) : Int)
  | 0, i, m, hd, hm => by
    refine Ev.step (fun k => by rw [spec_l8Count.l0]) ?_
    refine Ev.neg (by omega) (Ev.val ?_)
    rw [List.drop_of_length_le (by omega)]; simp
  | d + 1, i, m, hd, hm => by
    have hlen := facN_le l.length
    have hol := ordsM_length l.length
    have hi : i < (ordsM l.length).length := by omega
    have hxl := ordsM_len _ _ (getD_memK hi)
    rw [drop_stepK _ i hi]
    refine Ev.step (fun k => by rw [spec_l8Count.l0]) ?_
    simp only [wup i (by omega), wup m (by omega), rd_L1_natK]
    generalize (ordsM l.length).getD i [] = x at hxl ⊢
    obtain ⟨w, h1, _⟩ := hg x (by omega)
    obtain ⟨w2, h2⟩ := hh x (by omega)
    have ih := fun m2 hm2 => l8Count_l l h7 only g h hg hh d (i + 1) m2 (by omega) hm2
    refine Ev.pos (by omega) (Ev.pos (by omega) (Ev.bind h1 (Ev.bind h2 ?_)))
    rw [List.filter_cons]
    generalize hZ : ((m + (if (g x && !(only && h x)) = true then x :: ((ordsM l.length).drop (i + 1)).filter (fun t => g t && !(only && h t)) else ((ordsM l.length).drop (i + 1)).filter fun t => g t && !(only && h t)).length : Nat) : Int) = Z
    have more : g x = true → (only && h x) = false → Ev (fun k => spec_l8Count.l0 k l only ((m + 1 : Nat) : Int) (ordsM l.length) ((i + 1 : Nat) : Int)) Z := fun e1 e2 => by
      rw [e1, e2, if_pos (by simp), List.length_cons] at hZ
      refine Ev.to (ih (m + 1) (by omega)) ?_
      rw [← hZ]
      omega
    have same : (g x && !(only && h x)) = false → Ev (fun k => spec_l8Count.l0 k l only (m : Int) (ordsM l.length) ((i + 1 : Nat) : Int)) Z := fun e1 => by
      rw [if_neg (by rw [e1]; simp)] at hZ
      rw [← hZ]
      exact ih m (by omega)
    clear hZ ih
    cases hgx : g x with
    | false => exact Ev.neg (by simp) (same (by rw [hgx]; rfl))
    | true =>
      refine Ev.pos rfl ?_
      cases only with
      | false => exact Ev.neg (by simp) (more hgx rfl)
      | true =>
        refine Ev.pos rfl ?_
        cases hhx : h x with
        | true => exact Ev.pos rfl (same (by rw [hgx, hhx]; rfl))
        | false => exact Ev.neg (by simp) (more hgx (by rw [hhx]; rfl))

theorem both_ev (n : Int) : ∃ r : Int × Bool, Ev (fun q => spec_CountEnds.f q n) r ∧ Ev (fun q => impl_CountEnds.f q n) r := by
  unfold spec_CountEnds.f impl_CountEnds.f
  simp only [l1In_is, isSize_is, Option.bind_some]
  by_cases hn : 1 ≤ n ∧ n ≤ 7
  · obtain ⟨m, rfl⟩ := Int.eq_ofNat_of_zero_le (show 0 ≤ n by omega)
    have hml : (marked 1 m).length = m := marked_length m 1
    obtain ⟨g, hg⟩ := ends_g (marked 1 m) (by omega)
    obtain ⟨h, hh⟩ := words_h1 (marked 1 m) (by omega)
    have hs := l8Count_l (marked 1 m) (by omega) false g h hg hh (ordsM (marked 1 m).length).length 0 0 (by omega) (by omega)
    rw [List.drop_zero] at hs
    have hff : ((ordsM (marked 1 m).length).filter fun t => g t && !(false && h t)) = (ordsM (marked 1 m).length).filter g := by congr 1; funext t; simp
    rw [hff, Nat.zero_add] at hs
    refine ⟨((((ordsM (marked 1 m).length).filter g).length : Int), true), ?_, ?_⟩
    · refine Ev.pos (by simpa using hn) (Ev.bind (l2Sorted_ev m (by omega)) ?_)
      refine Ev.bind (a := (((ordsM (marked 1 m).length).filter g).length : Int)) ?_ (Ev.val rfl)
      unfold spec_l8Count.f
      exact Ev.bind (l2Orders_ev _ (by omega)) hs
    · refine Ev.pos (by simpa using hn) (Ev.bind (sorted_ev m (by omega)) ?_)
      exact Ev.bind (endsOutputs_ev _ (by omega) g hg) (Ev.val rfl)
  · refine ⟨(0, false), ?_, ?_⟩
    · exact Ev.neg (by simpa using hn) (Ev.val rfl)
    · exact Ev.neg (by simpa using hn) (Ev.val rfl)
theorem FnExactCountEnds : laws_FnExactCountEnds.Pure := by
  intro n _
  refine Ev.rounds (?_ : Ev (fun q => laws_FnExactCountEnds.f q n) true)
  obtain ⟨r, h1, h2⟩ := both_ev n
  unfold laws_FnExactCountEnds.f
  refine Ev.bind h1 (Ev.bind h2 ?_)
  exact Ev.pos rfl (Ev.neg (by simp) (Ev.val rfl))

end Go.Proofs.Ytgdjnaojcpoigaa.Pure
