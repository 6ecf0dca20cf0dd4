/- An order is layered exactly if its fall sweep is sorted, falls descend, and fall sweeps sort in as many as are told. -/
import Derived.Test.YtbnieikbjmfhgaaPFnFallsx0
import Derived.Test.YtbnieikbjmfhgaaPFnFallsx1
import Derived.Test.YtbnieikbjmfhgaaPFnFallsx2
import Derived.Test.YtbnieikbjmfhgaaPFnFallsx3
import Derived.Test.YtbnieikbjmfhgaaPFnFallsx4
import Derived.Test.YtbnieikbjmfhgaaPFnFallsx5
import Derived.Test.YtbnieikbjmfhgaaPFnFallsx6
import Derived.Test.YtbnieikbjmfhgaaPFnFallsx7
import Derived.Test.YtbnieikbjmfhgaaPFnFallsx8
import Derived.Test.YtbnieikbjmfhgaaPFnFallsx9
import Derived.Test.YtbnieikbjmfhgaaPFnFallsx10
import Derived.Test.YtbnieikbjmfhgaaPFnFallsx11
import Derived.Test.YtbnieikbjmfhgaaPFnFallsx12
import Derived.Test.YtbnieikbjmfhgaaPFnFallsx13
import Derived.Test.YtbnieikbjmfhgaaPFnFallsx14
import Derived.Test.YtbnieikbjmfhgaaPFnFallsx15
import Derived.Test.YtbnieikbjmfhgaaPFnFallsx16
import Derived.Test.YtbnieikbjmfhgaaPFnFallsx17
import Derived.Test.YtbnieikbjmfhgaaPFnFallsx18
import Derived.Test.YtbnieikbjmfhgaaPFnFallsx19
import Derived.Test.YtbnieikbjmfhgaaPFnFallsx20
import Derived.Test.YtbnieikbjmfhgaaPFnFallsx21
import Derived.WalkSmall
import Derived.Test.YtbnieikbjmfhgaaK
set_option linter.unusedVariables false
set_option linter.unusedSimpArgs false
namespace Go.Proofs.Ytbnieikbjmfhgaa.Pure
open Go.RowKit Go.Proofs.Ytbnieikbjmfhgaa.PFnFalls Go.Proofs.YtbnieikbjmfhgaaW.PrintWords Go.Proofs.YtbnieikbjmfhgaaW.PrintLast Go.Proofs.YtbnieikbjmfhgaaW.PrintMore
theorem l1In_is (a b c : Int) : spec_l1In.f a b c = some (decide (b ≤ a ∧ a ≤ c)) := by
  unfold spec_l1In.f
  by_cases h : a ≥ b
  · rw [if_pos h]; simp [h]
  · rw [if_neg h]; simp; omega
theorem l1Has_l (l : List Int) (x : Int) (hn : l.length ≤ 17592186044416) : ∀ (d i : Nat), l.length = i + d → Ev (fun k => spec_l1Has.l0 k l x i) ((l.drop i).contains x)
  | 0, i, h => by
    refine Ev.step (fun k => by rw [spec_l1Has.l0]) ?_
    refine Ev.neg (by omega) (Ev.val ?_)
    rw [List.drop_of_length_le (by omega)]
    simp
  | d + 1, i, h => by
    refine Ev.step (fun k => by rw [spec_l1Has.l0]) ?_
    have e : wrap64 ((i : Int) + 1) = ((i + 1 : Nat) : Int) := by rw [w64 (by omega)]; omega
    simp only [e]
    rw [drop_step l i (by omega)]
    refine Ev.pos (by omega) (Ev.pos (by omega) (Ev.ite (fun hc => Ev.val ?_) (fun hc => ?_)))
    · have hc' : nth l i = x := hc
      rw [hc']; simp
    · have hc' : ¬ nth l i = x := hc
      refine (l1Has_l l x hn d (i + 1) (by omega)).to ?_
      have : ¬ x = nth l i := fun h => hc' h.symm
      rw [List.contains_cons]
      simp [this]
theorem l1Has_ev (l : List Int) (x : Int) (hn : l.length ≤ 17592186044416) : Ev (fun k => spec_l1Has.f k l x) (l.contains x) := by
  unfold spec_l1Has.f
  exact (l1Has_l l x hn l.length 0 (by omega)).to (by simp)
theorem l2Order_l (l : List Int) (hn : l.length ≤ 17592186044416) : ∀ (d i : Nat), l.length = i + d → Ev (fun k => spec_l2Order.l0 k l i) (allFrom (ordAt l) d i)
  | 0, i, h => by
    refine Ev.step (fun k => by rw [spec_l2Order.l0]) ?_
    exact Ev.neg (by omega) (Ev.val rfl)
  | d + 1, i, h => by
    refine Ev.step (fun k => by rw [spec_l2Order.l0]) ?_
    have e : wrap64 ((i : Int) + 1) = ((i + 1 : Nat) : Int) := by rw [w64 (by omega)]; omega
    simp only [e, l1In_is, Option.bind_some, rd_nat, Int.toNat_natCast, decide_eq_true_eq]
    refine Ev.pos (by omega) (Ev.pos (by omega) (Ev.ite (fun hc => Ev.pos (by omega) ?_) (fun hc => Ev.val ?_)))
    · refine Ev.bind (l1Has_ev _ _ (by simp; omega)) ?_
      refine Ev.ite (fun hb => Ev.val ?_) (fun hb => (l2Order_l l hn d (i + 1) (by omega)).to ?_)
      · rw [allFrom, ordAt, hb]; simp
      · rw [Bool.not_eq_true] at hb
        rw [allFrom, ordAt, hb]; simp [hc]
    · rw [allFrom, ordAt]
      by_cases h1 : 1 ≤ nth l i
      · have : ¬ nth l i ≤ l.length := fun h2 => hc ⟨h1, h2⟩
        simp [this]
      · simp [h1]
theorem l2Order_ev (l : List Int) (hn : l.length ≤ 17592186044416) : Ev (fun k => spec_l2Order.f k l) (isOrd l) := by
  unfold spec_l2Order.f
  simp only [l1In_is, Option.bind_some, decide_eq_true_eq]
  refine Ev.ite (fun hc => (l2Order_l l hn l.length 0 (by omega)).to ?_) (fun hc => Ev.val ?_)
  · have h1 : 1 ≤ l.length := by omega
    have h2 : l.length ≤ 7 := by omega
    simp [isOrd, h1, h2]
  · rw [isOrd]
    by_cases h1 : 1 ≤ l.length
    · have : ¬ l.length ≤ 7 := by omega
      simp [this]
    · simp [h1]
theorem Index_l (l : List Int) (x : Int) (hn : l.length ≤ 17592186044416) : ∀ (d i : Nat), l.length = i + d → (∀ j, j < i → nth l j ≠ x) → Ev (fun k => slices_Index_int_int.l0 k l x (l.length : Int) i) (idx l x)
  | 0, i, h, hq => by
    refine Ev.step (fun k => by rw [slices_Index_int_int.l0]) ?_
    refine Ev.neg (by omega) (Ev.val ?_)
    exact (idx_none l x fun j hj => hq j (by omega)).symm
  | d + 1, i, h, hq => by
    refine Ev.step (fun k => by rw [slices_Index_int_int.l0]) ?_
    have e : wrap64 ((i : Int) + 1) = ((i + 1 : Nat) : Int) := by rw [w64 (by omega)]; omega
    simp only [e]
    refine Ev.pos (by omega) (Ev.pos (by omega) (Ev.pos (by omega) (Ev.ite (fun hc => Ev.val ?_) (fun hc => ?_))))
    · exact (idx_some l x i (by omega) (by rw [hc]; rfl) hq).symm
    · refine Index_l l x hn d (i + 1) (by omega) (fun j hj => ?_)
      by_cases e : j = i
      · subst e; exact fun h => hc h.symm
      · exact hq j (by omega)
theorem Index_ev (l : List Int) (x : Int) (hn : l.length ≤ 17592186044416) : Ev (fun k => slices_Index_int_int.f k l x) (idx l x) := by
  unfold slices_Index_int_int.f
  exact Index_l l x hn l.length 0 (by omega) (fun j hj => by omega)
theorem Contains_ev (l : List Int) (x : Int) (hn : l.length ≤ 17592186044416) : Ev (fun k => slices_Contains_int_int.f k l x) (l.contains x) := by
  unfold slices_Contains_int_int.f
  exact Ev.bind (Index_ev l x hn) (Ev.val (idx_contains l x))
theorem isOrder_l (l : List Int) (hn : l.length ≤ 17592186044416) : ∀ (d i : Nat), l.length = i + d → Ev (fun k => impl_isOrder.l0 k l l (l.length : Int) i) (allFrom (ordAt l) d i)
  | 0, i, h => by
    refine Ev.step (fun k => by rw [impl_isOrder.l0]) ?_
    exact Ev.neg (by omega) (Ev.val rfl)
  | d + 1, i, h => by
    refine Ev.step (fun k => by rw [impl_isOrder.l0]) ?_
    have e : wrap64 ((i : Int) + 1) = ((i + 1 : Nat) : Int) := by rw [w64 (by omega)]; omega
    simp only [e, rd_nat, Int.toNat_natCast]
    refine Ev.pos (by omega) (Ev.pos (by omega) (Ev.pos (by omega) (Ev.ite (fun hc => Ev.val ?_) (fun hc => Ev.ite (fun hd => Ev.val ?_) (fun hd => Ev.pos (by omega) ?_)))))
    · have : ¬ 1 ≤ nth l i := by omega
      rw [allFrom, ordAt]; simp [this]
    · have : ¬ nth l i ≤ l.length := by omega
      rw [allFrom, ordAt]; simp [this]
    · refine Ev.bind (Contains_ev _ _ (by simp; omega)) ?_
      refine Ev.ite (fun hb => Ev.val ?_) (fun hb => (isOrder_l l hn d (i + 1) (by omega)).to ?_)
      · rw [allFrom, ordAt, hb]; simp
      · rw [Bool.not_eq_true] at hb
        have h1 : 1 ≤ nth l i := by omega
        have h2 : nth l i ≤ l.length := by omega
        rw [allFrom, ordAt, hb]; simp [h1, h2]
theorem isOrder_ev (l : List Int) (hn : l.length ≤ 17592186044416) : Ev (fun k => impl_isOrder.f k l) (isOrd l) := by
  unfold impl_isOrder.f
  refine Ev.ite (fun hc => ?_) (fun hc => ?_)
  · refine Ev.step (fun k => by rw [impl_isOrder.j0]) ?_
    refine Ev.pos rfl (Ev.val ?_)
    have : ¬ 1 ≤ l.length := by omega
    simp [isOrd, this]
  · refine Ev.step (fun k => by rw [impl_isOrder.j0]) ?_
    simp only [decide_eq_true_eq]
    refine Ev.ite (fun hd => Ev.val ?_) (fun hd => (isOrder_l l hn l.length 0 (by omega)).to ?_)
    · have : ¬ l.length ≤ 7 := by omega
      simp [isOrd, this]
    · have h1 : 1 ≤ l.length := by omega
      have h2 : l.length ≤ 7 := by omega
      simp [isOrd, h1, h2]
def allO (ns : List Int) (p : List Int → Bool) : Nat → List Int → Bool
  | 0, q => p q
  | d + 1, q => ns.all fun c => q.contains c || allO ns p d (c :: q)
theorem isOrd_drop {l : List Int} (h : isOrd l = true) (i : Nat) (hi : i < l.length) : nth l i ∉ l.drop (i + 1) := by
  intro hm
  obtain ⟨j, hj, e⟩ := List.mem_iff_getElem.1 hm
  rw [List.getElem_drop] at e
  simp only [List.length_drop] at hj
  refine (isOrd_at h (i + 1 + j) (by omega)).2.2 ?_
  rw [nth_lt l (i + 1 + j) (by omega), e, nth_lt l i hi, List.mem_take_iff_getElem]
  exact ⟨i, by omega, rfl⟩
theorem allO_mem {l : List Int} (h : isOrd l = true) (ns : List Int) (hns : ∀ x : Int, 1 ≤ x → x ≤ l.length → x ∈ ns) (p : List Int → Bool) : ∀ i, i ≤ l.length → allO ns p i (l.drop i) = true → p l = true
  | 0, _, hp => by simpa [allO] using hp
  | i + 1, hi, hp => by
    rw [allO, List.all_eq_true] at hp
    have ha := isOrd_at h i (by omega)
    have h1 := hp (nth l i) (hns _ ha.1 ha.2.1)
    have h2 : (l.drop (i + 1)).contains (nth l i) = false := by
      have := isOrd_drop h i (by omega)
      simpa using this
    rw [h2, Bool.false_or, ← drop_step l i (by omega)] at h1
    exact allO_mem h ns hns p i (by omega) h1
def intsTo (n : Nat) : List Int := ([1, 2, 3, 4, 5, 6, 7] : List Int).take n
theorem intsTo_mem : ∀ n : Nat, n ≤ 7 → ∀ x : Int, 1 ≤ x → x ≤ n → x ∈ intsTo n := by
  intro n hn x h1 h2
  have hx : x = 1 ∨ x = 2 ∨ x = 3 ∨ x = 4 ∨ x = 5 ∨ x = 6 ∨ x = 7 := by omega
  have hn' : n = 0 ∨ n = 1 ∨ n = 2 ∨ n = 3 ∨ n = 4 ∨ n = 5 ∨ n = 6 ∨ n = 7 := by omega
  rcases hn' with rfl | rfl | rfl | rfl | rfl | rfl | rfl | rfl <;> rcases hx with rfl | rfl | rfl | rfl | rfl | rfl | rfl <;> first | (exfalso; omega) | simp [intsTo]
theorem orders_all {l : List Int} (h : isOrd l = true) (p : List Int → Bool) (hp : ∀ n ∈ [1, 2, 3, 4, 5, 6, 7], allO (intsTo n) p n [] = true) : p l = true := by
  have hl := isOrd_len h
  have hm : l.length ∈ [1, 2, 3, 4, 5, 6, 7] := by
    have : l.length = 1 ∨ l.length = 2 ∨ l.length = 3 ∨ l.length = 4 ∨ l.length = 5 ∨ l.length = 6 ∨ l.length = 7 := by omega
    simp [this]
  refine allO_mem h (intsTo l.length) (fun x h1 h2 => intsTo_mem l.length hl.2 x h1 h2) p l.length (Nat.le_refl _) ?_
  rw [List.drop_length]
  exact hp _ hm
theorem isOrd_of {l : List Int} (h1 : 1 ≤ l.length) (h2 : l.length ≤ 7) (hd : l.Nodup) (hm : ∀ x ∈ l, 1 ≤ x ∧ x ≤ l.length) : isOrd l = true := by
  simp only [isOrd, Bool.and_eq_true, decide_eq_true_eq]
  refine ⟨h1, h2, (allFrom_iff _ _ _).2 fun j _ hj => ?_⟩
  have hj' : j < l.length := by omega
  have := hm (nth l j) (by rw [nth_lt _ _ hj']; exact List.getElem_mem hj')
  have hn : nth l j ∉ l.take j := by
    intro hc
    obtain ⟨i, hi, e⟩ := List.mem_take_iff_getElem.1 hc
    rw [nth_lt _ _ hj'] at e
    have := (List.getElem_inj hd).1 e
    omega
  simp [ordAt, this.1, this.2, hn]
theorem isOrd_nodup {l : List Int} (h : isOrd l = true) : l.Nodup := by
  refine List.pairwise_iff_getElem.2 fun i j hi hj hij e => (isOrd_at h j hj).2.2 ?_
  rw [nth_lt _ _ hj, ← e]
  exact List.mem_take_iff_getElem.2 ⟨i, by omega, rfl⟩
theorem isOrd_all_ : ∀ n ∈ [1, 2, 3, 4, 5, 6, 7], allO (intsTo n) (fun l => (intsTo l.length).all fun x => l.contains x) n [] = true := by decide +kernel
theorem isOrd_all {l : List Int} (h : isOrd l = true) (x : Int) (h1 : 1 ≤ x) (h2 : x ≤ l.length) : x ∈ l := by
  have := orders_all h _ isOrd_all_
  rw [List.all_eq_true] at this
  simpa using this x (intsTo_mem l.length (isOrd_len h).2 x h1 h2)
theorem isOrd_mem {l : List Int} (h : isOrd l = true) (x : Int) (hx : x ∈ l) : 1 ≤ x ∧ x ≤ l.length := by
  obtain ⟨i, hi, e⟩ := List.mem_iff_getElem.1 hx
  have := isOrd_at h i hi
  rw [nth_lt _ _ hi, e] at this
  exact ⟨this.1, this.2.1⟩
structure Twin (o t : List Int) : Prop where
  len : o.length = t.length
  ndo : o.Nodup
  ndt : t.Nodup
  fwd : ∀ x ∈ o, x ∈ t
  bwd : ∀ x ∈ t, x ∈ o
theorem Twin.ord {l s : List Int} (hl : isOrd l = true) (hs : isOrd s = true) (h : l.length = s.length) : Twin l s :=
  ⟨h, isOrd_nodup hl, isOrd_nodup hs, fun x hx => isOrd_all hs x (isOrd_mem hl x hx).1 (by have := (isOrd_mem hl x hx).2; omega), fun x hx => isOrd_all hl x (isOrd_mem hs x hx).1 (by have := (isOrd_mem hs x hx).2; omega)⟩
theorem nodup_nth {l : List Int} (h : l.Nodup) (i j : Nat) (hi : i < l.length) (hj : j < l.length) (e : nth l i = nth l j) : i = j := by
  rw [nth_lt _ _ hi, nth_lt _ _ hj] at e
  exact (List.getElem_inj h).1 e
theorem idx_at {l : List Int} (h : l.Nodup) (i : Nat) (hi : i < l.length) : idx l (nth l i) = i :=
  idx_some l _ i hi rfl fun j hj e => by have := nodup_nth h j i (by omega) hi e; omega
theorem idx_mem {l : List Int} {x : Int} (h : x ∈ l) : ∃ i : Nat, i < l.length ∧ idx l x = i ∧ nth l i = x := by
  induction l with
  | nil => cases h
  | cons y l ih =>
    by_cases e : y = x
    · exact ⟨0, by simp, by simp [idx, e], by simp [nth, e]⟩
    · have hm : x ∈ l := by
        rcases List.mem_cons.1 h with h | h
        · exact absurd h.symm e
        · exact h
      obtain ⟨i, h1, h2, h3⟩ := ih hm
      refine ⟨i + 1, by simpa using h1, ?_, by rw [nth_cons_succ]; exact h3⟩
      rw [idx, if_neg e, h2, if_neg (by omega)]
      omega
theorem nth_take (l : List Int) (c i : Nat) (h : i < c) : nth (l.take c) i = nth l i := by
  unfold nth
  rw [List.getD_eq_getElem?_getD, List.getD_eq_getElem?_getD, List.getElem?_take, if_pos h]
theorem nth_rev (l : List Int) (i : Nat) (h : i < l.length) : nth l.reverse i = nth l (l.length - 1 - i) := by
  unfold nth
  rw [List.getD_eq_getElem?_getD, List.getD_eq_getElem?_getD, List.getElem?_reverse h]
def facN (n : Nat) : Nat := [1, 1, 2, 6, 24, 120, 720, 5040].getD n 1
theorem facN_pos (n : Nat) : 0 < facN n := by
  rcases Nat.lt_or_ge n 8 with h | h
  · have : n = 0 ∨ n = 1 ∨ n = 2 ∨ n = 3 ∨ n = 4 ∨ n = 5 ∨ n = 6 ∨ n = 7 := by omega
    rcases this with rfl | rfl | rfl | rfl | rfl | rfl | rfl | rfl <;> decide
  · unfold facN
    rw [List.getD_eq_getElem?_getD, List.getElem?_eq_none (by simpa using h)]
    decide
theorem facN_le (n : Nat) : facN n ≤ 5040 := by
  rcases Nat.lt_or_ge n 8 with h | h
  · have : n = 0 ∨ n = 1 ∨ n = 2 ∨ n = 3 ∨ n = 4 ∨ n = 5 ∨ n = 6 ∨ n = 7 := by omega
    rcases this with rfl | rfl | rfl | rfl | rfl | rfl | rfl | rfl <;> decide
  · unfold facN
    rw [List.getD_eq_getElem?_getD, List.getElem?_eq_none (by simpa using h)]
    decide
theorem facN_succ (n : Nat) (h : n ≤ 6) : facN (n + 1) = (n + 1) * facN n := by
  have : n = 0 ∨ n = 1 ∨ n = 2 ∨ n = 3 ∨ n = 4 ∨ n = 5 ∨ n = 6 := by omega
  rcases this with rfl | rfl | rfl | rfl | rfl | rfl | rfl <;> decide
def atM : Nat → List Int → Nat → List Int
  | 0, _, _ => []
  | d + 1, left, k => nth left (k / facN d) :: atM d (left.take (k / facN d) ++ left.drop (k / facN d + 1)) (k % facN d)
theorem atM_length : ∀ (d : Nat) (left : List Int) (k : Nat), (atM d left k).length = d
  | 0, _, _ => rfl
  | d + 1, left, k => by rw [atM, List.length_cons, atM_length d]
def ordsM (n : Nat) : List (List Int) := (List.range (facN n)).map fun k => atM n (marked 1 n) k
theorem ordsM_length (n : Nat) : (ordsM n).length = facN n := by simp [ordsM]
theorem ordsM_len (n : Nat) (l : List Int) (h : l ∈ ordsM n) : l.length = n := by
  obtain ⟨k, _, rfl⟩ := List.mem_map.1 h
  exact atM_length n _ k
theorem tdiv_nat (a b : Nat) : Int.tdiv (a : Int) (b : Int) = ((a / b : Nat) : Int) := (Int.ofNat_tdiv a b).symm
theorem tmod_nat (a b : Nat) : Int.tmod (a : Int) (b : Int) = ((a % b : Nat) : Int) := (Int.ofNat_tmod a b).symm
theorem div_lt_of (d k : Nat) (hd : d ≤ 6) (h : k < facN (d + 1)) : k / facN d < d + 1 := by
  rw [Nat.div_lt_iff_lt_mul (facN_pos d), ← facN_succ d hd]
  exact h
theorem l1Own_is (l : List Int) (h : l.length < 17592186044416) : spec_l1Own.f l = some l := by
  unfold spec_l1Own.f
  simp [h]
theorem l1Same_l (a b : List Int) (hn : a.length ≤ 17592186044416) (hl : a.length = b.length) : ∀ (d i : Nat), a.length = i + d → Ev (fun k => spec_l1Same.l0 k a b i) (decide (a.drop i = b.drop i))
  | 0, i, h => by
    refine Ev.step (fun k => by rw [spec_l1Same.l0]) (Ev.neg (by omega) (Ev.val ?_))
    rw [List.drop_of_length_le (by omega), List.drop_of_length_le (by omega)]; rfl
  | d + 1, i, h => by
    refine Ev.step (fun k => by rw [spec_l1Same.l0]) ?_
    have e : wrap64 ((i : Int) + 1) = ((i + 1 : Nat) : Int) := by rw [w64 (by omega)]; omega
    simp only [e]
    refine Ev.pos (by omega) (Ev.pos (by omega) (Ev.pos (by omega) (Ev.ite (fun hc => Ev.to (l1Same_l a b hn hl d (i + 1) (by omega)) ?_) (fun hc => Ev.val ?_))))
    · rw [drop_step a i (by omega), drop_step b i (by omega)]
      have hc' : nth a i = nth b i := hc
      simp [hc']
    · rw [drop_step a i (by omega), drop_step b i (by omega)]
      have hc' : ¬ nth a i = nth b i := hc
      simp [hc']
theorem l1Same_ev (a b : List Int) (hn : a.length ≤ 17592186044416) : Ev (fun k => spec_l1Same.f k a b) (decide (a = b)) := by
  unfold spec_l1Same.f
  by_cases hl : a.length = b.length
  · exact Ev.pos (by omega) (Ev.to (l1Same_l a b hn hl a.length 0 (by omega)) (by simp))
  · refine Ev.neg (by omega) (Ev.val ?_)
    have : a ≠ b := fun e => hl (by rw [e])
    simp [this]
theorem Equal_l (a b : List Int) (hn : a.length ≤ 17592186044416) (hl : a.length = b.length) : ∀ (d i : Nat), a.length = i + d → Ev (fun k => slices_Equal_int_int.l0 k a b (a.length : Int) i) (decide (a.drop i = b.drop i))
  | 0, i, h => by
    refine Ev.step (fun k => by rw [slices_Equal_int_int.l0]) (Ev.neg (by omega) (Ev.val ?_))
    rw [List.drop_of_length_le (by omega), List.drop_of_length_le (by omega)]; rfl
  | d + 1, i, h => by
    refine Ev.step (fun k => by rw [slices_Equal_int_int.l0]) ?_
    have e : wrap64 ((i : Int) + 1) = ((i + 1 : Nat) : Int) := by rw [w64 (by omega)]; omega
    simp only [e]
    refine Ev.pos (by omega) (Ev.pos (by omega) (Ev.pos (by omega) (Ev.pos (by omega) (Ev.ite (fun hc => Ev.to (Equal_l a b hn hl d (i + 1) (by omega)) ?_) (fun hc => Ev.val ?_)))))
    · rw [drop_step a i (by omega), drop_step b i (by omega)]
      have hc' : nth a i = nth b i := hc
      simp [hc']
    · rw [drop_step a i (by omega), drop_step b i (by omega)]
      have hc' : ¬ nth a i = nth b i := hc
      simp [hc']
theorem Equal_ev (a b : List Int) (hn : a.length ≤ 17592186044416) : Ev (fun k => slices_Equal_int_int.f k a b) (decide (a = b)) := by
  unfold slices_Equal_int_int.f
  by_cases hl : a.length = b.length
  · exact Ev.pos (by omega) (Ev.to (Equal_l a b hn hl a.length 0 (by omega)) (by simp))
  · refine Ev.neg (by omega) (Ev.val ?_)
    have : a ≠ b := fun e => hl (by rw [e])
    simp [this]
theorem l2Sorted_l (n : Nat) (hn : n ≤ 1000) : ∀ d i : Nat, n = i + d → Ev (fun k => spec_l2Sorted.l0 k n (marked 1 i) ((i : Int) + 1)) (marked 1 n)
  | 0, i, h => by
    refine Ev.step (fun k => by rw [spec_l2Sorted.l0]) (Ev.neg (by omega) (Ev.val ?_))
    rw [h, Nat.add_zero]
  | d + 1, i, h => by
    refine Ev.step (fun k => by rw [spec_l2Sorted.l0]) ?_
    have e : wrap64 ((i : Int) + 1 + 1) = ((i + 1 : Nat) : Int) + 1 := by rw [w64 (by omega)]; omega
    have e2 : marked 1 i ++ [(i : Int) + 1] = marked 1 (i + 1) := by rw [marked_snoc]; congr 2; omega
    simp only [e, e2]
    exact Ev.pos (by omega) (Ev.pos (by rw [marked_length]; omega) (l2Sorted_l n hn d (i + 1) (by omega)))
theorem l2Sorted_ev (n : Nat) (hn : n ≤ 1000) : Ev (fun k => spec_l2Sorted.f k n) (marked 1 n) := l2Sorted_l n hn n 0 (by omega)
theorem sorted_l (n : Nat) (hn : n ≤ 1000) : ∀ d i : Nat, n = i + d → Ev (fun k => impl_sorted.l0 k (marked 1 i) n i) (marked 1 n)
  | 0, i, h => by
    refine Ev.step (fun k => by rw [impl_sorted.l0]) (Ev.neg (by omega) (Ev.val ?_))
    rw [h, Nat.add_zero]
  | d + 1, i, h => by
    refine Ev.step (fun k => by rw [impl_sorted.l0]) ?_
    have e : wrap64 ((i : Int) + 1) = ((i + 1 : Nat) : Int) := by rw [w64 (by omega)]; omega
    have e2 : marked 1 i ++ [((i + 1 : Nat) : Int)] = marked 1 (i + 1) := by rw [marked_snoc]; congr 2; omega
    simp only [e, e2]
    exact Ev.pos (by omega) (Ev.pos (by rw [marked_length]; omega) (sorted_l n hn d (i + 1) (by omega)))
theorem sorted_ev (n : Nat) (hn : n ≤ 1000) : Ev (fun k => impl_sorted.f k n) (marked 1 n) := sorted_l n hn n 0 (by omega)
theorem marked_ord (n : Nat) (h1 : 1 ≤ n) (h2 : n ≤ 7) : isOrd (marked 1 n) = true := by
  have : n = 1 ∨ n = 2 ∨ n = 3 ∨ n = 4 ∨ n = 5 ∨ n = 6 ∨ n = 7 := by omega
  rcases this with rfl | rfl | rfl | rfl | rfl | rfl | rfl <;> decide
def sortedB (l : List Int) : Nat → Bool
  | 0 => true
  | i + 1 => if nth l (i + 1) < nth l i then false else sortedB l i
theorem cmpLess_is (a b : Int) : cmp_Less_int.f a b = some (decide (a < b)) := by
  unfold cmp_Less_int.f cmp_isNaN_int.f
  simp
theorem isSorted_l (l : List Int) (hn : l.length ≤ 17592186044416) : ∀ i : Nat, i < l.length → Ev (fun k => slices_IsSorted_int_int.l0 k l i) (sortedB l i)
  | 0, hi => by
    refine Ev.step (fun k => by rw [slices_IsSorted_int_int.l0]) (Ev.neg (by omega) (Ev.val ?_))
    rw [sortedB]
  | i + 1, hi => by
    refine Ev.step (fun k => by rw [slices_IsSorted_int_int.l0]) ?_
    have e : wrap64 (((i + 1 : Nat) : Int) - 1) = (i : Int) := by rw [w64 (by omega)]; omega
    simp only [e]
    clear e
    refine Ev.pos (by omega) (Ev.pos (by omega) (Ev.pos (by omega) (Ev.pos (by omega) (Ev.pos (by omega) ?_))))
    simp only [cmpLess_is, Option.bind_some, rd_nat]
    rw [sortedB]
    refine Ev.ite (fun hc => Ev.val ?_) (fun hc => ?_)
    · rw [decide_eq_true_eq] at hc; rw [if_pos hc]
    · rw [decide_eq_true_eq] at hc; rw [if_neg hc]; exact isSorted_l l hn i (by omega)
theorem isSorted_ev (l : List Int) (hn : l.length ≤ 17592186044416) (h0 : 0 < l.length) : Ev (fun k => impl_isSorted.f k l) (sortedB l (l.length - 1)) := by
  unfold impl_isSorted.f slices_IsSorted_int_int.f
  have e : wrap64 ((l.length : Int) - 1) = ((l.length - 1 : Nat) : Int) := by rw [w64 (by omega)]; omega
  simp only [e]
  exact Ev.bind (isSorted_l l hn _ (by omega)) (Ev.val rfl)
theorem l2Ways_ev (n : Nat) (h : n ≤ 7) : Ev (fun k => spec_l2Ways.f k (n : Int)) (facN n : Int) := by
  have : n = 0 ∨ n = 1 ∨ n = 2 ∨ n = 3 ∨ n = 4 ∨ n = 5 ∨ n = 6 ∨ n = 7 := by omega
  rcases this with rfl | rfl | rfl | rfl | rfl | rfl | rfl | rfl <;> exact Ev.of (fun k => spec_l2Ways.mono _ k) (k := 10) (by decide +kernel)
theorem l2At_l : ∀ (d : Nat) (left acc : List Int) (k : Nat), left.length = d → d ≤ 7 → acc.length + d ≤ 100 → k < facN d → Ev (fun q => spec_l2At.l0 q (k : Int) acc left) (acc ++ atM d left k)
  | 0, left, acc, k, hl, hd, ha, hk => by
    refine Ev.step (fun q => by rw [spec_l2At.l0]) (Ev.neg (by omega) (Ev.val ?_))
    rw [atM, List.append_nil]
  | d + 1, left, acc, k, hl, hd, ha, hk => by
    refine Ev.step (fun q => by rw [spec_l2At.l0]) (Ev.pos (by omega) ?_)
    have e1 : wrap64 ((left.length : Int) - 1) = (d : Int) := by rw [w64 (by omega)]; omega
    rw [e1]
    clear e1
    refine Ev.bind (l2Ways_ev d (by omega)) (Ev.neg (by have := facN_pos d; omega) ?_)
    have hq := div_lt_of d k (by omega) hk
    have h5 := facN_le (d + 1)
    have e2 : wrap64 (Int.tdiv (k : Int) (facN d : Int)) = ((k / facN d : Nat) : Int) := by rw [tdiv_nat]; exact w64n _ (by have := Nat.div_le_self k (facN d); omega)
    have hmod := Nat.mod_lt k (facN_pos d)
    simp only [e2, tmod_nat]
    rw [atM]
    clear e2 hk
    generalize k / facN d = qq at hq ⊢
    generalize k % facN d = k2 at hmod ⊢
    have e3 : wrap64 ((qq : Int) + 1) = ((qq + 1 : Nat) : Int) := by rw [w64 (by omega)]; omega
    simp only [e3, Int.toNat_natCast, rd_nat]
    clear e3
    refine Ev.pos (by omega) (Ev.pos (by omega) (Ev.pos (by omega) (Ev.pos (by omega) ?_)))
    have h1 : (left.take qq).length < 17592186044416 := by rw [List.length_take]; omega
    simp only [l1Own_is _ h1, Option.bind_some]
    refine Ev.pos (by omega) (Ev.pos (by omega) (Ev.pos (by rw [List.length_take, List.length_drop]; omega) ?_))
    refine Ev.to (l2At_l d _ _ k2 (by rw [List.length_append, List.length_take, List.length_drop]; omega) (by omega) (by rw [List.length_append, List.length_singleton]; omega) hmod) ?_
    rw [List.append_assoc]; rfl
theorem l2At_ev (n k : Nat) (hn : n ≤ 7) (hk : k < facN n) : Ev (fun q => spec_l2At.f q (n : Int) (k : Int)) (atM n (marked 1 n) k) := by
  unfold spec_l2At.f
  exact Ev.bind (l2Sorted_ev n (by omega)) (Ev.to (l2At_l n _ [] k (marked_length n 1) hn (by simp; omega) hk) (List.nil_append _))
theorem l2Orders_l (n : Nat) (hn : n ≤ 7) : ∀ (d i : Nat), facN n = i + d → Ev (fun q => spec_l2Orders.l0 q (n : Int) ((List.range i).map fun k => atM n (marked 1 n) k) (i : Int)) (ordsM n)
  | 0, i, h => by
    refine Ev.step (fun q => by rw [spec_l2Orders.l0]) ?_
    refine Ev.bind (l2Ways_ev n hn) ?_
    refine Ev.neg (by omega) (Ev.val ?_)
    rw [ordsM, h, Nat.add_zero]
  | d + 1, i, h => by
    have h5 := facN_le n
    refine Ev.step (fun q => by rw [spec_l2Orders.l0]) ?_
    refine Ev.bind (l2Ways_ev n hn) ?_
    refine Ev.pos (by omega) ?_
    refine Ev.bind (l2At_ev n i hn (by omega)) ?_
    refine Ev.pos (by rw [List.length_map, List.length_range]; omega) ?_
    have e : wrap64 ((i : Int) + 1) = ((i + 1 : Nat) : Int) := by rw [w64 (by omega)]; omega
    have e2 : ((List.range i).map fun k => atM n (marked 1 n) k) ++ [atM n (marked 1 n) i] = (List.range (i + 1)).map fun k => atM n (marked 1 n) k := by rw [List.range_succ, List.map_append]; rfl
    simp only [e, e2]
    exact l2Orders_l n hn d (i + 1) (by omega)
theorem l2Orders_ev (n : Nat) (hn : n ≤ 7) : Ev (fun q => spec_l2Orders.f q (n : Int)) (ordsM n) := by
  unfold spec_l2Orders.f
  exact l2Orders_l n hn (facN n) 0 (by omega)
theorem factorial_ev (n : Nat) (h : n ≤ 7) : Ev (fun k => impl_factorial.f k (n : Int)) (facN n : Int) := by
  have : n = 0 ∨ n = 1 ∨ n = 2 ∨ n = 3 ∨ n = 4 ∨ n = 5 ∨ n = 6 ∨ n = 7 := by omega
  rcases this with rfl | rfl | rfl | rfl | rfl | rfl | rfl | rfl <;> exact Ev.of (fun k => impl_factorial.mono _ k) (k := 10) (by decide +kernel)
theorem orderAt_l : ∀ (d : Nat) (left acc : List Int) (k : Nat), left.length = d → d ≤ 7 → acc.length + d ≤ 100 → k < facN d → Ev (fun q => impl_orderAt.l0 q (k : Int) left acc) (acc ++ atM d left k)
  | 0, left, acc, k, hl, hd, ha, hk => by
    refine Ev.step (fun q => by rw [impl_orderAt.l0]) (Ev.neg (by omega) (Ev.val ?_))
    rw [atM, List.append_nil]
  | d + 1, left, acc, k, hl, hd, ha, hk => by
    refine Ev.step (fun q => by rw [impl_orderAt.l0]) (Ev.pos (by omega) ?_)
    have e1 : wrap64 ((left.length : Int) - 1) = (d : Int) := by rw [w64 (by omega)]; omega
    rw [e1]
    clear e1
    refine Ev.bind (factorial_ev d (by omega)) (Ev.neg (by have := facN_pos d; omega) ?_)
    have hq := div_lt_of d k (by omega) hk
    have h5 := facN_le (d + 1)
    have e2 : wrap64 (Int.tdiv (k : Int) (facN d : Int)) = ((k / facN d : Nat) : Int) := by rw [tdiv_nat]; exact w64n _ (by have := Nat.div_le_self k (facN d); omega)
    have hmod := Nat.mod_lt k (facN_pos d)
    simp only [e2, tmod_nat]
    rw [atM]
    clear e2 hk
    generalize k / facN d = qq at hq ⊢
    generalize k % facN d = k2 at hmod ⊢
    have e3 : wrap64 ((qq : Int) + 1) = ((qq + 1 : Nat) : Int) := by rw [w64 (by omega)]; omega
    simp only [e3, rd_nat]
    clear e3
    have hdel : slices_Delete_int_int.f left (qq : Int) ((qq + 1 : Nat) : Int) = some (left.take qq ++ left.drop (qq + 1)) := by
      unfold slices_Delete_int_int.f
      rw [if_pos (by omega), Int.toNat_natCast, Int.toNat_natCast]
    refine Ev.pos (by omega) (Ev.pos (by omega) (Ev.pos (by omega) ?_))
    simp only [hdel, Option.bind_some]
    refine Ev.to (orderAt_l d _ _ k2 (by rw [List.length_append, List.length_take, List.length_drop]; omega) (by omega) (by rw [List.length_append, List.length_singleton]; omega) hmod) ?_
    rw [List.append_assoc]; rfl
theorem orderAt_ev (n k : Nat) (hn : n ≤ 7) (hk : k < facN n) : Ev (fun q => impl_orderAt.f q (n : Int) (k : Int)) (atM n (marked 1 n) k) := by
  unfold impl_orderAt.f
  exact Ev.bind (sorted_ev n (by omega)) (Ev.to (orderAt_l n _ [] k (marked_length n 1) hn (by simp; omega) hk) (List.nil_append _))
theorem allOrders_l (n : Nat) (hn : n ≤ 7) : ∀ (d i : Nat), facN n = i + d → Ev (fun q => impl_allOrders.l0 q (n : Int) ((List.range i).map fun k => atM n (marked 1 n) k) (facN n : Int) (i : Int)) (ordsM n)
  | 0, i, h => by
    refine Ev.step (fun q => by rw [impl_allOrders.l0]) (Ev.neg (by omega) (Ev.val ?_))
    rw [ordsM, h, Nat.add_zero]
  | d + 1, i, h => by
    have h5 := facN_le n
    refine Ev.step (fun q => by rw [impl_allOrders.l0]) ?_
    refine Ev.pos (by omega) ?_
    refine Ev.bind (orderAt_ev n i hn (by omega)) ?_
    refine Ev.pos (by rw [List.length_map, List.length_range]; omega) ?_
    have e : wrap64 ((i : Int) + 1) = ((i + 1 : Nat) : Int) := by rw [w64 (by omega)]; omega
    have e2 : ((List.range i).map fun k => atM n (marked 1 n) k) ++ [atM n (marked 1 n) i] = (List.range (i + 1)).map fun k => atM n (marked 1 n) k := by rw [List.range_succ, List.map_append]; rfl
    simp only [e, e2]
    exact allOrders_l n hn d (i + 1) (by omega)
theorem allOrders_ev (n : Nat) (hn : n ≤ 7) : Ev (fun q => impl_allOrders.f q (n : Int)) (ordsM n) := by
  unfold impl_allOrders.f
  exact Ev.bind (factorial_ev n hn) (allOrders_l n hn (facN n) 0 (by omega))
theorem atM_mem : ∀ (d : Nat) (left : List Int) (k : Nat), left.length = d → d ≤ 7 → k < facN d → (∀ x ∈ atM d left k, x ∈ left) ∧ (left.Nodup → (atM d left k).Nodup)
  | 0, left, k, _, _, _ => ⟨fun x hx => by simp [atM] at hx, fun _ => by simp [atM]⟩
  | d + 1, left, k, hl, hd, hk => by
    have hq := div_lt_of d k (by omega) hk
    have hmod := Nat.mod_lt k (facN_pos d)
    rw [atM]
    generalize k / facN d = q at hq ⊢
    have ih := atM_mem d (left.take q ++ left.drop (q + 1)) (k % facN d) (by rw [List.length_append, List.length_take, List.length_drop]; omega) (by omega) hmod
    have hsub : ∀ x ∈ left.take q ++ left.drop (q + 1), x ∈ left := fun x hx => by
      rcases List.mem_append.1 hx with hx | hx
      · exact List.mem_of_mem_take hx
      · exact List.mem_of_mem_drop hx
    refine ⟨fun x hx => ?_, fun hn => ?_⟩
    · rcases List.mem_cons.1 hx with rfl | hx
      · rw [nth_lt _ _ (by omega)]; exact List.getElem_mem _
      · exact hsub x (ih.1 x hx)
    · have e : left = left.take q ++ nth left q :: left.drop (q + 1) := by
        rw [← drop_step left q (by omega), List.take_append_drop]
      have hn2 := hn
      rw [e, List.nodup_append] at hn2
      obtain ⟨n1, n2, n3⟩ := hn2
      rw [List.nodup_cons] at n2 ⊢
      refine ⟨fun hc => ?_, ih.2 ?_⟩
      · rcases List.mem_append.1 (ih.1 _ hc) with hc | hc
        · exact n3 _ hc _ (by simp) rfl
        · exact n2.1 hc
      · rw [List.nodup_append]
        exact ⟨n1, n2.2, fun a ha b hb => n3 a ha b (by simp [hb])⟩
theorem marked_mem (n : Nat) : ∀ (a x : Int), x ∈ marked a n → a ≤ x ∧ x < a + n := by
  induction n with
  | zero => intro a x h; simp [marked] at h
  | succ n ih =>
    intro a x h
    rw [marked, List.mem_cons] at h
    rcases h with rfl | h
    · omega
    · have := ih (a + 1) x h; omega
theorem marked_nodup (n : Nat) : ∀ (a : Int), (marked a n).Nodup := by
  induction n with
  | zero => intro a; simp [marked]
  | succ n ih =>
    intro a
    rw [marked, List.nodup_cons]
    exact ⟨fun h => by have := marked_mem n _ _ h; omega, ih _⟩
theorem ordsM_ord (n : Nat) (h1 : 1 ≤ n) (h2 : n ≤ 7) (l : List Int) (h : l ∈ ordsM n) : isOrd l = true := by
  obtain ⟨k, hk, rfl⟩ := List.mem_map.1 h
  have hk := List.mem_range.1 hk
  have hm := atM_mem n (marked 1 n) k (marked_length n 1) h2 hk
  have hl := atM_length n (marked 1 n) k
  refine isOrd_of (by omega) (by omega) (hm.2 (marked_nodup n 1)) fun x hx => ?_
  have := marked_mem n 1 x (hm.1 x hx)
  rw [hl]
  omega
def cutsOk : Int → List Int → Bool
  | n, [] => n == 0
  | n, c :: cs => decide (1 ≤ c) && (decide (c ≤ n) && cutsOk (n - c) cs)
theorem cutsOk_neg (l : List Int) (n : Int) (h : n < 0) : cutsOk n l = false := by
  cases l with
  | nil => simp [cutsOk]; omega
  | cons c cs =>
    by_cases h1 : 1 ≤ c
    · have : ¬ c ≤ n := by omega
      simp [cutsOk, this]
    · simp [cutsOk, h1]
theorem cutsOk_len : ∀ (l : List Int) (n : Int), cutsOk n l = true → (l.length : Int) ≤ n
  | [], n, h => by simp [cutsOk] at h; simp [h]
  | c :: cs, n, h => by
    simp only [cutsOk, Bool.and_eq_true, decide_eq_true_eq] at h
    have := cutsOk_len cs (n - c) h.2.2
    simp only [List.length_cons]
    omega
def isCuts (n : Int) (l : List Int) : Bool := decide (1 ≤ n ∧ n ≤ 7) && cutsOk n l
theorem l6Cuts_l (n : Int) (l : List Int) (hn : l.length ≤ 17592186044416) : ∀ (d i : Nat) (s : Int), l.length = i + d → i ≤ 8 → (i : Int) ≤ s → s ≤ 7 * i → Ev (fun k => spec_l6Cuts.l0 k n l s i) (decide (1 ≤ n ∧ n ≤ 7) && cutsOk (n - s) (l.drop i))
  | 0, i, s, h, h8, hs, hs' => by
    refine Ev.step (fun k => by rw [spec_l6Cuts.l0]) ?_
    refine Ev.neg (by omega) ?_
    refine Ev.step (fun k => by rw [spec_l6Cuts.j1]) ?_
    refine Ev.neg (by simp) ?_
    simp only [l1In_is, Option.bind_some]
    refine Ev.ite (fun hc => Ev.val ?_) (fun hc => Ev.val ?_)
    · rw [hc, List.drop_of_length_le (by omega), cutsOk, Bool.true_and, Bool.eq_iff_iff]
      simp
      omega
    · rw [Bool.not_eq_true] at hc
      rw [hc, Bool.false_and]
  | d + 1, i, s, h, h8, hs, hs' => by
    refine Ev.step (fun k => by rw [spec_l6Cuts.l0]) ?_
    refine Ev.pos (by omega) ?_
    refine Ev.step (fun k => by rw [spec_l6Cuts.j1]) ?_
    rw [drop_step l i (by omega), cutsOk]
    simp only [l1In_is, Option.bind_some, decide_eq_true_eq, rd_nat]
    refine Ev.ite (fun h7 => Ev.pos (by omega) (Ev.pos (by omega) (Ev.ite (fun hc => ?_) (fun hc => Ev.val ?_)))) (fun h7 => Ev.ite (fun hc => Ev.val ?_) (fun hc => Ev.val ?_))
    · have e : wrap64 ((i : Int) + 1) = ((i + 1 : Nat) : Int) := by rw [w64 (by omega)]; omega
      have e1 : wrap64 (s + nth l i) = s + nth l i := w64 (by omega)
      simp only [e, e1]
      refine (l6Cuts_l n l hn d (i + 1) (s + nth l i) (by omega) (by omega) (by omega) (by omega)).to ?_
      rw [show n - (s + nth l i) = n - s - nth l i by omega]
      by_cases hle : nth l i ≤ n - s
      · simp [hle, hc.1]
      · rw [cutsOk_neg _ _ (by omega : n - s - nth l i < 0)]
        simp
    · by_cases h1 : 1 ≤ nth l i
      · by_cases hn7 : 1 ≤ n ∧ n ≤ 7
        · have : ¬ nth l i ≤ n - s := by omega
          simp [this]
        · simp [hn7]
      · simp [h1]
    · have h1 : ¬ (s = n) := by omega
      by_cases h2 : 1 ≤ nth l i
      · have : ¬ nth l i ≤ n - s := by omega
        simp [h1, this]
      · simp [h1, h2]
    · simp [hc]
theorem l6Cuts_ev (n : Int) (l : List Int) (hn : l.length ≤ 17592186044416) : Ev (fun k => spec_l6Cuts.f k n l) (isCuts n l) := by
  unfold spec_l6Cuts.f
  exact (l6Cuts_l n l hn l.length 0 0 (by omega) (by omega) (by omega) (by omega)).to (by simp [isCuts])
def fallsL (l : List Int) : Nat → Nat → List Int → List Int
  | 0, _, acc => acc
  | d + 1, i, acc => if 0 < i ∧ nth l i < nth l (i - 1) then fallsL l d (i + 1) (acc.set (acc.length - 1) (wrap64 (nth acc (acc.length - 1) + 1))) else fallsL l d (i + 1) (acc ++ [1])
def fallsOf (l : List Int) : List Int := fallsL l l.length 0 []
theorem fallsL_length (l : List Int) : ∀ (d i : Nat) (acc : List Int), (fallsL l d i acc).length ≤ acc.length + d
  | 0, i, acc => Nat.le_refl _
  | d + 1, i, acc => by
    rw [fallsL]
    split
    · have := fallsL_length l d (i + 1) (acc.set (acc.length - 1) (wrap64 (nth acc (acc.length - 1) + 1))); simp at this ⊢; omega
    · have := fallsL_length l d (i + 1) (acc ++ [1]); simp at this ⊢; omega
theorem l6Falls_l (l : List Int) (hn : l.length ≤ 17592186044415) : ∀ (d i : Nat) (acc : List Int), l.length = i + d → acc.length ≤ i → (0 < i → 0 < acc.length) → Ev (fun k => spec_l6Falls.l0 k l acc i) (fallsL l d i acc)
  | 0, i, acc, h, ha, hp => by
    refine Ev.step (fun k => by rw [spec_l6Falls.l0]) ?_
    refine Ev.neg (by omega) (Ev.val rfl)
  | d + 1, i, acc, h, ha, hp => by
    refine Ev.step (fun k => by rw [spec_l6Falls.l0]) ?_
    refine Ev.pos (by omega) ?_
    have e : wrap64 ((i : Int) + 1) = ((i + 1 : Nat) : Int) := by rw [w64 (by omega)]; omega
    simp only [e]
    rw [fallsL]
    refine Ev.ite (fun hi => ?_) (fun hi => Ev.pos (by omega) ?_)
    · have h0 : 0 < i := by omega
      have hp := hp h0
      have e1 : wrap64 ((i : Int) - 1) = ((i - 1 : Nat) : Int) := by rw [w64 (by omega)]; omega
      have e2 : wrap64 ((acc.length : Int) - 1) = ((acc.length - 1 : Nat) : Int) := by rw [w64 (by omega)]; omega
      simp only [e1, e2, rd_nat, Int.toNat_natCast]
      refine Ev.pos (by omega) (Ev.pos (by omega) (Ev.pos (by omega) (Ev.ite (fun hc => Ev.pos (by omega) (Ev.pos (by omega) ?_)) (fun hc => Ev.pos (by omega) ?_))))
      · rw [if_pos ⟨h0, hc⟩]
        exact l6Falls_l l hn d (i + 1) _ (by omega) (by simp; omega) (fun _ => by simp; omega)
      · rw [if_neg (fun h => hc h.2)]
        exact l6Falls_l l hn d (i + 1) _ (by omega) (by simp; omega) (fun _ => by simp)
    · rw [if_neg (fun h => by omega)]
      exact l6Falls_l l hn d (i + 1) _ (by omega) (by simp; omega) (fun _ => by simp)
theorem l6Falls_ev (l : List Int) (hn : l.length ≤ 17592186044415) : Ev (fun k => spec_l6Falls.f k l) (fallsOf l) := by
  unfold spec_l6Falls.f
  exact l6Falls_l l hn l.length 0 [] (by omega) (by simp) (fun h => by omega)
theorem snoc_last (acc : List Int) (v w : Int) : (acc ++ [v]).set ((acc ++ [v]).length - 1) w = acc ++ [w] := by
  simp [List.set_append]
theorem fallsOf_l (l : List Int) (hn : l.length ≤ 17592186044415) (hne : ∀ i, 0 < i → i < l.length → nth l i ≠ nth l (i - 1)) : ∀ (d i : Nat) (acc : List Int), l.length = i + d → acc.length ≤ i → (0 < i → 0 < acc.length) → Ev (fun k => impl_fallsOf.l0 k l acc l (l.length : Int) i) (fallsL l d i acc)
  | 0, i, acc, h, ha, hp => by
    refine Ev.step (fun k => by rw [impl_fallsOf.l0]) ?_
    refine Ev.neg (by omega) (Ev.val rfl)
  | d + 1, i, acc, h, ha, hp => by
    refine Ev.step (fun k => by rw [impl_fallsOf.l0]) ?_
    refine Ev.pos (by omega) (Ev.pos (by omega) (Ev.pos (by omega) ?_))
    have e : wrap64 ((i : Int) + 1) = ((i + 1 : Nat) : Int) := by rw [w64 (by omega)]; omega
    have e3 : wrap64 (((acc ++ [0]).length : Int) - 1) = ((acc.length : Nat) : Int) := by rw [w64 (by simp; omega)]; simp
    have e4 : rd (acc ++ [0]) (acc.length : Nat) = 0 := by rw [rd_nat, nth_snoc]
    have e5 : wrap64 (0 + 1) = 1 := w64 (by omega)
    have e6 : (acc ++ [(0 : Int)]).set acc.length 1 = acc ++ [1] := by simp [List.set_append]
    simp only [e, Option.bind_some, e3, e4, e5, Int.toNat_natCast, e6]
    rw [fallsL]
    refine Ev.ite (fun hi => Ev.pos (by omega) (Ev.pos (by omega) (Ev.pos (by rw [List.length_append, List.length_singleton]; omega) ?_))) (fun hi => ?_)
    · rw [if_neg (fun h => by omega)]
      exact fallsOf_l l hn hne d (i + 1) _ (by omega) (by simp; omega) (fun _ => by simp)
    · have h0 : 0 < i := by omega
      have hp := hp h0
      have hne' := hne i h0 (by omega)
      have e1 : wrap64 ((i : Int) - 1) = ((i - 1 : Nat) : Int) := by rw [w64 (by omega)]; omega
      have e2 : wrap64 ((acc.length : Int) - 1) = ((acc.length - 1 : Nat) : Int) := by rw [w64 (by omega)]; omega
      simp only [e1, e2, rd_nat, Int.toNat_natCast]
      refine Ev.pos (by omega) (Ev.pos (by omega) (Ev.ite (fun hc => Ev.pos (by omega) (Ev.pos (by omega) (Ev.pos (by rw [List.length_append, List.length_singleton]; omega) ?_))) (fun hc => Ev.pos (by omega) (Ev.pos (by omega) ?_))))
      · rw [if_neg (fun h => by omega)]
        exact fallsOf_l l hn hne d (i + 1) _ (by omega) (by simp; omega) (fun _ => by simp)
      · rw [if_pos ⟨h0, by omega⟩]
        exact fallsOf_l l hn hne d (i + 1) _ (by omega) (by simp; omega) (fun _ => by simp; omega)
theorem isOrd_ne {l : List Int} (h : isOrd l = true) (i : Nat) (h0 : 0 < i) (hi : i < l.length) : nth l i ≠ nth l (i - 1) := by
  intro e
  refine (isOrd_at h i hi).2.2 ?_
  rw [e, nth_lt l (i - 1) (by omega)]
  rw [List.mem_take_iff_getElem]
  exact ⟨i - 1, by omega, rfl⟩
theorem fallsOf_ev (l : List Int) (h : isOrd l = true) : Ev (fun k => impl_fallsOf.f k l) (fallsOf l) := by
  have := isOrd_len h
  unfold impl_fallsOf.f
  exact fallsOf_l l (by omega) (isOrd_ne h) l.length 0 [] (by omega) (by simp) (fun h => by omega)
def resFallsOf (l : List Int) : List Int := if isOrd l then fallsOf l else []
theorem resFallsOf_length (l : List Int) : (resFallsOf l).length ≤ 1000 := by
  unfold resFallsOf
  split
  · rename_i h
    have := isOrd_len h
    have := fallsL_length l l.length 0 []
    rw [fallsOf]
    simp at this
    omega
  · simp
theorem specFallsOf_ev (l : List Int) (hn : l.length ≤ 17592186044415) : Ev (fun k => spec_FallsOf.f k l) (resFallsOf l, isOrd l) := by
  unfold spec_FallsOf.f
  refine Ev.bind (l2Order_ev l (by omega)) (Ev.ite (fun hc => Ev.bind (l6Falls_ev l hn) (Ev.val ?_)) (fun hc => Ev.val ?_))
  · simp [resFallsOf, hc]
  · rw [Bool.not_eq_true] at hc; simp [resFallsOf, hc]
theorem implFallsOf_ev (l : List Int) (hn : l.length ≤ 17592186044415) : Ev (fun k => impl_FallsOf.f k l) (resFallsOf l, isOrd l) := by
  unfold impl_FallsOf.f
  refine Ev.bind (isOrder_ev l (by omega)) (Ev.ite (fun hc => Ev.bind (fallsOf_ev l hc) (Ev.val ?_)) (fun hc => Ev.val ?_))
  · simp [resFallsOf, hc]
  · rw [Bool.not_eq_true] at hc; simp [resFallsOf, hc]
theorem l2Back_l (l : List Int) (hn : l.length ≤ 17592186044415) : ∀ (i : Nat) (acc : List Int), i ≤ l.length → acc.length + i ≤ l.length → Ev (fun k => spec_l2Back.l0 k l acc ((i : Int) - 1)) (acc ++ (l.take i).reverse)
  | 0, acc, hi, ha => by
    refine Ev.step (fun k => by rw [spec_l2Back.l0]) ?_
    exact Ev.neg (by omega) (Ev.val (by simp))
  | i + 1, acc, hi, ha => by
    have e : ((i + 1 : Nat) : Int) - 1 = (i : Int) := by omega
    have e2 : wrap64 ((i : Int) - 1) = (i : Int) - 1 := w64 (by omega)
    simp only [e]
    refine Ev.step (fun k => by rw [spec_l2Back.l0]) ?_
    simp only [e2, rd_nat]
    refine Ev.pos (by omega) (Ev.pos (by omega) (Ev.pos (by omega) (Ev.pos (by omega) ?_)))
    refine (l2Back_l l hn i (acc ++ [nth l i]) (by omega) (by simp; omega)).to ?_
    rw [take_step l i (by omega)]
    simp
theorem l2Back_ev (l : List Int) (hn : l.length ≤ 17592186044415) : Ev (fun k => spec_l2Back.f k l) l.reverse := by
  unfold spec_l2Back.f
  have e : wrap64 ((l.length : Int) - 1) = (l.length : Int) - 1 := w64 (by omega)
  simp only [e]
  refine (l2Back_l l hn l.length [] (Nat.le_refl _) (by simp)).to ?_
  simp
theorem nth_right (A B : List Int) (i : Nat) (h : A.length ≤ i) : nth (A ++ B) i = nth B (i - A.length) := by
  simp [nth, List.getD_eq_getElem?_getD, List.getElem?_append_right h]
theorem Reverse_l : ∀ (n : Nat) (A M B : List Int), M.length = n → (A ++ (M ++ B)).length ≤ 17592186044415 → Ev (fun k => slices_Reverse_int_int.l0 k (A ++ (M ++ B)) (A.length : Int) ((A.length : Int) + (M.length : Int) - 1)) (A ++ (M.reverse ++ B)) := by
  intro n
  induction n using Nat.strongRecOn with
  | _ n ih =>
    intro A M B hM hn
    by_cases h2 : n < 2
    · refine Ev.step (fun k => by rw [slices_Reverse_int_int.l0]) ?_
      refine Ev.neg (by omega) (Ev.val ?_)
      have : M = [] ∨ ∃ a, M = [a] := by
        rcases M with _ | ⟨a, _ | ⟨b, M⟩⟩
        · exact .inl rfl
        · exact .inr ⟨a, rfl⟩
        · simp at hM; omega
      rcases this with rfl | ⟨a, rfl⟩ <;> simp
    · obtain ⟨a, M', b, rfl⟩ : ∃ a M' b, M = a :: (M' ++ [b]) := by
        rcases M with _ | ⟨a, M⟩
        · simp at hM; omega
        · rcases List.eq_nil_or_concat M with rfl | ⟨M', b, rfl⟩
          · simp at hM; omega
          · exact ⟨a, M', b, by simp⟩
      have hl : M'.length + 2 = n := by simp at hM; omega
      have hn' : A.length + (M'.length + 2 + B.length) ≤ 17592186044415 := by simp at hn; omega
      refine Ev.step (fun k => by rw [slices_Reverse_int_int.l0]) ?_
      have e1 : (A.length : Int) + ((a :: (M' ++ [b])).length : Int) - 1 = ((A.length + 1 + M'.length : Nat) : Int) := by simp; omega
      have e2 : wrap64 ((A.length : Int) + 1) = ((A.length + 1 : Nat) : Int) := by rw [w64 (by omega)]; omega
      have e3 : wrap64 (((A.length + 1 + M'.length : Nat) : Int) - 1) = ((A.length + M'.length : Nat) : Int) := by rw [w64 (by omega)]; omega
      have g1 : nth (A ++ (a :: (M' ++ [b]) ++ B)) (A.length + 1 + M'.length) = b := by
        have : A ++ (a :: (M' ++ [b]) ++ B) = (A ++ a :: M') ++ (b :: B) := by simp
        rw [this, nth_right _ _ _ (by simp; omega)]
        have : A.length + 1 + M'.length - (A ++ a :: M').length = 0 := by simp; omega
        rw [this]; rfl
      have g2 : nth (A ++ (a :: (M' ++ [b]) ++ B)) A.length = a := by
        rw [nth_right _ _ _ (Nat.le_refl _)]
        simp [nth]
      have g3 : ((A ++ (a :: (M' ++ [b]) ++ B)).set A.length b).set (A.length + 1 + M'.length) a = (A ++ [b]) ++ (M' ++ (a :: B)) := by
        have h1 : (A ++ (a :: (M' ++ [b]) ++ B)).set A.length b = (A ++ b :: M') ++ (b :: B) := by
          rw [List.set_append_right _ _ (Nat.le_refl _)]; simp
        rw [h1, List.set_append_right _ _ (by simp; omega)]
        have : A.length + 1 + M'.length - (A ++ b :: M').length = 0 := by simp; omega
        rw [this]; simp
      simp only [e1, e2, e3, rd_nat, Int.toNat_natCast, g1, g2, g3]
      have hlen : (A ++ (a :: (M' ++ [b]) ++ B)).length = A.length + (M'.length + 2 + B.length) := by simp; omega
      refine Ev.pos (by omega) (Ev.pos (by omega) (Ev.pos (by rw [hlen]; omega) (Ev.pos (by omega) (Ev.pos (by rw [hlen]; omega) ?_))))
      have := ih M'.length (by omega) (A ++ [b]) M' (a :: B) rfl (by simp; omega)
      have e4 : ((A ++ [b]).length : Int) + (M'.length : Int) - 1 = ((A.length + M'.length : Nat) : Int) := by simp; omega
      have e5 : ((A ++ [b]).length : Int) = ((A.length + 1 : Nat) : Int) := by simp
      rw [e4, e5] at this
      refine this.to ?_
      simp
theorem Reverse_ev (l : List Int) (hn : l.length ≤ 17592186044415) : Ev (fun k => slices_Reverse_int_int.f k l) l.reverse := by
  unfold slices_Reverse_int_int.f
  have e : wrap64 ((l.length : Int) - 1) = (([] : List Int).length : Int) + (l.length : Int) - 1 := by rw [w64 (by omega)]; simp
  have := Reverse_l l.length [] l [] rfl (by simpa using hn)
  simp only [e]
  simpa using this
theorem back_ev (l : List Int) (hn : l.length ≤ 17592186044415) : Ev (fun k => impl_back.f k l) l.reverse := by
  unfold impl_back.f
  refine Ev.bind (a := l) ?_ (Ev.bind (Reverse_ev l hn) (Ev.val rfl))
  unfold slices_Clone_int_int.f
  exact Ev.pos (by omega) (Ev.val rfl)
def runL : List Int → List Int → List Int
  | _, [] => []
  | l, c :: cs => (l.take c.toNat).reverse ++ runL (l.drop c.toNat) cs
theorem runL_length : ∀ (cs l : List Int), (runL l cs).length ≤ l.length
  | [], l => by simp [runL]
  | c :: cs, l => by
    have := runL_length cs (l.drop c.toNat)
    simp [runL] at this ⊢
    omega
theorem l6Run_l (l cs : List Int) (hn : l.length ≤ 17592186044415) (hc : cs.length ≤ 17592186044415) : ∀ (d i f : Nat) (acc : List Int), cs.length = i + d → f ≤ l.length → acc.length = f → cutsOk ((l.length - f : Nat) : Int) (cs.drop i) = true → Ev (fun k => spec_l6Run.l0 k l cs acc f i) (acc ++ runL (l.drop f) (cs.drop i))
  | 0, i, f, acc, h, hf, ha, ho => by
    refine Ev.step (fun k => by rw [spec_l6Run.l0]) ?_
    refine Ev.neg (by omega) (Ev.val ?_)
    rw [List.drop_of_length_le (by omega : cs.length ≤ i)]
    simp [runL]
  | d + 1, i, f, acc, h, hf, ha, ho => by
    refine Ev.step (fun k => by rw [spec_l6Run.l0]) ?_
    rw [drop_step cs i (by omega)] at ho ⊢
    simp only [cutsOk, Bool.and_eq_true, decide_eq_true_eq] at ho
    obtain ⟨m, hm⟩ : ∃ m : Nat, nth cs i = m := ⟨(nth cs i).toNat, by omega⟩
    rw [hm] at ho ⊢
    have e : wrap64 ((i : Int) + 1) = ((i + 1 : Nat) : Int) := by rw [w64 (by omega)]; omega
    have e2 : wrap64 ((f : Int) + (m : Int)) = ((f + m : Nat) : Int) := by rw [w64 (by omega)]; omega
    simp only [rd_nat, hm, e, e2, Int.toNat_natCast]
    clear e e2
    refine Ev.pos (by omega) (Ev.pos (by omega) (Ev.pos (by omega) (Ev.pos (by omega) (Ev.pos (by omega) ?_))))
    have hd : (l.take (f + m)).drop f = (l.drop f).take m := by rw [List.drop_take]; congr 1; omega
    rw [hd]
    refine Ev.bind (l2Back_ev _ (by simp; omega)) (Ev.pos (by simp; omega) ?_)
    refine (l6Run_l l cs hn hc d (i + 1) (f + m) _ (by omega) (by omega) (by simp; omega) ?_).to ?_
    · have : ((l.length - (f + m) : Nat) : Int) = ((l.length - f : Nat) : Int) - (m : Int) := by omega
      rw [this]
      exact ho.2.2
    · simp [runL, List.drop_drop]
theorem l6Run_ev (l cs : List Int) (hn : l.length ≤ 17592186044415) (ho : isCuts (l.length : Int) cs = true) : Ev (fun k => spec_l6Run.f k l cs) (runL l cs) := by
  simp only [isCuts, Bool.and_eq_true, decide_eq_true_eq] at ho
  have := cutsOk_len _ _ ho.2
  unfold spec_l6Run.f
  exact l6Run_l l cs hn (by omega) cs.length 0 0 [] (by omega) (by omega) rfl ho.2
theorem runCuts_l (cs : List Int) (hc : cs.length ≤ 17592186044415) : ∀ (d i : Nat) (l acc : List Int), cs.length = i + d → l.length + acc.length ≤ 17592186044415 → cutsOk (l.length : Int) (cs.drop i) = true → Ev (fun k => impl_runCuts.l0 k l acc cs (cs.length : Int) i) (acc ++ runL l (cs.drop i))
  | 0, i, l, acc, h, hn, ho => by
    refine Ev.step (fun k => by rw [impl_runCuts.l0]) ?_
    refine Ev.neg (by omega) (Ev.val ?_)
    rw [List.drop_of_length_le (by omega : cs.length ≤ i)]
    simp [runL]
  | d + 1, i, l, acc, h, hn, ho => by
    refine Ev.step (fun k => by rw [impl_runCuts.l0]) ?_
    rw [drop_step cs i (by omega)] at ho ⊢
    simp only [cutsOk, Bool.and_eq_true, decide_eq_true_eq] at ho
    obtain ⟨m, hm⟩ : ∃ m : Nat, nth cs i = m := ⟨(nth cs i).toNat, by omega⟩
    rw [hm] at ho ⊢
    have e : wrap64 ((i : Int) + 1) = ((i + 1 : Nat) : Int) := by rw [w64 (by omega)]; omega
    simp only [rd_nat, hm, e, Int.toNat_natCast]
    clear e
    refine Ev.pos (by omega) (Ev.pos (by omega) (Ev.pos (by omega) (Ev.pos (by omega) (Ev.pos (by omega) ?_))))
    refine Ev.bind (back_ev _ (by simp; omega)) (Ev.pos (by simp; omega) ?_)
    refine (runCuts_l cs hc d (i + 1) (l.drop m) _ (by omega) (by simp; omega) ?_).to ?_
    · have : ((l.drop m).length : Int) = (l.length : Int) - (m : Int) := by simp; omega
      rw [this]
      exact ho.2.2
    · simp [runL]
theorem runCuts_ev (l cs : List Int) (hn : l.length ≤ 17592186044415) (ho : isCuts (l.length : Int) cs = true) : Ev (fun k => impl_runCuts.f k l cs) (runL l cs) := by
  simp only [isCuts, Bool.and_eq_true, decide_eq_true_eq] at ho
  have := cutsOk_len _ _ ho.2
  unfold impl_runCuts.f
  exact runCuts_l cs (by omega) cs.length 0 l [] (by omega) (by simpa using hn) ho.2
theorem keepO_ev (of_ : Nat → List Int → Option Bool) (p : List Int → Bool) : ∀ l : List (List Int), (∀ x ∈ l, Ev (fun k => of_ k x) (p x)) → Ev (fun k => keepO (of_ k) l) (l.filter fun x => !p x)
  | [], _ => Ev.val rfl
  | x :: l, h => by
    refine Ev.congr (fun k => by rw [keepO]) ?_
    refine Ev.bind (h x (by simp)) (Ev.bind (keepO_ev of_ p l fun y hy => h y (by simp [hy])) (Ev.val ?_))
    rw [List.filter_cons]
    cases p x <;> rfl
theorem drop_stepK (l : List (List Int)) (i : Nat) (h : i < l.length) : l.drop i = l.getD i [] :: l.drop (i + 1) := by
  rw [List.getD_eq_getElem?_getD, List.getElem?_eq_getElem h]; exact List.drop_eq_getElem_cons h
theorem getD_memK {xs : List (List Int)} {i : Nat} (h : i < xs.length) : xs.getD i [] ∈ xs := by
  rw [List.getD_eq_getElem?_getD, List.getElem?_eq_getElem h]; exact List.getElem_mem h
theorem rd_L1_natK (xs : List (List Int)) (i : Nat) : rd_L5 xs (i : Int) = xs.getD i [] := rfl
theorem cutsOk_of : ∀ (l : List Int) (n : Int), (∀ c ∈ l, 1 ≤ c) → l.sum = n → cutsOk n l = true ∧ 0 ≤ n
  | [], n, h, e => by simp at e; simp [cutsOk, ← e]
  | c :: cs, n, h, e => by
    have h1 := h c (by simp)
    rw [List.sum_cons] at e
    have h2 := cutsOk_of cs (n - c) (fun x hx => h x (by simp [hx])) (by omega)
    have h3 : c ≤ n := by omega
    exact ⟨by simp [cutsOk, h1, h3, h2.1], by omega⟩
theorem fallsL_cuts (l : List Int) : ∀ (d i : Nat) (acc : List Int), i + d ≤ 1000 → (0 < i → 0 < acc.length) → (∀ c ∈ acc, 1 ≤ c ∧ c ≤ i) → acc.sum = i → (∀ c ∈ fallsL l d i acc, 1 ≤ c) ∧ (fallsL l d i acc).sum = ((i + d : Nat) : Int)
  | 0, i, acc, hn, hp, ha, hs => ⟨fun c hc => (ha c hc).1, by simpa [fallsL] using hs⟩
  | d + 1, i, acc, hn, hp, ha, hs => by
    rw [fallsL]
    split
    · rename_i hi
      have hp := hp hi.1
      rcases List.eq_nil_or_concat acc with rfl | ⟨A, v, rfl⟩
      · simp at hp
      · rw [List.concat_eq_append] at *
        have hv := ha v (by simp)
        have e1 : nth (A ++ [v]) ((A ++ [v]).length - 1) = v := by simp [nth]
        have e2 : wrap64 (v + 1) = v + 1 := w64 (by omega)
        rw [e1, e2, snoc_last]
        have := fallsL_cuts l d (i + 1) (A ++ [v + 1]) (by omega) (fun _ => by simp) (fun c hc => by
          rw [List.mem_append] at hc
          rcases hc with hc | hc
          · have := ha c (by simp [hc]); omega
          · simp at hc; omega) (by simp at hs ⊢; omega)
        refine ⟨this.1, this.2.trans ?_⟩
        omega
    · have := fallsL_cuts l d (i + 1) (acc ++ [1]) (by omega) (fun _ => by simp) (fun c hc => by
        rw [List.mem_append] at hc
        rcases hc with hc | hc
        · have := ha c hc; omega
        · simp at hc; omega) (by simp; omega)
      refine ⟨this.1, this.2.trans ?_⟩
      omega
theorem fallsOf_cuts {l : List Int} (h : isOrd l = true) : isCuts (l.length : Int) (fallsOf l) = true := by
  have hl := isOrd_len h
  have := fallsL_cuts l l.length 0 [] (by omega) (fun h => by omega) (fun c hc => by simp at hc) (by simp)
  have h2 := cutsOk_of (fallsOf l) (l.length : Int) this.1 (by rw [fallsOf, this.2]; omega)
  simp only [isCuts, Bool.and_eq_true, decide_eq_true_eq]
  exact ⟨by omega, h2.1⟩
def resFallSweep (l : List Int) : List Int := if isOrd l then runL l (fallsOf l) else []
theorem resFallSweep_length (l : List Int) : (resFallSweep l).length ≤ 1000 := by
  unfold resFallSweep
  split
  · rename_i h
    have := isOrd_len h
    have := runL_length (fallsOf l) l
    omega
  · simp
theorem l6Sweep_ev {l : List Int} (h : isOrd l = true) : Ev (fun k => spec_l6Sweep.f k l) (runL l (fallsOf l)) := by
  have := isOrd_len h
  unfold spec_l6Sweep.f
  exact Ev.bind (l6Falls_ev l (by omega)) (Ev.bind (l6Run_ev l _ (by omega) (fallsOf_cuts h)) (Ev.val rfl))
theorem fallSweep_ev {l : List Int} (h : isOrd l = true) : Ev (fun k => impl_fallSweep.f k l) (runL l (fallsOf l)) := by
  have := isOrd_len h
  unfold impl_fallSweep.f
  exact Ev.bind (fallsOf_ev l h) (Ev.bind (runCuts_ev l _ (by omega) (fallsOf_cuts h)) (Ev.val rfl))
theorem specFallSweep_ev (l : List Int) (hn : l.length ≤ 17592186044415) : Ev (fun k => spec_FallSweep.f k l) (resFallSweep l, isOrd l) := by
  unfold spec_FallSweep.f
  refine Ev.bind (l2Order_ev l (by omega)) (Ev.ite (fun hc => Ev.bind (l6Sweep_ev hc) (Ev.val ?_)) (fun hc => Ev.val ?_))
  · simp [resFallSweep, hc]
  · rw [Bool.not_eq_true] at hc; simp [resFallSweep, hc]
theorem implFallSweep_ev (l : List Int) (hn : l.length ≤ 17592186044415) : Ev (fun k => impl_FallSweep.f k l) (resFallSweep l, isOrd l) := by
  unfold impl_FallSweep.f
  refine Ev.bind (isOrder_ev l (by omega)) (Ev.ite (fun hc => Ev.bind (fallSweep_ev hc) (Ev.val ?_)) (fun hc => Ev.val ?_))
  · simp [resFallSweep, hc]
  · rw [Bool.not_eq_true] at hc; simp [resFallSweep, hc]
def swp (l : List Int) : List Int := runL l (fallsOf l)
def val8 : List Int → Nat → Nat
  | [], a => a
  | x :: l, a => val8 l (8 * a + x.toNat)
def swpOk (l : List Int) : Bool := (isOrd (swp l) && ((swp l).length == l.length)) && ((sortedB l (l.length - 1) == decide (l = marked 1 l.length)) && (sortedB l (l.length - 1) || Nat.blt (val8 (swp l) 0) (val8 l 0)))
theorem runL_perm : ∀ (cs l : List Int), cutsOk (l.length : Int) cs = true → (runL l cs).Perm l
  | [], l, h => by
    have : l = [] := by
      simp only [cutsOk] at h
      exact List.eq_nil_of_length_eq_zero (by simpa using h)
    subst this
    exact List.Perm.refl _
  | c :: cs, l, h => by
    simp only [cutsOk, Bool.and_eq_true, decide_eq_true_eq] at h
    have ih := runL_perm cs (l.drop c.toNat) (by
      have e : (l.length : Int) - c = ((l.drop c.toNat).length : Int) := by rw [List.length_drop]; omega
      rw [← e]; exact h.2.2)
    rw [runL]
    exact ((List.reverse_perm _).append ih).trans (by rw [List.take_append_drop])
theorem runL_ord {l cs : List Int} (hl : isOrd l = true) (hc : isCuts (l.length : Int) cs = true) : isOrd (runL l cs) = true ∧ (runL l cs).length = l.length := by
  have hp := runL_perm cs l (by simp only [isCuts, Bool.and_eq_true] at hc; exact hc.2)
  have hn := isOrd_len hl
  have e := hp.length_eq
  exact ⟨isOrd_of (by omega) (by omega) (hp.nodup_iff.2 (isOrd_nodup hl)) (fun x hx => by rw [e]; exact isOrd_mem hl x (hp.mem_iff.1 hx)), e⟩
def cutsT (n : Nat) : List (List Int) := match impl_allCuts.f 300 (n : Int) with | some t => t | none => []
set_option maxRecDepth 100000 in
theorem cutsT_ : ∀ n ∈ [1, 2, 3, 4, 5, 6, 7], ((impl_allCuts.f 300 ((n : Nat) : Int) == some (cutsT n)) && (((cutsT n).length == 2 ^ (n - 1)) && ((List.range (2 ^ (n - 1))).all fun (k : Nat) => (spec_l6At.f 300 (n : Int) (k : Int) == some ((cutsT n).getD k [])) && isCuts (n : Int) ((cutsT n).getD k [])))) = true := by decide +kernel
theorem cutsT_at (n : Nat) (h1 : 1 ≤ n) (h7 : n ≤ 7) : impl_allCuts.f 300 (n : Int) = some (cutsT n) ∧ (cutsT n).length = 2 ^ (n - 1) ∧ ∀ k : Nat, k < (cutsT n).length → spec_l6At.f 300 (n : Int) (k : Int) = some ((cutsT n).getD k []) ∧ isCuts (n : Int) ((cutsT n).getD k []) = true := by
  have := cutsT_ n (by simp; omega)
  simp only [Bool.and_eq_true, beq_iff_eq, List.all_eq_true, List.mem_range] at this
  exact ⟨this.1, this.2.1, fun k hk => this.2.2 k (by rw [← this.2.1]; exact hk)⟩
theorem pow_le (n : Nat) (h7 : n ≤ 7) : 2 ^ (n - 1) ≤ 64 := by
  have : n = 0 ∨ n = 1 ∨ n = 2 ∨ n = 3 ∨ n = 4 ∨ n = 5 ∨ n = 6 ∨ n = 7 := by omega
  rcases this with rfl | rfl | rfl | rfl | rfl | rfl | rfl | rfl <;> decide
theorem shl_is (n : Nat) (h1 : 1 ≤ n) (h7 : n ≤ 7) : shl .i64 1 ((n - 1 : Nat) : Int) = ((2 ^ (n - 1) : Nat) : Int) := by
  have : n = 1 ∨ n = 2 ∨ n = 3 ∨ n = 4 ∨ n = 5 ∨ n = 6 ∨ n = 7 := by omega
  rcases this with rfl | rfl | rfl | rfl | rfl | rfl | rfl <;> decide +kernel
theorem getD_memL {xs : List (List Int)} {i : Nat} (h : i < xs.length) : xs.getD i [] ∈ xs := by
  rw [List.getD_eq_getElem?_getD, List.getElem?_eq_getElem h]; exact List.getElem_mem h
theorem drop_stepL (l : List (List Int)) (i : Nat) (h : i < l.length) : l.drop i = l.getD i [] :: l.drop (i + 1) := by
  rw [List.getD_eq_getElem?_getD, List.getElem?_eq_getElem h]; exact List.drop_eq_getElem_cons h
theorem rd_L1_natL (xs : List (List Int)) (i : Nat) : rd_L5 xs (i : Int) = xs.getD i [] := rfl
theorem isCuts_len {n : Int} {cs : List Int} (hn : n ≤ 7) (h : isCuts n cs = true) : cs.length ≤ 7 := by
  have : ∀ (cs : List Int) (n : Int), cutsOk n cs = true → (cs.length : Int) ≤ n := by
    intro cs
    induction cs with
    | nil => intro n h; simp [cutsOk] at h; simp [h]
    | cons c cs ih =>
      intro n h
      simp only [cutsOk, Bool.and_eq_true, decide_eq_true_eq] at h
      have := ih _ h.2.2
      simp only [List.length_cons]
      omega
  simp only [isCuts, Bool.and_eq_true] at h
  have := this cs n h.2
  omega
theorem l2WaysT (n : Nat) (h : n ≤ 7) : Ev (fun k => spec_l2Ways.f k (n : Int)) (facN n : Int) := by
  have : n = 0 ∨ n = 1 ∨ n = 2 ∨ n = 3 ∨ n = 4 ∨ n = 5 ∨ n = 6 ∨ n = 7 := by omega
  rcases this with rfl | rfl | rfl | rfl | rfl | rfl | rfl | rfl <;> exact Ev.of (fun k => spec_l2Ways.mono _ k) (k := 10) (by decide +kernel)
def rkOk (l : List Int) : Bool := match spec_l2Rank.f 200 l with
  | some r => decide (0 ≤ r) && (decide (r < (facN l.length : Int)) && (atM l.length (marked 1 l.length) r.toNat == l))
  | none => false
theorem rev_idx {o t : List Int} (h : Twin o t) (c : Nat) (h1 : 1 ≤ c) (h2 : c ≤ o.length) (e : (o.take c).reverse = t.take c) : idx t (nth o 0) = (c : Int) - 1 ∧ idx o (nth t 0) = (c : Int) - 1 := by
  have hl := h.len
  have e1 : nth t (c - 1) = nth o 0 := by
    have this : nth (o.take c).reverse (c - 1) = nth (t.take c) (c - 1) := by rw [e]
    rw [nth_take _ _ _ (by omega), nth_rev _ _ (by rw [List.length_take]; omega), nth_take _ _ _ (by rw [List.length_take]; omega)] at this
    rw [← this, List.length_take, Nat.min_eq_left h2, show c - 1 - (c - 1) = 0 by omega]
  have e2 : nth o (c - 1) = nth t 0 := by
    have this : nth (o.take c).reverse 0 = nth (t.take c) 0 := by rw [e]
    rw [nth_take _ _ _ (by omega), nth_rev _ _ (by rw [List.length_take]; omega), nth_take _ _ _ (by rw [List.length_take]; omega)] at this
    rw [← this, List.length_take, Nat.min_eq_left h2, Nat.sub_zero]
  constructor
  · rw [← e1, idx_at h.ndt _ (by omega)]; omega
  · rw [← e2, idx_at h.ndo _ (by omega)]; omega
theorem Twin.cut {o t : List Int} (h : Twin o t) (c : Nat) (e : (o.take c).reverse = t.take c) : Twin (o.drop c) (t.drop c) := by
  have hno : (o.take c ++ o.drop c).Nodup := by rw [List.take_append_drop]; exact h.ndo
  have hnt : (t.take c ++ t.drop c).Nodup := by rw [List.take_append_drop]; exact h.ndt
  rw [List.nodup_append] at hno hnt
  refine ⟨by simp [h.len], hno.2.1, hnt.2.1, fun x hx => ?_, fun x hx => ?_⟩
  · have := h.fwd x (List.mem_of_mem_drop hx)
    rw [← List.take_append_drop c t, List.mem_append] at this
    rcases this with h3 | h3
    · rw [← e, List.mem_reverse] at h3
      exact absurd rfl (hno.2.2 x h3 x hx)
    · exact h3
  · have := h.bwd x (List.mem_of_mem_drop hx)
    rw [← List.take_append_drop c o, List.mem_append] at this
    rcases this with h3 | h3
    · rw [← List.mem_reverse, e] at h3
      exact absurd rfl (hnt.2.2 x h3 x hx)
    · exact h3
def cutsM : Nat → List Int → List Int → Option (List Int)
  | 0, _, _ => some []
  | d + 1, o, t => if o = [] then some [] else if (o.take (idx t (nth o 0) + 1).toNat).reverse = t.take (idx t (nth o 0) + 1).toNat then (cutsM d (o.drop (idx t (nth o 0) + 1).toNat) (t.drop (idx t (nth o 0) + 1).toNat)).map (fun r => (idx t (nth o 0) + 1) :: r) else none
def cutsR (acc : List Int) (q : Option (List Int)) : List Int × Bool := match q with | some r => (acc ++ r, true) | none => ([], false)
theorem cutsR_cons (acc : List Int) (c : Int) (q : Option (List Int)) : cutsR acc (q.map fun r => c :: r) = cutsR (acc ++ [c]) q := by
  cases q <;> simp [cutsR]
theorem cutsTo_l : ∀ (d : Nat) (o t acc : List Int), o.length ≤ d → acc.length + d ≤ 1000 → o.length ≤ 1000 → Twin o t → Ev (fun k => impl_cutsTo.l0 k o t acc) (cutsR acc (cutsM d o t))
  | 0, o, t, acc, hd, ha, hb, h => by
    refine Ev.step (fun k => by rw [impl_cutsTo.l0]) (Ev.neg (by omega) (Ev.val ?_))
    simp [cutsM, cutsR]
  | d + 1, o, t, acc, hd, ha, hb, h => by
    refine Ev.step (fun k => by rw [impl_cutsTo.l0]) ?_
    have hl := h.len
    by_cases e0 : o = []
    · refine Ev.neg (by simp [e0]) (Ev.val ?_)
      simp [cutsM, cutsR, e0]
    have hp : 0 < o.length := List.length_pos_iff.2 e0
    refine Ev.pos (by omega) (Ev.pos (by omega) (Ev.bind (Index_ev t _ (by omega)) ?_))
    obtain ⟨q, hq, e1, e2⟩ := idx_mem (h.fwd (nth o 0) (by rw [nth_lt _ _ hp]; exact List.getElem_mem hp))
    have e3 : rd o 0 = nth o 0 := rfl
    rw [e3]
    have e4 : wrap64 (idx t (nth o 0) + 1) = ((q + 1 : Nat) : Int) := by rw [e1, w64 (by omega)]; omega
    have e5 : idx t (nth o 0) + 1 = ((q + 1 : Nat) : Int) := by rw [e1]; omega
    simp only [e4]
    clear e4
    refine Ev.pos (by omega) (Ev.pos (by omega) (Ev.bind (back_ev _ (by rw [List.length_take]; omega)) (Ev.pos (by omega) (Ev.bind (Equal_ev _ _ (by rw [List.length_reverse, List.length_take]; omega)) (Ev.ite (fun hc => ?_) (fun hc => Ev.val ?_))))))
    · rw [Int.toNat_natCast] at *
      have hc' : (o.take (q + 1)).reverse = t.take (q + 1) := by simpa using hc
      refine Ev.pos (by omega) ?_
      have := cutsTo_l d (o.drop (q + 1)) (t.drop (q + 1)) (acc ++ [((q + 1 : Nat) : Int)]) (by rw [List.length_drop]; omega) (by simp; omega) (by rw [List.length_drop]; omega) (h.cut (q + 1) hc')
      refine Ev.to this ?_
      rw [cutsM, if_neg e0, e5, Int.toNat_natCast, if_pos hc', cutsR_cons]
    · rw [Int.toNat_natCast] at *
      have hc' : ¬ (o.take (q + 1)).reverse = t.take (q + 1) := by simpa using hc
      rw [cutsM, if_neg e0, e5, Int.toNat_natCast, if_neg hc']
      rfl
theorem cutsTo_ev (l s : List Int) (hl : isOrd l = true) (h : Twin l s) : Ev (fun k => impl_cutsTo.f k l s) (cutsR [] (cutsM 7 l s)) := by
  have := isOrd_len hl
  exact cutsTo_l 7 l s [] (by omega) (by simp) (by omega) h
theorem cut_same {o t : List Int} (h : Twin o t) (hp : 0 < o.length) (p : Nat) (hpl : p < o.length) (e : idx o (nth t 0) = p) :
    ((o.take (p + 1)).reverse = t.take (p + 1) → idx t (nth o 0) = p) ∧ (¬ (o.take (p + 1)).reverse = t.take (p + 1) → ¬ (o.take (idx t (nth o 0) + 1).toNat).reverse = t.take (idx t (nth o 0) + 1).toNat) := by
  have hl := h.len
  constructor
  · intro hc
    have := (rev_idx h (p + 1) (by omega) (by omega) hc).1
    omega
  · intro hc hd
    obtain ⟨q, hq, e1, _⟩ := idx_mem (h.fwd (nth o 0) (by rw [nth_lt _ _ hp]; exact List.getElem_mem hp))
    have e5 : idx t (nth o 0) + 1 = ((q + 1 : Nat) : Int) := by rw [e1]; omega
    rw [e5, Int.toNat_natCast] at hd
    have := (rev_idx h (q + 1) (by omega) (by omega) hd).2
    have : p = q := by omega
    exact hc (this ▸ hd)
theorem cutsM_more : ∀ (d e : Nat) (o t : List Int), o.length ≤ d → Twin o t → cutsM (d + e) o t = cutsM d o t
  | 0, e, o, t, hd, h => by
    obtain rfl : o = [] := List.eq_nil_of_length_eq_zero (by omega)
    cases e <;> simp [cutsM]
  | d + 1, e, o, t, hd, h => by
    rw [show d + 1 + e = d + e + 1 by omega, cutsM, cutsM]
    by_cases e0 : o = []
    · rw [if_pos e0, if_pos e0]
    have hp : 0 < o.length := List.length_pos_iff.2 e0
    obtain ⟨q, hq, e1, _⟩ := idx_mem (h.fwd (nth o 0) (by rw [nth_lt _ _ hp]; exact List.getElem_mem hp))
    have e5 : idx t (nth o 0) + 1 = ((q + 1 : Nat) : Int) := by rw [e1]; omega
    rw [if_neg e0, if_neg e0, e5, Int.toNat_natCast]
    by_cases hc : (o.take (q + 1)).reverse = t.take (q + 1)
    · rw [if_pos hc, if_pos hc, cutsM_more d e _ _ (by rw [List.length_drop]; omega) (h.cut (q + 1) hc)]
    · rw [if_neg hc, if_neg hc]
theorem drop_nth (l : List Int) (f i : Nat) : nth (l.drop f) i = nth l (f + i) := by
  unfold nth
  rw [List.getD_eq_getElem?_getD, List.getD_eq_getElem?_getD, List.getElem?_drop]
set_option maxHeartbeats 2000000 in
theorem l6To_s : ∀ (D d f : Nat) (l s acc : List Int), d ≤ D → l.length = f + d → acc.length + d ≤ 1000 → l.length ≤ 1000 → l.length = s.length → Twin (l.drop f) (s.drop f) → Ev (fun k => spec_l6To.l0 k l s acc f) (cutsR acc (cutsM d (l.drop f) (s.drop f)))
  | _, 0, f, l, s, acc, _, hd, ha, hb, hls, h => by
    refine Ev.step (fun k => by rw [spec_l6To.l0]) (Ev.neg (by omega) (Ev.val ?_))
    simp [cutsM, cutsR]
  | 0, d + 1, f, l, s, acc, hD, _, _, _, _, _ => absurd hD (by omega)
  | D + 1, d + 1, f, l, s, acc, hD, hd, ha, hb, hls, h => by
    refine Ev.step (fun k => by rw [spec_l6To.l0]) (Ev.pos (by omega) ?_)
    have hp : 0 < (l.drop f).length := by rw [List.length_drop]; omega
    have hps : 0 < (s.drop f).length := by rw [List.length_drop]; omega
    have e0 : l.drop f ≠ [] := List.length_pos_iff.1 hp
    obtain ⟨p, hpl, e1, e2⟩ := idx_mem (h.bwd (nth (s.drop f) 0) (by rw [nth_lt _ _ hps]; exact List.getElem_mem hps))
    rw [List.length_drop] at hpl
    have hs0 : nth (s.drop f) 0 = nth s f := drop_nth s f 0
    have hl0 : nth (l.drop f) p = nth l (f + p) := drop_nth l f p
    have key : Ev (fun k => spec_l6To.j2 k l s acc (f : Int) ((f + p : Nat) : Int)) (cutsR acc (cutsM (d + 1) (l.drop f) (s.drop f))) := by
      refine Ev.step (fun k => by rw [spec_l6To.j2]) (Ev.neg (by omega) ?_)
      have e6 : wrap64 (((f + p : Nat) : Int) + 1) = ((f + (p + 1) : Nat) : Int) := by rw [w64 (by omega)]; omega
      simp only [e6, Int.toNat_natCast]
      clear e6
      have t1 : (l.take (f + (p + 1))).drop f = (l.drop f).take (p + 1) := by rw [List.drop_take, Nat.add_sub_cancel_left]
      have t2 : (s.take (f + (p + 1))).drop f = (s.drop f).take (p + 1) := by rw [List.drop_take, Nat.add_sub_cancel_left]
      rw [t1, t2]
      have hcs := cut_same h hp p (by rw [List.length_drop]; omega) e1
      refine Ev.pos (by omega) (Ev.pos (by omega) (Ev.pos (by omega) (Ev.bind (l2Back_ev _ (by rw [List.length_take, List.length_drop]; omega)) (Ev.pos (by omega) (Ev.bind (l1Same_ev _ _ (by rw [List.length_reverse, List.length_take, List.length_drop]; omega)) (Ev.ite (fun hc => ?_) (fun hc => Ev.val ?_)))))))
      · have hc' : ((l.drop f).take (p + 1)).reverse = (s.drop f).take (p + 1) := by simpa using hc
        have hq := hcs.1 hc'
        have e7 : wrap64 (((f + (p + 1) : Nat) : Int) - (f : Int)) = ((p + 1 : Nat) : Int) := by rw [w64 (by omega)]; omega
        have e8 : idx (s.drop f) (nth (l.drop f) 0) + 1 = ((p + 1 : Nat) : Int) := by rw [hq]; omega
        rw [e7]
        clear e7
        refine Ev.pos (by omega) ?_
        have hcut := h.cut (p + 1) hc'
        rw [List.drop_drop, List.drop_drop] at hcut
        have := l6To_s D (d - p) (f + (p + 1)) l s (acc ++ [((p + 1 : Nat) : Int)]) (by omega) (by omega) (by simp; omega) hb hls hcut
        refine Ev.to this ?_
        rw [cutsM, if_neg e0, e8, Int.toNat_natCast, if_pos hc', cutsR_cons, List.drop_drop, List.drop_drop]
        have hm := cutsM_more (d - p) p (l.drop (f + (p + 1))) (s.drop (f + (p + 1))) (by rw [List.length_drop]; omega) hcut
        rw [show d - p + p = d by omega] at hm
        rw [hm]
      · have hc' : ¬ ((l.drop f).take (p + 1)).reverse = (s.drop f).take (p + 1) := by simpa using hc
        rw [cutsM, if_neg e0, if_neg (hcs.2 hc')]
        rfl
    have srch : ∀ e i : Nat, i + e = p → Ev (fun k => spec_l6To.l1 k l s acc (f : Int) ((f + i : Nat) : Int)) (cutsR acc (cutsM (d + 1) (l.drop f) (s.drop f))) := by
      intro e
      induction e with
      | zero =>
        intro i hi
        obtain rfl : i = p := by omega
        refine Ev.step (fun k => by rw [spec_l6To.l1]) (Ev.pos (by omega) (Ev.pos (by omega) (Ev.pos (by omega) (Ev.pos (by omega) (Ev.pos ?_ key)))))
        rw [rd_nat, rd_nat, ← hl0, e2, hs0]
      | succ e ih =>
        intro i hi
        refine Ev.step (fun k => by rw [spec_l6To.l1]) (Ev.pos (by omega) (Ev.pos (by omega) (Ev.pos (by omega) (Ev.pos (by omega) (Ev.neg ?_ ?_)))))
        · rw [rd_nat, rd_nat, ← hs0, ← drop_nth]
          intro hq
          have := idx_at h.ndo i (by rw [List.length_drop]; omega)
          rw [hq, e1] at this
          omega
        · have e6 : wrap64 (((f + i : Nat) : Int) + 1) = ((f + (i + 1) : Nat) : Int) := by rw [w64 (by omega)]; omega
          simp only [e6]
          clear e6
          exact ih (i + 1) (by omega)
    have hfin := srch p 0 (by omega)
    rw [Nat.add_zero] at hfin
    exact hfin
theorem l6To_l : ∀ (d f : Nat) (l s acc : List Int), l.length = f + d → acc.length + d ≤ 1000 → l.length ≤ 1000 → l.length = s.length → Twin (l.drop f) (s.drop f) → Ev (fun k => spec_l6To.l0 k l s acc f) (cutsR acc (cutsM d (l.drop f) (s.drop f))) :=
  fun d f l s acc => l6To_s d d f l s acc (Nat.le_refl d)
theorem l6To_ev (l s : List Int) (hl : isOrd l = true) (h : Twin l s) : Ev (fun k => spec_l6To.f k l s) (cutsR [] (cutsM 7 l s)) := by
  have hn := isOrd_len hl
  have := cutsM_more l.length (7 - l.length) l s (Nat.le_refl _) h
  rw [show l.length + (7 - l.length) = 7 by omega] at this
  rw [this]
  have h1 := l6To_l l.length 0 l s [] (by omega) (by simp; omega) (by omega) h.len (by rw [List.drop_zero, List.drop_zero]; exact h)
  rw [List.drop_zero, List.drop_zero] at h1
  exact h1
def okFB (x : List Int) : List Int → Nat → Bool
  | [], _ => true
  | f :: t, a => decide (1 ≤ f) && (Nat.ble (a + f.toNat) x.length && (((List.range f.toNat).all fun i => i == 0 || decide (nth x (a + i) ≤ nth x (a + i - 1))) && ((Nat.ble x.length (a + f.toNat) || decide (nth x (a + f.toNat - 1) ≤ nth x (a + f.toNat))) && okFB x t (a + f.toNat))))
def cntB : Nat → List Int → Option Nat
  | 0, _ => none
  | e + 1, l => if sortedB l (l.length - 1) = true then some 0 else (cntB e (swp l)).map (· + 1)
def flOk (l : List Int) : Bool := (match cntB 8 l with | some c => Nat.blt c l.length | none => false) && (((cutsR [] (cutsM 7 l (marked 1 l.length))).2 == decide (swp l = marked 1 l.length)) && okFB l (fallsOf l) 0)
def faOk (l : List Int) : Bool := swpOk l && (rkOk l && flOk l)
theorem allO_imp {p q : List Int → Bool} (h : ∀ l, p l = true → q l = true) (ns : List Int) : ∀ (d : Nat) (a : List Int), allO ns p d a = true → allO ns q d a = true
  | 0, a, hp => h a hp
  | d + 1, a, hp => by
    rw [allO, List.all_eq_true] at hp ⊢
    intro c hc
    have := hp c hc
    rw [Bool.or_eq_true] at this ⊢
    exact this.imp id (allO_imp h ns d (c :: a))
theorem and_255 (E : Int) (h0 : 0 ≤ E) (h1 : E ≤ 18446744073709551615) : bits BinOp.and IntKind.u64 E 255 = E % 256 := by
  have h := bits_and_u64_nat E.toNat 255 (by omega) (by omega)
  have h3 : E.toNat &&& 255 = E.toNat % 256 := Nat.and_two_pow_sub_one_eq_mod E.toNat 8
  rw [h3, Int.toNat_of_nonneg h0] at h
  exact h.trans (by omega)
def CodeB (s : List Int) : Prop := s.length ≤ 1000000 ∧ ∀ x ∈ s, 0 ≤ x ∧ x ≤ 255
theorem u64_range (n : Int) : 0 ≤ IntKind.u64.wrap n ∧ IntKind.u64.wrap n ≤ 18446744073709551615 := by
  have h : IntKind.u64.wrap n = n % 18446744073709551616 := by simp [IntKind.wrap, IntKind.signed, IntKind.bits]
  omega
theorem next_ok {s : List Int} (hs : CodeB s) (p st : Int) (hp : 0 ≤ p ∧ p ≤ 10000000) : ∃ x st' : Int, spec_l1Cur_next.f s p st = some (x, p + 1, st') ∧ 0 ≤ x ∧ x ≤ 255 := by
  have e : wrap64 (p + 1) = p + 1 := w64 (by omega)
  have hb : ∀ n : Int, 0 ≤ wrap64 (bits .and .u64 (IntKind.u64.wrap n / 1099511627776) 255) ∧ wrap64 (bits .and .u64 (IntKind.u64.wrap n / 1099511627776) 255) ≤ 255 := fun n => by
    have h := u64_range n
    rw [and_255 _ (by omega) (by omega), w64 (by omega)]; omega
  unfold spec_l1Cur_next.f
  rw [e]
  by_cases h1 : p < (s.length : Int)
  · have hx : 0 ≤ rd s p ∧ rd s p ≤ 255 := by
      obtain ⟨i, rfl⟩ := Int.eq_ofNat_of_zero_le hp.1
      have hi : i < s.length := by omega
      rw [show rd s (i : Int) = nth s i from rfl, nth_lt s i hi]
      exact hs.2 _ (List.getElem_mem hi)
    rw [if_pos h1, if_pos hp.1, if_pos (by omega), w64 (by omega)]
    exact ⟨_, _, rfl, hx.1, hx.2⟩
  · rw [if_neg h1, if_neg (by omega)]
    exact ⟨_, _, rfl, (hb _).1, (hb _).2⟩
theorem pick_ok {s : List Int} (hs : CodeB s) (p st n : Int) (hp : 0 ≤ p ∧ p ≤ 10000000) (hn : n ≤ 200) : ∃ x p' st' : Int, spec_l1Cur_pick.f s p st n = some (x, p', st') ∧ 0 ≤ x ∧ (x < n ∨ n < 1) ∧ 0 ≤ p' ∧ p' ≤ p + 1 := by
  unfold spec_l1Cur_pick.f
  by_cases h1 : n ≤ 1
  · rw [if_pos h1]; exact ⟨0, p, st, rfl, by omega, by omega, by omega, by omega⟩
  · obtain ⟨x, st', h, hx⟩ := next_ok hs p st hp
    rw [if_neg h1, h, Option.bind_some, if_neg (by omega), if_neg (by omega)]
    refine ⟨_, _, _, rfl, Int.tmod_nonneg _ hx.1, .inl (Int.tmod_lt_of_pos _ (by omega)), by simp only []; omega, by simp only []; omega⟩
theorem among_ok {s : List Int} (hs : CodeB s) (p st : Int) (l : List Int) (hp : 0 ≤ p ∧ p ≤ 10000000) (hl : 1 ≤ l.length ∧ l.length ≤ 200) : ∃ x p' st' : Int, spec_l1Cur_among.f s p st l = some (x, p', st') ∧ x ∈ l ∧ 0 ≤ p' ∧ p' ≤ p + 1 := by
  unfold spec_l1Cur_among.f
  obtain ⟨x, p', st', h, hx, h2, h3⟩ := pick_ok hs p st (l.length : Int) hp (by omega)
  rw [h, Option.bind_some, if_pos hx, if_pos (by omega)]
  obtain ⟨i, rfl⟩ := Int.eq_ofNat_of_zero_le hx
  refine ⟨_, _, _, rfl, ?_, h3⟩
  rw [show rd l (i : Int) = nth l i from rfl, nth_lt l i (by omega)]
  exact List.getElem_mem _
theorem order_l0_ok {s : List Int} (hs : CodeB s) : ∀ (d : Nat) (o : List Int) (p st : Int), 0 ≤ p → p + d ≤ 10000000 → o.length + d ≤ 100 → ∃ (r : List Int) (p' st' : Int), spec_l1Cur_order.l0 s d o p st = some (r, p', st') ∧ r.length = o.length + d ∧ 0 ≤ p' ∧ p' ≤ p + d
  | 0, o, p, st, h0, h1, h2 => ⟨o, p, st, rfl, by simp, h0, by omega⟩
  | d + 1, o, p, st, h0, h1, h2 => by
    obtain ⟨x, p', st', h, hx, h3, h4⟩ := pick_ok hs p st ((o.length : Int) + 1) ⟨h0, by omega⟩ (by omega)
    rw [spec_l1Cur_order.l0, h, Option.bind_some, if_pos ⟨⟨hx, by simp only []; omega⟩, by omega⟩]
    have hlen : (o.take x.toNat ++ [(o.length : Int) + 1] ++ o.drop x.toNat).length = o.length + 1 := by simp; omega
    obtain ⟨r, p2, st2, g, g1, g2⟩ := order_l0_ok hs d (o.take x.toNat ++ [(o.length : Int) + 1] ++ o.drop x.toNat) p' st' h4.1 (by omega) (by omega)
    exact ⟨r, p2, st2, g, by omega, g2.1, by omega⟩
theorem order_ok {s : List Int} (hs : CodeB s) (p st : Int) (hp : 0 ≤ p ∧ p ≤ 1000) : ∃ (r : List Int) (p' st' : Int), spec_l1Cur_order.f s p st = some (r, p', st') ∧ r.length ≤ 8 ∧ 0 ≤ p' ∧ p' ≤ p + 20 := by
  unfold spec_l1Cur_order.f
  obtain ⟨n, p1, st1, h1, hn, g1⟩ := among_ok hs p st [4, 5, 3, 6, 2, 7, 1, 4] ⟨hp.1, by omega⟩ (by simp)
  have hn' : 1 ≤ n ∧ n ≤ 7 := by simp at hn; omega
  obtain ⟨o, p2, st2, h2, ho, g2⟩ := order_l0_ok hs n.toNat [] p1 st1 g1.1 (by omega) (by simp; omega)
  obtain ⟨q, p3, st3, h3, hq, g3⟩ := pick_ok hs p2 st2 40 ⟨g2.1, by omega⟩ (by omega)
  rw [h1, Option.bind_some, if_pos (by omega), h2, Option.bind_some, h3, Option.bind_some]
  simp only [List.length_nil] at ho
  by_cases q0 : q = 0
  · rw [if_pos q0]; exact ⟨_, _, _, rfl, by simp, g3.2.1, by simp only []; omega⟩
  rw [if_neg q0]
  by_cases q1 : q = 1
  · rw [if_pos q1]
    obtain ⟨k, p4, st4, h4, hk, g4⟩ := pick_ok hs p3 st3 (o.length : Int) ⟨g3.2.1, by omega⟩ (by omega)
    obtain ⟨x, p5, st5, h5, hx, g5⟩ := among_ok hs p4 st4 [0, 1, 8, -1] ⟨g4.2.1, by omega⟩ (by simp)
    rw [h4, Option.bind_some, h5, Option.bind_some, if_pos ⟨hk, by simp only []; omega⟩]
    exact ⟨_, _, _, rfl, by simp; omega, g5.1, by simp only []; omega⟩
  rw [if_neg q1]
  by_cases q2 : q = 2
  · rw [if_pos q2]; exact ⟨_, _, _, rfl, by simp, g3.2.1, by simp only []; omega⟩
  · rw [if_neg q2]; exact ⟨_, _, _, rfl, by simp only []; omega, g3.2.1, by simp only []; omega⟩
end Go.Proofs.Ytbnieikbjmfhgaa.Pure
