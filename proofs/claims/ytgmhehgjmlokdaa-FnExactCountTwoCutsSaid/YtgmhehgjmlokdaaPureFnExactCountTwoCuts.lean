/- The program's CountTwoCuts returns what the reference's returns, for every list. -/
import Derived.Test.YtgmhehgjmlokdaaPFnExactCountTwoCutsx8
import Derived.Test.YtgmhehgjmlokdaaK
set_option linter.unusedVariables false
set_option linter.unusedSimpArgs false
namespace Go.Proofs.Ytgmhehgjmlokdaa.Pure
open Go.RowKit Go.Proofs.Ytgmhehgjmlokdaa.PFnExactCountTwoCuts Go.Proofs.YtgmhehgjmlokdaaW.PrintWords Go.Proofs.YtgmhehgjmlokdaaW.PrintLast Go.Proofs.YtgmhehgjmlokdaaW.PrintMore

theorem toIntS_l (x0 : List Int) (hn : x0.length ≤ 17592186044416) : ∀ (d i : Nat) (x3 : List Int), x3.length = x0.length → x3.take i = x0.take i → x0.length = i + d → Ev (fun k => laws_toIntS.l0 k x0 x3 i) x0
  | 0, i, x3, h1, h2, h3 => by
    refine Ev.step (fun k => by rw [laws_toIntS.l0]) ?_
    refine Ev.neg (by omega) (Ev.val ?_)
    rw [List.take_of_length_le (by omega), List.take_of_length_le (by omega)] at h2
    exact h2
  | d + 1, i, x3, h1, h2, h3 => by
    refine Ev.step (fun k => by rw [laws_toIntS.l0]) ?_
    refine Ev.pos (by omega) (Ev.pos (by omega) (Ev.pos (by omega) ?_))
    have e : wrap64 ((i : Int) + 1) = ((i + 1 : Nat) : Int) := by rw [w64 (by omega)]; omega
    simp only [e, Int.toNat_natCast]
    exact toIntS_l x0 hn d (i + 1) _ (by simpa using h1) (by rw [take_set_succ _ _ _ (by omega), h2, take_step _ _ (by omega), rd_nat]) (by omega)
theorem toIntS_ev (l : List Int) (hn : l.length ≤ 17592186044416) : Ev (fun k => laws_toIntS.f k l) l := by
  unfold laws_toIntS.f
  refine Ev.pos (by omega) (Ev.pos (by omega) ?_)
  exact toIntS_l l hn l.length 0 _ (by simp) (by simp) (by omega)

theorem eqIntS_l (a b : List Int) (hn : a.length ≤ 17592186044416) (hl : a.length = b.length) : ∀ (d i : Nat), a.length = i + d → Ev (fun k => laws_eqIntS.l0 k a b i) (decide (a.drop i = b.drop i))
  | 0, i, h => by
    refine Ev.step (fun k => by rw [laws_eqIntS.l0]) ?_
    refine Ev.neg (by omega) (Ev.val ?_)
    rw [List.drop_of_length_le (by omega), List.drop_of_length_le (by omega)]
    simp
  | d + 1, i, h => by
    refine Ev.step (fun k => by rw [laws_eqIntS.l0]) ?_
    refine Ev.pos (by omega) (Ev.pos (by omega) (Ev.pos (by omega) ?_))
    have e : wrap64 ((i : Int) + 1) = ((i + 1 : Nat) : Int) := by rw [w64 (by omega)]; omega
    simp only [e]
    rw [drop_step a i (by omega), drop_step b i (by omega)]
    refine Ev.ite (fun hc => ?_) (fun hc => Ev.val ?_)
    · have hc' : nth a i = nth b i := hc
      refine (eqIntS_l a b hn hl d (i + 1) (by omega)).to ?_
      rw [hc']
      simp
    · have hc' : ¬ nth a i = nth b i := hc
      simp [hc']
theorem eqIntS_ev (a b : List Int) (hn : a.length ≤ 17592186044416) : Ev (fun k => laws_eqIntS.f k a b) (decide (a = b)) := by
  unfold laws_eqIntS.f
  refine Ev.ite (fun hc => ?_) (fun hc => Ev.val ?_)
  · exact (eqIntS_l a b hn (by omega) a.length 0 (by omega)).to (by simp)
  · have : ¬ a = b := fun h => hc (by rw [h])
    simp [this]

theorem l1In_is (a b c : Int) : spec_l1In.f a b c = some (decide (b ≤ a ∧ a ≤ c)) := by
  unfold spec_l1In.f
  by_cases h : a ≥ b
  · rw [if_pos h]; simp [h]
  · rw [if_neg h]; simp; omega

theorem l1Has_l (l : List Int) (x : Int) (hn : l.length ≤ 17592186044416) : ∀ (d i : Nat), l.length = i + d → Ev (fun k => spec_l1Has.l0 k l x i) ((l.drop i).contains x)
  | 0, i, h => by
    refine Ev.step (fun k => by rw [spec_l1Has.l0]) ?_
    refine Ev.neg (by omega) (Ev.val ?_)
    rw [List.drop_of_length_le (by omega)]
    simp
  | d + 1, i, h => by
    refine Ev.step (fun k => by rw [spec_l1Has.l0]) ?_
    have e : wrap64 ((i : Int) + 1) = ((i + 1 : Nat) : Int) := by rw [w64 (by omega)]; omega
    simp only [e]
    rw [drop_step l i (by omega)]
    refine Ev.pos (by omega) (Ev.pos (by omega) (Ev.ite (fun hc => Ev.val ?_) (fun hc => ?_)))
    · have hc' : nth l i = x := hc
      rw [hc']; simp
    · have hc' : ¬ nth l i = x := hc
      refine (l1Has_l l x hn d (i + 1) (by omega)).to ?_
      have : ¬ x = nth l i := fun h => hc' h.symm
      rw [List.contains_cons]
      simp [this]
theorem l1Has_ev (l : List Int) (x : Int) (hn : l.length ≤ 17592186044416) : Ev (fun k => spec_l1Has.f k l x) (l.contains x) := by
  unfold spec_l1Has.f
  exact (l1Has_l l x hn l.length 0 (by omega)).to (by simp)

theorem l2Order_l (l : List Int) (hn : l.length ≤ 17592186044416) : ∀ (d i : Nat), l.length = i + d → Ev (fun k => spec_l2Order.l0 k l i) (allFrom (ordAt l) d i)
  | 0, i, h => by
    refine Ev.step (fun k => by rw [spec_l2Order.l0]) ?_
    exact Ev.neg (by omega) (Ev.val rfl)
  | d + 1, i, h => by
    refine Ev.step (fun k => by rw [spec_l2Order.l0]) ?_
    have e : wrap64 ((i : Int) + 1) = ((i + 1 : Nat) : Int) := by rw [w64 (by omega)]; omega
    simp only [e, l1In_is, Option.bind_some, rd_nat, Int.toNat_natCast, decide_eq_true_eq]
    refine Ev.pos (by omega) (Ev.pos (by omega) (Ev.ite (fun hc => Ev.pos (by omega) ?_) (fun hc => Ev.val ?_)))
    · refine Ev.bind (l1Has_ev _ _ (by simp; omega)) ?_
      refine Ev.ite (fun hb => Ev.val ?_) (fun hb => (l2Order_l l hn d (i + 1) (by omega)).to ?_)
      · rw [allFrom, ordAt, hb]; simp
      · rw [Bool.not_eq_true] at hb
        rw [allFrom, ordAt, hb]; simp [hc]
    · rw [allFrom, ordAt]
      by_cases h1 : 1 ≤ nth l i
      · have : ¬ nth l i ≤ l.length := fun h2 => hc ⟨h1, h2⟩
        simp [this]
      · simp [h1]
theorem l2Order_ev (l : List Int) (hn : l.length ≤ 17592186044416) : Ev (fun k => spec_l2Order.f k l) (isOrd l) := by
  unfold spec_l2Order.f
  simp only [l1In_is, Option.bind_some, decide_eq_true_eq]
  refine Ev.ite (fun hc => (l2Order_l l hn l.length 0 (by omega)).to ?_) (fun hc => Ev.val ?_)
  · have h1 : 1 ≤ l.length := by omega
    have h2 : l.length ≤ 7 := by omega
    simp [isOrd, h1, h2]
  · rw [isOrd]
    by_cases h1 : 1 ≤ l.length
    · have : ¬ l.length ≤ 7 := by omega
      simp [this]
    · simp [h1]

theorem Index_l (l : List Int) (x : Int) (hn : l.length ≤ 17592186044416) : ∀ (d i : Nat), l.length = i + d → (∀ j, j < i → nth l j ≠ x) → Ev (fun k => slices_Index_int_int.l0 k l x (l.length : Int) i) (idx l x)
  | 0, i, h, hq => by
    refine Ev.step (fun k => by rw [slices_Index_int_int.l0]) ?_
    refine Ev.neg (by omega) (Ev.val ?_)
    exact (idx_none l x fun j hj => hq j (by omega)).symm
  | d + 1, i, h, hq => by
    refine Ev.step (fun k => by rw [slices_Index_int_int.l0]) ?_
    have e : wrap64 ((i : Int) + 1) = ((i + 1 : Nat) : Int) := by rw [w64 (by omega)]; omega
    simp only [e]
    refine Ev.pos (by omega) (Ev.pos (by omega) (Ev.pos (by omega) (Ev.ite (fun hc => Ev.val ?_) (fun hc => ?_))))
    · exact (idx_some l x i (by omega) (by rw [hc]; rfl) hq).symm
    · refine Index_l l x hn d (i + 1) (by omega) (fun j hj => ?_)
      by_cases e : j = i
      · subst e; exact fun h => hc h.symm
      · exact hq j (by omega)
theorem Index_ev (l : List Int) (x : Int) (hn : l.length ≤ 17592186044416) : Ev (fun k => slices_Index_int_int.f k l x) (idx l x) := by
  unfold slices_Index_int_int.f
  exact Index_l l x hn l.length 0 (by omega) (fun j hj => by omega)

theorem Contains_ev (l : List Int) (x : Int) (hn : l.length ≤ 17592186044416) : Ev (fun k => slices_Contains_int_int.f k l x) (l.contains x) := by
  unfold slices_Contains_int_int.f
  exact Ev.bind (Index_ev l x hn) (Ev.val (idx_contains l x))

theorem isOrder_l (l : List Int) (hn : l.length ≤ 17592186044416) : ∀ (d i : Nat), l.length = i + d → Ev (fun k => impl_isOrder.l0 k l l (l.length : Int) i) (allFrom (ordAt l) d i)
  | 0, i, h => by
    refine Ev.step (fun k => by rw [impl_isOrder.l0]) ?_
    exact Ev.neg (by omega) (Ev.val rfl)
  | d + 1, i, h => by
    refine Ev.step (fun k => by rw [impl_isOrder.l0]) ?_
    have e : wrap64 ((i : Int) + 1) = ((i + 1 : Nat) : Int) := by rw [w64 (by omega)]; omega
    simp only [e, rd_nat, Int.toNat_natCast]
    refine Ev.pos (by omega) (Ev.pos (by omega) (Ev.pos (by omega) (Ev.ite (fun hc => Ev.val ?_) (fun hc => Ev.ite (fun hd => Ev.val ?_) (fun hd => Ev.pos (by omega) ?_)))))
    · have : ¬ 1 ≤ nth l i := by omega
      rw [allFrom, ordAt]; simp [this]
    · have : ¬ nth l i ≤ l.length := by omega
      rw [allFrom, ordAt]; simp [this]
    · refine Ev.bind (Contains_ev _ _ (by simp; omega)) ?_
      refine Ev.ite (fun hb => Ev.val ?_) (fun hb => (isOrder_l l hn d (i + 1) (by omega)).to ?_)
      · rw [allFrom, ordAt, hb]; simp
      · rw [Bool.not_eq_true] at hb
        have h1 : 1 ≤ nth l i := by omega
        have h2 : nth l i ≤ l.length := by omega
        rw [allFrom, ordAt, hb]; simp [h1, h2]
theorem isOrder_ev (l : List Int) (hn : l.length ≤ 17592186044416) : Ev (fun k => impl_isOrder.f k l) (isOrd l) := by
  unfold impl_isOrder.f
  refine Ev.ite (fun hc => ?_) (fun hc => ?_)
  · refine Ev.step (fun k => by rw [impl_isOrder.j0]) ?_
    refine Ev.pos rfl (Ev.val ?_)
    have : ¬ 1 ≤ l.length := by omega
    simp [isOrd, this]
  · refine Ev.step (fun k => by rw [impl_isOrder.j0]) ?_
    simp only [decide_eq_true_eq]
    refine Ev.ite (fun hd => Ev.val ?_) (fun hd => (isOrder_l l hn l.length 0 (by omega)).to ?_)
    · have : ¬ l.length ≤ 7 := by omega
      simp [isOrd, this]
    · have h1 : 1 ≤ l.length := by omega
      have h2 : l.length ≤ 7 := by omega
      simp [isOrd, h1, h2]

/-! a check of all orders, by the kernel -/
def isOk : Option Bool → Bool
  | some true => true
  | _ => false
theorem isOk_some {o : Option Bool} (h : isOk o = true) : o = some true := by
  unfold isOk at h
  split at h
  · rfl
  · cases h
def allO (ns : List Int) (p : List Int → Bool) : Nat → List Int → Bool
  | 0, q => p q
  | d + 1, q => ns.all fun c => q.contains c || allO ns p d (c :: q)
theorem isOrd_drop {l : List Int} (h : isOrd l = true) (i : Nat) (hi : i < l.length) : nth l i ∉ l.drop (i + 1) := by
  intro hm
  obtain ⟨j, hj, e⟩ := List.mem_iff_getElem.1 hm
  rw [List.getElem_drop] at e
  simp only [List.length_drop] at hj
  refine (isOrd_at h (i + 1 + j) (by omega)).2.2 ?_
  rw [nth_lt l (i + 1 + j) (by omega), e, nth_lt l i hi, List.mem_take_iff_getElem]
  exact ⟨i, by omega, rfl⟩
theorem allO_mem {l : List Int} (h : isOrd l = true) (ns : List Int) (hns : ∀ x : Int, 1 ≤ x → x ≤ l.length → x ∈ ns) (p : List Int → Bool) : ∀ i, i ≤ l.length → allO ns p i (l.drop i) = true → p l = true
  | 0, _, hp => by simpa [allO] using hp
  | i + 1, hi, hp => by
    rw [allO, List.all_eq_true] at hp
    have ha := isOrd_at h i (by omega)
    have h1 := hp (nth l i) (hns _ ha.1 ha.2.1)
    have h2 : (l.drop (i + 1)).contains (nth l i) = false := by
      have := isOrd_drop h i (by omega)
      simpa using this
    rw [h2, Bool.false_or, ← drop_step l i (by omega)] at h1
    exact allO_mem h ns hns p i (by omega) h1
def intsTo (n : Nat) : List Int := ([1, 2, 3, 4, 5, 6, 7] : List Int).take n
theorem intsTo_mem : ∀ n : Nat, n ≤ 7 → ∀ x : Int, 1 ≤ x → x ≤ n → x ∈ intsTo n := by
  intro n hn x h1 h2
  have hx : x = 1 ∨ x = 2 ∨ x = 3 ∨ x = 4 ∨ x = 5 ∨ x = 6 ∨ x = 7 := by omega
  have hn' : n = 0 ∨ n = 1 ∨ n = 2 ∨ n = 3 ∨ n = 4 ∨ n = 5 ∨ n = 6 ∨ n = 7 := by omega
  rcases hn' with rfl | rfl | rfl | rfl | rfl | rfl | rfl | rfl <;> rcases hx with rfl | rfl | rfl | rfl | rfl | rfl | rfl <;> first | (exfalso; omega) | simp [intsTo]
theorem orders_all {l : List Int} (h : isOrd l = true) (p : List Int → Bool) (hp : ∀ n ∈ [1, 2, 3, 4, 5, 6, 7], allO (intsTo n) p n [] = true) : p l = true := by
  have hl := isOrd_len h
  have hm : l.length ∈ [1, 2, 3, 4, 5, 6, 7] := by
    have : l.length = 1 ∨ l.length = 2 ∨ l.length = 3 ∨ l.length = 4 ∨ l.length = 5 ∨ l.length = 6 ∨ l.length = 7 := by omega
    simp [this]
  refine allO_mem h (intsTo l.length) (fun x h1 h2 => intsTo_mem l.length hl.2 x h1 h2) p l.length (Nat.le_refl _) ?_
  rw [List.drop_length]
  exact hp _ hm

theorem isOrd_of {l : List Int} (h1 : 1 ≤ l.length) (h2 : l.length ≤ 7) (hd : l.Nodup) (hm : ∀ x ∈ l, 1 ≤ x ∧ x ≤ l.length) : isOrd l = true := by
  simp only [isOrd, Bool.and_eq_true, decide_eq_true_eq]
  refine ⟨h1, h2, (allFrom_iff _ _ _).2 fun j _ hj => ?_⟩
  have hj' : j < l.length := by omega
  have := hm (nth l j) (by rw [nth_lt _ _ hj']; exact List.getElem_mem hj')
  have hn : nth l j ∉ l.take j := by
    intro hc
    obtain ⟨i, hi, e⟩ := List.mem_take_iff_getElem.1 hc
    rw [nth_lt _ _ hj'] at e
    have := (List.getElem_inj hd).1 e
    omega
  simp [ordAt, this.1, this.2, hn]

/-! orders: no number twice; all numbers there -/
theorem isOrd_nodup {l : List Int} (h : isOrd l = true) : l.Nodup := by
  refine List.pairwise_iff_getElem.2 fun i j hi hj hij e => (isOrd_at h j hj).2.2 ?_
  rw [nth_lt _ _ hj, ← e]
  exact List.mem_take_iff_getElem.2 ⟨i, by omega, rfl⟩
theorem isOrd_all_ : ∀ n ∈ [1, 2, 3, 4, 5, 6, 7], allO (intsTo n) (fun l => (intsTo l.length).all fun x => l.contains x) n [] = true := by decide +kernel
theorem isOrd_all {l : List Int} (h : isOrd l = true) (x : Int) (h1 : 1 ≤ x) (h2 : x ≤ l.length) : x ∈ l := by
  have := orders_all h _ isOrd_all_
  rw [List.all_eq_true] at this
  simpa using this x (intsTo_mem l.length (isOrd_len h).2 x h1 h2)
theorem isOrd_mem {l : List Int} (h : isOrd l = true) (x : Int) (hx : x ∈ l) : 1 ≤ x ∧ x ≤ l.length := by
  obtain ⟨i, hi, e⟩ := List.mem_iff_getElem.1 hx
  have := isOrd_at h i hi
  rw [nth_lt _ _ hi, e] at this
  exact ⟨this.1, this.2.1⟩
/-- two lists of the same numbers, none twice -/
structure Twin (o t : List Int) : Prop where
  len : o.length = t.length
  ndo : o.Nodup
  ndt : t.Nodup
  fwd : ∀ x ∈ o, x ∈ t
  bwd : ∀ x ∈ t, x ∈ o
theorem Twin.ord {l s : List Int} (hl : isOrd l = true) (hs : isOrd s = true) (h : l.length = s.length) : Twin l s :=
  ⟨h, isOrd_nodup hl, isOrd_nodup hs, fun x hx => isOrd_all hs x (isOrd_mem hl x hx).1 (by have := (isOrd_mem hl x hx).2; omega), fun x hx => isOrd_all hl x (isOrd_mem hs x hx).1 (by have := (isOrd_mem hs x hx).2; omega)⟩
theorem nodup_nth {l : List Int} (h : l.Nodup) (i j : Nat) (hi : i < l.length) (hj : j < l.length) (e : nth l i = nth l j) : i = j := by
  rw [nth_lt _ _ hi, nth_lt _ _ hj] at e
  exact (List.getElem_inj h).1 e
theorem idx_at {l : List Int} (h : l.Nodup) (i : Nat) (hi : i < l.length) : idx l (nth l i) = i :=
  idx_some l _ i hi rfl fun j hj e => by have := nodup_nth h j i (by omega) hi e; omega
theorem idx_mem {l : List Int} {x : Int} (h : x ∈ l) : ∃ i : Nat, i < l.length ∧ idx l x = i ∧ nth l i = x := by
  induction l with
  | nil => cases h
  | cons y l ih =>
    by_cases e : y = x
    · exact ⟨0, by simp, by simp [idx, e], by simp [nth, e]⟩
    · have hm : x ∈ l := by
        rcases List.mem_cons.1 h with h | h
        · exact absurd h.symm e
        · exact h
      obtain ⟨i, h1, h2, h3⟩ := ih hm
      refine ⟨i + 1, by simpa using h1, ?_, by rw [nth_cons_succ]; exact h3⟩
      rw [idx, if_neg e, h2, if_neg (by omega)]
      omega
theorem nth_take (l : List Int) (c i : Nat) (h : i < c) : nth (l.take c) i = nth l i := by
  unfold nth
  rw [List.getD_eq_getElem?_getD, List.getD_eq_getElem?_getD, List.getElem?_take, if_pos h]
theorem nth_rev (l : List Int) (i : Nat) (h : i < l.length) : nth l.reverse i = nth l (l.length - 1 - i) := by
  unfold nth
  rw [List.getD_eq_getElem?_getD, List.getD_eq_getElem?_getD, List.getElem?_reverse h]

/-! how many orders; all orders -/
def facN (n : Nat) : Nat := [1, 1, 2, 6, 24, 120, 720, 5040].getD n 1
theorem facN_pos (n : Nat) : 0 < facN n := by
  rcases Nat.lt_or_ge n 8 with h | h
  · have : n = 0 ∨ n = 1 ∨ n = 2 ∨ n = 3 ∨ n = 4 ∨ n = 5 ∨ n = 6 ∨ n = 7 := by omega
    rcases this with rfl | rfl | rfl | rfl | rfl | rfl | rfl | rfl <;> decide
  · unfold facN
    rw [List.getD_eq_getElem?_getD, List.getElem?_eq_none (by simpa using h)]
    decide
theorem facN_le (n : Nat) : facN n ≤ 5040 := by
  rcases Nat.lt_or_ge n 8 with h | h
  · have : n = 0 ∨ n = 1 ∨ n = 2 ∨ n = 3 ∨ n = 4 ∨ n = 5 ∨ n = 6 ∨ n = 7 := by omega
    rcases this with rfl | rfl | rfl | rfl | rfl | rfl | rfl | rfl <;> decide
  · unfold facN
    rw [List.getD_eq_getElem?_getD, List.getElem?_eq_none (by simpa using h)]
    decide
theorem facN_succ (n : Nat) (h : n ≤ 6) : facN (n + 1) = (n + 1) * facN n := by
  have : n = 0 ∨ n = 1 ∨ n = 2 ∨ n = 3 ∨ n = 4 ∨ n = 5 ∨ n = 6 := by omega
  rcases this with rfl | rfl | rfl | rfl | rfl | rfl | rfl <;> decide
def atM : Nat → List Int → Nat → List Int
  | 0, _, _ => []
  | d + 1, left, k => nth left (k / facN d) :: atM d (left.take (k / facN d) ++ left.drop (k / facN d + 1)) (k % facN d)
theorem atM_length : ∀ (d : Nat) (left : List Int) (k : Nat), (atM d left k).length = d
  | 0, _, _ => rfl
  | d + 1, left, k => by rw [atM, List.length_cons, atM_length d]
def ordsM (n : Nat) : List (List Int) := (List.range (facN n)).map fun k => atM n (marked 1 n) k
theorem ordsM_length (n : Nat) : (ordsM n).length = facN n := by simp [ordsM]
theorem ordsM_len (n : Nat) (l : List Int) (h : l ∈ ordsM n) : l.length = n := by
  obtain ⟨k, _, rfl⟩ := List.mem_map.1 h
  exact atM_length n _ k
theorem tdiv_nat (a b : Nat) : Int.tdiv (a : Int) (b : Int) = ((a / b : Nat) : Int) := (Int.ofNat_tdiv a b).symm
theorem tmod_nat (a b : Nat) : Int.tmod (a : Int) (b : Int) = ((a % b : Nat) : Int) := (Int.ofNat_tmod a b).symm
theorem div_lt_of (d k : Nat) (hd : d ≤ 6) (h : k < facN (d + 1)) : k / facN d < d + 1 := by
  rw [Nat.div_lt_iff_lt_mul (facN_pos d), ← facN_succ d hd]
  exact h

theorem l2Back_l (l : List Int) (hn : l.length ≤ 17592186044415) : ∀ (i : Nat) (acc : List Int), i ≤ l.length → acc.length + i ≤ l.length → Ev (fun k => spec_l2Back.l0 k l acc ((i : Int) - 1)) (acc ++ (l.take i).reverse)
  | 0, acc, hi, ha => by
    refine Ev.step (fun k => by rw [spec_l2Back.l0]) ?_
    exact Ev.neg (by omega) (Ev.val (by simp))
  | i + 1, acc, hi, ha => by
    have e : ((i + 1 : Nat) : Int) - 1 = (i : Int) := by omega
    have e2 : wrap64 ((i : Int) - 1) = (i : Int) - 1 := w64 (by omega)
    simp only [e]
    refine Ev.step (fun k => by rw [spec_l2Back.l0]) ?_
    simp only [e2, rd_nat]
    refine Ev.pos (by omega) (Ev.pos (by omega) (Ev.pos (by omega) (Ev.pos (by omega) ?_)))
    refine (l2Back_l l hn i (acc ++ [nth l i]) (by omega) (by simp; omega)).to ?_
    rw [take_step l i (by omega)]
    simp
theorem l2Back_ev (l : List Int) (hn : l.length ≤ 17592186044415) : Ev (fun k => spec_l2Back.f k l) l.reverse := by
  unfold spec_l2Back.f
  have e : wrap64 ((l.length : Int) - 1) = (l.length : Int) - 1 := w64 (by omega)
  simp only [e]
  refine (l2Back_l l hn l.length [] (Nat.le_refl _) (by simp)).to ?_
  simp

theorem nth_right (A B : List Int) (i : Nat) (h : A.length ≤ i) : nth (A ++ B) i = nth B (i - A.length) := by
  simp [nth, List.getD_eq_getElem?_getD, List.getElem?_append_right h]
theorem Reverse_l : ∀ (n : Nat) (A M B : List Int), M.length = n → (A ++ (M ++ B)).length ≤ 17592186044415 → Ev (fun k => slices_Reverse_int_int.l0 k (A ++ (M ++ B)) (A.length : Int) ((A.length : Int) + (M.length : Int) - 1)) (A ++ (M.reverse ++ B)) := by
  intro n
  induction n using Nat.strongRecOn with
  | _ n ih =>
    intro A M B hM hn
    by_cases h2 : n < 2
    · refine Ev.step (fun k => by rw [slices_Reverse_int_int.l0]) ?_
      refine Ev.neg (by omega) (Ev.val ?_)
      have : M = [] ∨ ∃ a, M = [a] := by
        rcases M with _ | ⟨a, _ | ⟨b, M⟩⟩
        · exact .inl rfl
        · exact .inr ⟨a, rfl⟩
        · simp at hM; omega
      rcases this with rfl | ⟨a, rfl⟩ <;> simp
    · obtain ⟨a, M', b, rfl⟩ : ∃ a M' b, M = a :: (M' ++ [b]) := by
        rcases M with _ | ⟨a, M⟩
        · simp at hM; omega
        · rcases List.eq_nil_or_concat M with rfl | ⟨M', b, rfl⟩
          · simp at hM; omega
          · exact ⟨a, M', b, by simp⟩
      have hl : M'.length + 2 = n := by simp at hM; omega
      have hn' : A.length + (M'.length + 2 + B.length) ≤ 17592186044415 := by simp at hn; omega
      refine Ev.step (fun k => by rw [slices_Reverse_int_int.l0]) ?_
      have e1 : (A.length : Int) + ((a :: (M' ++ [b])).length : Int) - 1 = ((A.length + 1 + M'.length : Nat) : Int) := by simp; omega
      have e2 : wrap64 ((A.length : Int) + 1) = ((A.length + 1 : Nat) : Int) := by rw [w64 (by omega)]; omega
      have e3 : wrap64 (((A.length + 1 + M'.length : Nat) : Int) - 1) = ((A.length + M'.length : Nat) : Int) := by rw [w64 (by omega)]; omega
      have g1 : nth (A ++ (a :: (M' ++ [b]) ++ B)) (A.length + 1 + M'.length) = b := by
        have : A ++ (a :: (M' ++ [b]) ++ B) = (A ++ a :: M') ++ (b :: B) := by simp
        rw [this, nth_right _ _ _ (by simp; omega)]
        have : A.length + 1 + M'.length - (A ++ a :: M').length = 0 := by simp; omega
        rw [this]; rfl
      have g2 : nth (A ++ (a :: (M' ++ [b]) ++ B)) A.length = a := by
        rw [nth_right _ _ _ (Nat.le_refl _)]
        simp [nth]
      have g3 : ((A ++ (a :: (M' ++ [b]) ++ B)).set A.length b).set (A.length + 1 + M'.length) a = (A ++ [b]) ++ (M' ++ (a :: B)) := by
        have h1 : (A ++ (a :: (M' ++ [b]) ++ B)).set A.length b = (A ++ b :: M') ++ (b :: B) := by
          rw [List.set_append_right _ _ (Nat.le_refl _)]; simp
        rw [h1, List.set_append_right _ _ (by simp; omega)]
        have : A.length + 1 + M'.length - (A ++ b :: M').length = 0 := by simp; omega
        rw [this]; simp
      simp only [e1, e2, e3, rd_nat, Int.toNat_natCast, g1, g2, g3]
      have hlen : (A ++ (a :: (M' ++ [b]) ++ B)).length = A.length + (M'.length + 2 + B.length) := by simp; omega
      refine Ev.pos (by omega) (Ev.pos (by omega) (Ev.pos (by rw [hlen]; omega) (Ev.pos (by omega) (Ev.pos (by rw [hlen]; omega) ?_))))
      have := ih M'.length (by omega) (A ++ [b]) M' (a :: B) rfl (by simp; omega)
      have e4 : ((A ++ [b]).length : Int) + (M'.length : Int) - 1 = ((A.length + M'.length : Nat) : Int) := by simp; omega
      have e5 : ((A ++ [b]).length : Int) = ((A.length + 1 : Nat) : Int) := by simp
      rw [e4, e5] at this
      refine this.to ?_
      simp
theorem Reverse_ev (l : List Int) (hn : l.length ≤ 17592186044415) : Ev (fun k => slices_Reverse_int_int.f k l) l.reverse := by
  unfold slices_Reverse_int_int.f
  have e : wrap64 ((l.length : Int) - 1) = (([] : List Int).length : Int) + (l.length : Int) - 1 := by rw [w64 (by omega)]; simp
  have := Reverse_l l.length [] l [] rfl (by simpa using hn)
  simp only [e]
  simpa using this
theorem back_ev (l : List Int) (hn : l.length ≤ 17592186044415) : Ev (fun k => impl_back.f k l) l.reverse := by
  unfold impl_back.f
  refine Ev.bind (a := l) ?_ (Ev.bind (Reverse_ev l hn) (Ev.val rfl))
  unfold slices_Clone_int_int.f
  exact Ev.pos (by omega) (Ev.val rfl)

/-! cuts: numbers of at least 1 whose sum is n -/
def cutsOk : Int → List Int → Bool
  | n, [] => n == 0
  | n, c :: cs => decide (1 ≤ c) && (decide (c ≤ n) && cutsOk (n - c) cs)
theorem cutsOk_neg (l : List Int) (n : Int) (h : n < 0) : cutsOk n l = false := by
  cases l with
  | nil => simp [cutsOk]; omega
  | cons c cs =>
    by_cases h1 : 1 ≤ c
    · have : ¬ c ≤ n := by omega
      simp [cutsOk, this]
    · simp [cutsOk, h1]
theorem cutsOk_len : ∀ (l : List Int) (n : Int), cutsOk n l = true → (l.length : Int) ≤ n
  | [], n, h => by simp [cutsOk] at h; simp [h]
  | c :: cs, n, h => by
    simp only [cutsOk, Bool.and_eq_true, decide_eq_true_eq] at h
    have := cutsOk_len cs (n - c) h.2.2
    simp only [List.length_cons]
    omega
def isCuts (n : Int) (l : List Int) : Bool := decide (1 ≤ n ∧ n ≤ 7) && cutsOk n l

/-! what comes out by cuts -/
def runL : List Int → List Int → List Int
  | _, [] => []
  | l, c :: cs => (l.take c.toNat).reverse ++ runL (l.drop c.toNat) cs
theorem runL_length : ∀ (cs l : List Int), (runL l cs).length ≤ l.length
  | [], l => by simp [runL]
  | c :: cs, l => by
    have := runL_length cs (l.drop c.toNat)
    simp [runL] at this ⊢
    omega
theorem l6Run_l (l cs : List Int) (hn : l.length ≤ 17592186044415) (hc : cs.length ≤ 17592186044415) : ∀ (d i f : Nat) (acc : List Int), cs.length = i + d → f ≤ l.length → acc.length = f → cutsOk ((l.length - f : Nat) : Int) (cs.drop i) = true → Ev (fun k => spec_l6Run.l0 k l cs acc f i) (acc ++ runL (l.drop f) (cs.drop i))
  | 0, i, f, acc, h, hf, ha, ho => by
    refine Ev.step (fun k => by rw [spec_l6Run.l0]) ?_
    refine Ev.neg (by omega) (Ev.val ?_)
    rw [List.drop_of_length_le (by omega : cs.length ≤ i)]
    simp [runL]
  | d + 1, i, f, acc, h, hf, ha, ho => by
    refine Ev.step (fun k => by rw [spec_l6Run.l0]) ?_
    rw [drop_step cs i (by omega)] at ho ⊢
    simp only [cutsOk, Bool.and_eq_true, decide_eq_true_eq] at ho
    obtain ⟨m, hm⟩ : ∃ m : Nat, nth cs i = m := ⟨(nth cs i).toNat, by omega⟩
    rw [hm] at ho ⊢
    have e : wrap64 ((i : Int) + 1) = ((i + 1 : Nat) : Int) := by rw [w64 (by omega)]; omega
    have e2 : wrap64 ((f : Int) + (m : Int)) = ((f + m : Nat) : Int) := by rw [w64 (by omega)]; omega
    simp only [rd_nat, hm, e, e2, Int.toNat_natCast]
    clear e e2
    refine Ev.pos (by omega) (Ev.pos (by omega) (Ev.pos (by omega) (Ev.pos (by omega) (Ev.pos (by omega) ?_))))
    have hd : (l.take (f + m)).drop f = (l.drop f).take m := by rw [List.drop_take]; congr 1; omega
    rw [hd]
    refine Ev.bind (l2Back_ev _ (by simp; omega)) (Ev.pos (by simp; omega) ?_)
    refine (l6Run_l l cs hn hc d (i + 1) (f + m) _ (by omega) (by omega) (by simp; omega) ?_).to ?_
    · have : ((l.length - (f + m) : Nat) : Int) = ((l.length - f : Nat) : Int) - (m : Int) := by omega
      rw [this]
      exact ho.2.2
    · simp [runL, List.drop_drop]
theorem l6Run_ev (l cs : List Int) (hn : l.length ≤ 17592186044415) (ho : isCuts (l.length : Int) cs = true) : Ev (fun k => spec_l6Run.f k l cs) (runL l cs) := by
  simp only [isCuts, Bool.and_eq_true, decide_eq_true_eq] at ho
  have := cutsOk_len _ _ ho.2
  unfold spec_l6Run.f
  exact l6Run_l l cs hn (by omega) cs.length 0 0 [] (by omega) (by omega) rfl ho.2
theorem runCuts_l (cs : List Int) (hc : cs.length ≤ 17592186044415) : ∀ (d i : Nat) (l acc : List Int), cs.length = i + d → l.length + acc.length ≤ 17592186044415 → cutsOk (l.length : Int) (cs.drop i) = true → Ev (fun k => impl_runCuts.l0 k l acc cs (cs.length : Int) i) (acc ++ runL l (cs.drop i))
  | 0, i, l, acc, h, hn, ho => by
    refine Ev.step (fun k => by rw [impl_runCuts.l0]) ?_
    refine Ev.neg (by omega) (Ev.val ?_)
    rw [List.drop_of_length_le (by omega : cs.length ≤ i)]
    simp [runL]
  | d + 1, i, l, acc, h, hn, ho => by
    refine Ev.step (fun k => by rw [impl_runCuts.l0]) ?_
    rw [drop_step cs i (by omega)] at ho ⊢
    simp only [cutsOk, Bool.and_eq_true, decide_eq_true_eq] at ho
    obtain ⟨m, hm⟩ : ∃ m : Nat, nth cs i = m := ⟨(nth cs i).toNat, by omega⟩
    rw [hm] at ho ⊢
    have e : wrap64 ((i : Int) + 1) = ((i + 1 : Nat) : Int) := by rw [w64 (by omega)]; omega
    simp only [rd_nat, hm, e, Int.toNat_natCast]
    clear e
    refine Ev.pos (by omega) (Ev.pos (by omega) (Ev.pos (by omega) (Ev.pos (by omega) (Ev.pos (by omega) ?_))))
    refine Ev.bind (back_ev _ (by simp; omega)) (Ev.pos (by simp; omega) ?_)
    refine (runCuts_l cs hc d (i + 1) (l.drop m) _ (by omega) (by simp; omega) ?_).to ?_
    · have : ((l.drop m).length : Int) = (l.length : Int) - (m : Int) := by simp; omega
      rw [this]
      exact ho.2.2
    · simp [runL]
theorem runCuts_ev (l cs : List Int) (hn : l.length ≤ 17592186044415) (ho : isCuts (l.length : Int) cs = true) : Ev (fun k => impl_runCuts.f k l cs) (runL l cs) := by
  simp only [isCuts, Bool.and_eq_true, decide_eq_true_eq] at ho
  have := cutsOk_len _ _ ho.2
  unfold impl_runCuts.f
  exact runCuts_l cs (by omega) cs.length 0 l [] (by omega) (by simpa using hn) ho.2

theorem Equal_l (a b : List Int) (hn : a.length ≤ 17592186044416) (hl : a.length = b.length) : ∀ (d i : Nat), a.length = i + d → Ev (fun k => slices_Equal_int_int.l0 k a b (a.length : Int) i) (decide (a.drop i = b.drop i))
  | 0, i, h => by
    refine Ev.step (fun k => by rw [slices_Equal_int_int.l0]) (Ev.neg (by omega) (Ev.val ?_))
    rw [List.drop_of_length_le (by omega), List.drop_of_length_le (by omega)]; rfl
  | d + 1, i, h => by
    refine Ev.step (fun k => by rw [slices_Equal_int_int.l0]) ?_
    have e : wrap64 ((i : Int) + 1) = ((i + 1 : Nat) : Int) := by rw [w64 (by omega)]; omega
    simp only [e]
    refine Ev.pos (by omega) (Ev.pos (by omega) (Ev.pos (by omega) (Ev.pos (by omega) (Ev.ite (fun hc => Ev.to (Equal_l a b hn hl d (i + 1) (by omega)) ?_) (fun hc => Ev.val ?_)))))
    · rw [drop_step a i (by omega), drop_step b i (by omega)]
      have hc' : nth a i = nth b i := hc
      simp [hc']
    · rw [drop_step a i (by omega), drop_step b i (by omega)]
      have hc' : ¬ nth a i = nth b i := hc
      simp [hc']
theorem Equal_ev (a b : List Int) (hn : a.length ≤ 17592186044416) : Ev (fun k => slices_Equal_int_int.f k a b) (decide (a = b)) := by
  unfold slices_Equal_int_int.f
  by_cases hl : a.length = b.length
  · exact Ev.pos (by omega) (Ev.to (Equal_l a b hn hl a.length 0 (by omega)) (by simp))
  · refine Ev.neg (by omega) (Ev.val ?_)
    have : a ≠ b := fun e => hl (by rw [e])
    simp [this]

/-! two cuts -/
theorem runL_perm : ∀ (cs l : List Int), cutsOk (l.length : Int) cs = true → (runL l cs).Perm l
  | [], l, h => by
    have : l = [] := by
      simp only [cutsOk] at h
      exact List.eq_nil_of_length_eq_zero (by simpa using h)
    subst this
    exact List.Perm.refl _
  | c :: cs, l, h => by
    simp only [cutsOk, Bool.and_eq_true, decide_eq_true_eq] at h
    have ih := runL_perm cs (l.drop c.toNat) (by
      have e : (l.length : Int) - c = ((l.drop c.toNat).length : Int) := by rw [List.length_drop]; omega
      rw [← e]; exact h.2.2)
    rw [runL]
    exact ((List.reverse_perm _).append ih).trans (by rw [List.take_append_drop])
theorem runL_ord {l cs : List Int} (hl : isOrd l = true) (hc : isCuts (l.length : Int) cs = true) : isOrd (runL l cs) = true ∧ (runL l cs).length = l.length := by
  have hp := runL_perm cs l (by simp only [isCuts, Bool.and_eq_true] at hc; exact hc.2)
  have hn := isOrd_len hl
  have e := hp.length_eq
  exact ⟨isOrd_of (by omega) (by omega) (hp.nodup_iff.2 (isOrd_nodup hl)) (fun x hx => by rw [e]; exact isOrd_mem hl x (hp.mem_iff.1 hx)), e⟩
def cutsT (n : Nat) : List (List Int) := match impl_allCuts.f 300 (n : Int) with | some t => t | none => []
set_option maxRecDepth 100000 in
theorem cutsT_ : ∀ n ∈ [1, 2, 3, 4, 5, 6, 7], ((impl_allCuts.f 300 ((n : Nat) : Int) == some (cutsT n)) && (((cutsT n).length == 2 ^ (n - 1)) && ((List.range (2 ^ (n - 1))).all fun (k : Nat) => (spec_l6At.f 300 (n : Int) (k : Int) == some ((cutsT n).getD k [])) && isCuts (n : Int) ((cutsT n).getD k [])))) = true := by decide +kernel
theorem cutsT_at (n : Nat) (h1 : 1 ≤ n) (h7 : n ≤ 7) : impl_allCuts.f 300 (n : Int) = some (cutsT n) ∧ (cutsT n).length = 2 ^ (n - 1) ∧ ∀ k : Nat, k < (cutsT n).length → spec_l6At.f 300 (n : Int) (k : Int) = some ((cutsT n).getD k []) ∧ isCuts (n : Int) ((cutsT n).getD k []) = true := by
  have := cutsT_ n (by simp; omega)
  simp only [Bool.and_eq_true, beq_iff_eq, List.all_eq_true, List.mem_range] at this
  exact ⟨this.1, this.2.1, fun k hk => this.2.2 k (by rw [← this.2.1]; exact hk)⟩
theorem pow_le (n : Nat) (h7 : n ≤ 7) : 2 ^ (n - 1) ≤ 64 := by
  have : n = 0 ∨ n = 1 ∨ n = 2 ∨ n = 3 ∨ n = 4 ∨ n = 5 ∨ n = 6 ∨ n = 7 := by omega
  rcases this with rfl | rfl | rfl | rfl | rfl | rfl | rfl | rfl <;> decide
theorem shl_is (n : Nat) (h1 : 1 ≤ n) (h7 : n ≤ 7) : shl .i64 1 ((n - 1 : Nat) : Int) = ((2 ^ (n - 1) : Nat) : Int) := by
  have : n = 1 ∨ n = 2 ∨ n = 3 ∨ n = 4 ∨ n = 5 ∨ n = 6 ∨ n = 7 := by omega
  rcases this with rfl | rfl | rfl | rfl | rfl | rfl | rfl <;> decide +kernel
theorem getD_memL {xs : List (List Int)} {i : Nat} (h : i < xs.length) : xs.getD i [] ∈ xs := by
  rw [List.getD_eq_getElem?_getD, List.getElem?_eq_getElem h]; exact List.getElem_mem h
theorem drop_stepL (l : List (List Int)) (i : Nat) (h : i < l.length) : l.drop i = l.getD i [] :: l.drop (i + 1) := by
  rw [List.getD_eq_getElem?_getD, List.getElem?_eq_getElem h]; exact List.drop_eq_getElem_cons h
theorem rd_L1_natL (xs : List (List Int)) (i : Nat) : rd_L2 xs (i : Int) = xs.getD i [] := rfl
theorem isCuts_len {n : Int} {cs : List Int} (hn : n ≤ 7) (h : isCuts n cs = true) : cs.length ≤ 7 := by
  have : ∀ (cs : List Int) (n : Int), cutsOk n cs = true → (cs.length : Int) ≤ n := by
    intro cs
    induction cs with
    | nil => intro n h; simp [cutsOk] at h; simp [h]
    | cons c cs ih =>
      intro n h
      simp only [cutsOk, Bool.and_eq_true, decide_eq_true_eq] at h
      have := ih _ h.2.2
      simp only [List.length_cons]
      omega
  simp only [isCuts, Bool.and_eq_true] at h
  have := this cs n h.2
  omega
theorem l2WaysT (n : Nat) (h : n ≤ 7) : Ev (fun k => spec_l2Ways.f k (n : Int)) (facN n : Int) := by
  have : n = 0 ∨ n = 1 ∨ n = 2 ∨ n = 3 ∨ n = 4 ∨ n = 5 ∨ n = 6 ∨ n = 7 := by omega
  rcases this with rfl | rfl | rfl | rfl | rfl | rfl | rfl | rfl <;> exact Ev.of (fun k => spec_l2Ways.mono _ k) (k := 10) (by decide +kernel)
/-! ranks -/
def rkOk (l : List Int) : Bool := match spec_l2Rank.f 200 l with
  | some r => decide (0 ≤ r) && (decide (r < (facN l.length : Int)) && (atM l.length (marked 1 l.length) r.toNat == l))
  | none => false

set_option maxRecDepth 100000 in
set_option maxHeartbeats 100000000 in
theorem rk_all_6 : ∀ n ∈ [1, 2, 3, 4, 5, 6], allO (intsTo n) rkOk n [] = true := by decide +kernel
set_option maxRecDepth 100000 in
set_option maxHeartbeats 100000000 in
theorem rk_all_71 : allO (intsTo 7) rkOk 6 [1] = true := by decide +kernel
set_option maxRecDepth 100000 in
set_option maxHeartbeats 100000000 in
theorem rk_all_72 : allO (intsTo 7) rkOk 6 [2] = true := by decide +kernel
set_option maxRecDepth 100000 in
set_option maxHeartbeats 100000000 in
theorem rk_all_73 : allO (intsTo 7) rkOk 6 [3] = true := by decide +kernel
set_option maxRecDepth 100000 in
set_option maxHeartbeats 100000000 in
theorem rk_all_74 : allO (intsTo 7) rkOk 6 [4] = true := by decide +kernel
set_option maxRecDepth 100000 in
set_option maxHeartbeats 100000000 in
theorem rk_all_75 : allO (intsTo 7) rkOk 6 [5] = true := by decide +kernel
set_option maxRecDepth 100000 in
set_option maxHeartbeats 100000000 in
theorem rk_all_76 : allO (intsTo 7) rkOk 6 [6] = true := by decide +kernel
set_option maxRecDepth 100000 in
set_option maxHeartbeats 100000000 in
theorem rk_all_77 : allO (intsTo 7) rkOk 6 [7] = true := by decide +kernel
theorem rk_all : ∀ n ∈ [1, 2, 3, 4, 5, 6, 7], allO (intsTo n) rkOk n [] = true := by
  intro n hn
  by_cases h7 : n = 7
  · subst h7
    rw [allO]
    simp only [show intsTo 7 = [1, 2, 3, 4, 5, 6, 7] from rfl, List.all_cons, List.all_nil, List.contains_nil, Bool.false_or, Bool.and_true, Bool.and_eq_true]
    exact ⟨rk_all_71, rk_all_72, rk_all_73, rk_all_74, rk_all_75, rk_all_76, rk_all_77⟩
  · exact rk_all_6 n (by simp at hn ⊢; omega)

def rk (l : List Int) : Nat := ((spec_l2Rank.f 200 l).getD 0).toNat
theorem rk_is {l : List Int} (h : isOrd l = true) : spec_l2Rank.f 200 l = some (rk l : Int) ∧ rk l < facN l.length ∧ atM l.length (marked 1 l.length) (rk l) = l := by
  have hh := orders_all h _ rk_all
  unfold rkOk at hh
  cases e : spec_l2Rank.f 200 l with
  | none => rw [e] at hh; cases hh
  | some r =>
    rw [e] at hh
    simp only [Bool.and_eq_true, decide_eq_true_eq, beq_iff_eq] at hh
    have er : rk l = r.toNat := by rw [rk, e]; rfl
    rw [er]
    exact ⟨by rw [Int.toNat_of_nonneg hh.1], by omega, hh.2.2⟩
theorem rk_inj {l m : List Int} (hl : isOrd l = true) (hm : isOrd m = true) (e : l.length = m.length) (h : rk l = rk m) : l = m := by
  rw [← (rk_is hl).2.2, ← (rk_is hm).2.2, e, h]
/-! what comes out by two cuts -/
def outC (l c : List Int) (T : List (List Int)) : List (List Int) := T.map fun s => runL (runL l c) s
def outsC (l : List Int) (T U : List (List Int)) : List (List Int) := U.flatMap fun c => outC l c T
theorem outsC_cons (l : List Int) (T U : List (List Int)) (c : List Int) : outsC l T (c :: U) = outC l c T ++ outsC l T U := by
  rw [outsC, List.flatMap_cons]; rfl
theorem cutsT_mem {n : Nat} (h1 : 1 ≤ n) (h7 : n ≤ 7) {c : List Int} (hc : c ∈ cutsT n) : isCuts (n : Int) c = true := by
  obtain ⟨t1, t2, t3⟩ := cutsT_at n h1 h7
  obtain ⟨i, hi, e⟩ := List.mem_iff_getElem.1 hc
  have h5 := (t3 i hi).2
  rw [List.getD_eq_getElem?_getD, List.getElem?_eq_getElem hi, Option.getD_some, e] at h5
  exact h5
theorem outsC_ord {l : List Int} (hl : isOrd l = true) (U : List (List Int)) (hU : ∀ c ∈ U, c ∈ cutsT l.length) (x : List Int) (hx : x ∈ outsC l (cutsT l.length) U) : isOrd x = true ∧ x.length = l.length := by
  have hn := isOrd_len hl
  obtain ⟨c, hc, hx⟩ := List.mem_flatMap.1 hx
  obtain ⟨s, hs, rfl⟩ := List.mem_map.1 hx
  have h1 := runL_ord hl (cutsT_mem hn.1 hn.2 (hU c hc))
  have h2 := runL_ord h1.1 (by rw [h1.2]; exact cutsT_mem hn.1 hn.2 hs)
  exact ⟨h2.1, h2.2.trans h1.2⟩
theorem outsC_len (l : List Int) (T : List (List Int)) (m : Nat) (hT : T.length ≤ m) : ∀ U : List (List Int), (outsC l T U).length ≤ m * U.length
  | [] => by simp [outsC]
  | c :: U => by
    have := outsC_len l T m hT U
    rw [outsC_cons, List.length_append, outC, List.length_map, List.length_cons, Nat.mul_succ]
    omega
/-- as many as there are different ones: by whatever list without doubles -/
def isD (outs : List (List Int)) (D : Nat) : Prop := ∃ acc : List (List Int), acc.Nodup ∧ (∀ x, x ∈ acc ↔ x ∈ outs) ∧ D = acc.length
theorem isD_one {outs : List (List Int)} {D E : Nat} (h1 : isD outs D) (h2 : isD outs E) : D = E := by
  obtain ⟨a, na, ma, rfl⟩ := h1
  obtain ⟨b, nb, mb, rfl⟩ := h2
  exact ((List.perm_ext_iff_of_nodup na nb).2 fun x => (ma x).trans (mb x).symm).length_eq
/-! the reference: a mark for each rank -/
structure MarkI (n : Nat) (seen : List Bool) (many : Int) (acc : List (List Int)) (B : Nat) : Prop where
  len : seen.length = facN n
  nd : acc.Nodup
  cnt : many = (acc.length : Int)
  bd : acc.length ≤ B
  ord : ∀ x ∈ acc, isOrd x = true ∧ x.length = n
  iff : ∀ o : List Int, isOrd o = true → o.length = n → (seen.getD (rk o) false = true ↔ o ∈ acc)
theorem MarkI.step {n : Nat} {seen : List Bool} {many : Int} {acc : List (List Int)} {B : Nat} (h : MarkI n seen many acc B) (o : List Int) (ho : isOrd o = true) (hl : o.length = n) (hB : B ≤ 100000) (hs : ¬ seen.getD (rk o) false = true) :
    MarkI n (seen.set (rk o) true) (wrap64 (many + 1)) (acc ++ [o]) (B + 1) := by
  have hno : o ∉ acc := fun hm => hs ((h.iff o ho hl).2 hm)
  have hb := h.bd
  have hr := (rk_is ho).2.1
  rw [hl, ← h.len] at hr
  refine ⟨by rw [List.length_set]; exact h.len, ?_, by rw [h.cnt, wup _ (by omega), List.length_append]; rfl, by rw [List.length_append, List.length_singleton]; omega, ?_, ?_⟩
  · rw [List.nodup_append]
    refine ⟨h.nd, by simp, fun a ha b hb e => ?_⟩
    rw [List.mem_singleton] at hb
    subst hb; subst e; exact hno ha
  · intro x hx
    rcases List.mem_append.1 hx with hx | hx
    · exact h.ord x hx
    · rw [List.mem_singleton.1 hx]; exact ⟨ho, hl⟩
  · intro q hq hql
    rw [List.mem_append, List.mem_singleton, ← h.iff q hq hql, List.getD_eq_getElem?_getD, List.getD_eq_getElem?_getD]
    by_cases e : rk o = rk q
    · have : o = q := rk_inj ho hq (by omega) e
      subst this
      rw [List.getElem?_set_self hr]
      simp
    · rw [List.getElem?_set_ne e]
      constructor
      · exact .inl
      · rintro (h1 | h1)
        · exact h1
        · subst h1; exact absurd rfl e
theorem specC_in {l m : List Int} (hl : isOrd l = true) (hm : isOrd m = true) (hml : m.length = l.length) (i : Nat) (hi : i < (cutsT l.length).length) (R : Int × Bool) : ∀ (d j : Nat) (seen : List Bool) (many : Int) (acc : List (List Int)), (cutsT l.length).length = j + d → MarkI l.length seen many acc (64 * i + j) →
    (∀ seen' many' acc', MarkI l.length seen' many' acc' (64 * (i + 1)) → (∀ x, x ∈ acc' ↔ x ∈ acc ∨ x ∈ ((cutsT l.length).drop j).map (runL m)) → Ev (fun k => spec_CountTwoCuts.l0 k l seen' many' (l.length : Int) ((i + 1 : Nat) : Int)) R) →
      Ev (fun k => spec_CountTwoCuts.l1 k l seen many (l.length : Int) (i : Int) m (j : Int)) R
  | 0, j, seen, many, acc, h, hI, hR => by
    have hn := isOrd_len hl
    obtain ⟨t1, t2, t3⟩ := cutsT_at l.length hn.1 hn.2
    have hp := pow_le l.length hn.2
    rw [← t2] at hp
    refine Ev.step (fun k => by rw [spec_CountTwoCuts.l1]) ?_
    have e := shl_is l.length hn.1 hn.2
    rw [← t2] at e
    simp only [wdn l.length (by omega) (by omega), e, wup i (by omega)]
    clear e t2
    refine Ev.pos (by omega) ?_
    refine Ev.neg (by omega) ?_
    refine hR seen many acc { hI with bd := by have := hI.bd; omega } fun x => ?_
    rw [List.drop_of_length_le (by omega)]
    simp
  | d + 1, j, seen, many, acc, h, hI, hR => by
    have hn := isOrd_len hl
    obtain ⟨t1, t2, t3⟩ := cutsT_at l.length hn.1 hn.2
    have hp := pow_le l.length hn.2
    obtain ⟨t4, t5⟩ := t3 j (by omega)
    have ho := runL_ord hm (by rw [hml]; exact t5)
    have hol : (runL m ((cutsT l.length).getD j [])).length = l.length := ho.2.trans hml
    have hrk := rk_is ho.1
    rw [hol, ← hI.len] at hrk
    rw [← t2] at hp
    refine Ev.step (fun k => by rw [spec_CountTwoCuts.l1]) ?_
    have e := shl_is l.length hn.1 hn.2
    rw [← t2] at e
    simp only [wdn l.length (by omega) (by omega), e, wup j (by omega)]
    clear e t2
    refine Ev.pos (by omega) ?_
    refine Ev.pos (by omega) ?_
    refine Ev.bind (Ev.of (fun k => spec_l6At.mono _ _ k) t4) ?_
    refine Ev.bind (l6Run_ev m _ (by omega) (by rw [hml]; exact t5)) ?_
    refine Ev.bind (Ev.of (fun k => spec_l2Rank.mono _ k) hrk.1) ?_
    refine Ev.pos (by omega) ?_
    refine Ev.pos (by omega) ?_
    have hdrop : (cutsT l.length).drop j = (cutsT l.length).getD j [] :: (cutsT l.length).drop (j + 1) := drop_stepL _ j (by omega)
    refine Ev.ite (fun hc => ?_) (fun hc => ?_)
    · have hin : runL m ((cutsT l.length).getD j []) ∈ acc := (hI.iff _ ho.1 hol).1 hc
      refine specC_in hl hm hml i hi R d (j + 1) seen many acc (by omega) { hI with bd := by have := hI.bd; omega } fun s' m' a' hI' hx => hR s' m' a' hI' fun x => ?_
      rw [hx x, hdrop, List.map_cons, List.mem_cons]
      constructor
      · rintro (h1 | h1)
        · exact .inl h1
        · exact .inr (.inr h1)
      · rintro (h1 | h1 | h1)
        · exact .inl h1
        · rw [h1]; exact .inl hin
        · exact .inr h1
    · have hS := hI.step _ ho.1 hol (by omega) hc
      rw [Int.toNat_natCast]
      refine specC_in hl hm hml i hi R d (j + 1) _ _ _ (by omega) hS fun s' m' a' hI' hx => hR s' m' a' hI' fun x => ?_
      rw [hx x, hdrop, List.map_cons, List.mem_cons, List.mem_append, List.mem_singleton, or_assoc]
theorem specC_out {l : List Int} (hl : isOrd l = true) (D : Nat) : ∀ (d i : Nat) (seen : List Bool) (many : Int) (acc : List (List Int)), (cutsT l.length).length = i + d → MarkI l.length seen many acc (64 * i) →
    (∀ acc' : List (List Int), acc'.Nodup → (∀ x, x ∈ acc' ↔ x ∈ acc ∨ x ∈ outsC l (cutsT l.length) ((cutsT l.length).drop i)) → acc'.length = D) →
      Ev (fun k => spec_CountTwoCuts.l0 k l seen many (l.length : Int) (i : Int)) ((D : Int), true)
  | 0, i, seen, many, acc, h, hI, hD => by
    have hn := isOrd_len hl
    obtain ⟨t1, t2, t3⟩ := cutsT_at l.length hn.1 hn.2
    refine Ev.step (fun k => by rw [spec_CountTwoCuts.l0]) ?_
    have e := shl_is l.length hn.1 hn.2
    rw [← t2] at e
    simp only [wdn l.length (by omega) (by omega), e]
    clear e t2
    refine Ev.pos (by omega) ?_
    refine Ev.neg (by omega) (Ev.val ?_)
    rw [hI.cnt, hD acc hI.nd fun x => by rw [List.drop_of_length_le (by omega)]; simp [outsC]]
  | d + 1, i, seen, many, acc, h, hI, hD => by
    have hn := isOrd_len hl
    obtain ⟨t1, t2, t3⟩ := cutsT_at l.length hn.1 hn.2
    obtain ⟨t4, t5⟩ := t3 i (by omega)
    have ho := runL_ord hl t5
    refine Ev.step (fun k => by rw [spec_CountTwoCuts.l0]) ?_
    have e := shl_is l.length hn.1 hn.2
    rw [← t2] at e
    simp only [wdn l.length (by omega) (by omega), e]
    clear e t2
    refine Ev.pos (by omega) ?_
    refine Ev.pos (by omega) ?_
    refine Ev.bind (Ev.of (fun k => spec_l6At.mono _ _ k) t4) ?_
    refine Ev.bind (l6Run_ev l _ (by omega) t5) ?_
    refine specC_in hl ho.1 ho.2 i (by omega) _ (cutsT l.length).length 0 seen many acc (by omega) hI fun s' m' a' hI' hx => ?_
    refine specC_out hl D d (i + 1) s' m' a' (by omega) hI' fun acc' hn' hx' => hD acc' hn' fun x => ?_
    rw [hx' x, hx x, drop_stepL _ i (by omega), outsC_cons, List.mem_append, List.drop_zero, or_assoc]
    rfl
theorem isD_some (outs : List (List Int)) : ∃ D, isD outs D := by
  induction outs with
  | nil => exact ⟨0, [], by simp, by simp, rfl⟩
  | cons x t ih =>
    obtain ⟨D, acc, h1, h2, h3⟩ := ih
    by_cases hx : x ∈ acc
    · refine ⟨D, acc, h1, fun y => ?_, h3⟩
      rw [h2 y, List.mem_cons]
      constructor
      · exact .inr
      · rintro (rfl | h)
        · exact (h2 _).1 hx
        · exact h
    · refine ⟨acc.length + 1, x :: acc, List.nodup_cons.2 ⟨hx, h1⟩, fun y => ?_, rfl⟩
      rw [List.mem_cons, List.mem_cons, h2 y]
/-! the program: sorted, then each once -/
theorem cmpCompareC (a b : Int) : cmp_Compare_int.f a b = some (if a < b then -1 else if a > b then 1 else 0) := by
  unfold cmp_Compare_int.f cmp_isNaN_int.f
  simp
  split
  · rfl
  · split <;> rfl
theorem CompareC_l (a b : List Int) (hab : a.length = b.length) (hn : a.length ≤ 1000) : ∀ d i : Nat, a.length = i + d → Ev (fun k => slices_Compare_int_int.l0 k a b a (a.length : Int) (i : Int)) (cmpL (a.drop i) (b.drop i))
  | 0, i, h => by
    refine Ev.step (fun k => by rw [slices_Compare_int_int.l0]) (Ev.neg (by omega) (Ev.neg (by omega) (Ev.val ?_)))
    rw [List.drop_eq_nil_of_le (by omega)]; simp [cmpL]
  | d + 1, i, h => by
    have e : wrap64 ((i : Int) + 1) = ((i + 1 : Nat) : Int) := by rw [w64 (by omega)]; omega
    refine Ev.step (fun k => by rw [slices_Compare_int_int.l0]) ?_
    simp only [e, rd_nat, cmpCompareC, Option.bind_some]
    rw [drop_step a i (by omega), drop_step b i (by omega), cmpL]
    refine Ev.pos (by omega) (Ev.pos (by omega) (Ev.pos (by omega) (Ev.neg (by omega) (Ev.pos (by omega) ?_))))
    by_cases c : nth a i = nth b i
    · rw [if_pos c]
      exact Ev.pos (by rw [if_neg (by omega), if_neg (by omega)]) (CompareC_l a b hab hn d (i + 1) (by omega))
    · rw [if_neg c]
      by_cases c2 : nth a i < nth b i
      · rw [if_pos c2]; exact Ev.neg (by decide) (Ev.val (by rw [if_pos c2]))
      · rw [if_neg c2, if_pos (show nth a i > nth b i by omega)]; exact Ev.neg (by decide) (Ev.val (by rw [if_neg c2]))
theorem compareOrders_ev (a b : List Int) (hab : a.length = b.length) (hn : a.length ≤ 1000) : Ev (fun k => impl_compareOrders.f k a b) (cmpO a b) := by
  unfold impl_compareOrders.f
  rw [cmpO, if_pos hab]
  refine Ev.pos (by omega) (Ev.bind (a := cmpL a b) ?_ (Ev.val rfl))
  unfold slices_Compare_int_int.f
  exact CompareC_l a b hab hn a.length 0 (by omega)
theorem evAllC {g : Nat → List Int → Prop} : ∀ qs : List (List Int), (∀ q ∈ qs, ∃ K, ∀ k, K ≤ k → g k q) → ∃ K, ∀ k, K ≤ k → ∀ q ∈ qs, g k q
  | [], _ => ⟨0, fun _ _ q hq => by cases hq⟩
  | q :: qs, h => by
    obtain ⟨K, hK⟩ := h q (by simp)
    obtain ⟨L, hL⟩ := evAllC qs fun x hx => h x (by simp [hx])
    refine ⟨K + L, fun k hk x hx => ?_⟩
    rcases List.mem_cons.1 hx with rfl | hx
    · exact hK k (by omega)
    · exact hL k (by omega) x hx
theorem tidied_ev (l : List (List Int)) (h0 : 0 < l.length) (h1 : l.length ≤ 1000000) (n : Nat) (hn : n ≤ 1000) (hl : ∀ x ∈ l, x.length = n) : Ev (fun k => impl_tidied.f k l) (compL (sortL l)) := by
  obtain ⟨K, hK⟩ := evAllC (g := fun k x => ∀ y ∈ l, impl_compareOrders.f k x y = some (cmpO x y) ∧ slices_Equal_int_int.f k x y = some (decide (x = y))) l fun x hx => by
    refine evAllC (g := fun k y => impl_compareOrders.f k x y = some (cmpO x y) ∧ slices_Equal_int_int.f k x y = some (decide (x = y))) l fun y hy => ?_
    have e1 := hl x hx
    have e2 := hl y hy
    obtain ⟨K1, g1⟩ := compareOrders_ev x y (by omega) (by omega)
    obtain ⟨K2, g2⟩ := Equal_ev x y (by omega)
    exact ⟨K1 + K2, fun k hk => ⟨g1 k (by omega), g2 k (by omega)⟩⟩
  refine ⟨K, fun k hk => ?_⟩
  simp only [impl_tidied.f]
  rw [if_pos ⟨h0, h1, (tidyOk_iff _ _).2 fun x hx y hy => hK k hk x hx y hy⟩]
theorem cK_pair (L : List (List Int)) : (cK L L.length).Pairwise (· < ·) := (List.pairwise_lt_range).filter _
theorem getD_at {xs : List (List Int)} {i : Nat} (h : i < xs.length) : xs.getD i [] = xs[i] := by
  rw [List.getD_eq_getElem?_getD, List.getElem?_eq_getElem h]; rfl
theorem cK_find (L : List (List Int)) : ∀ j, j < L.length → ∃ i ∈ cK L L.length, L.getD i [] = L.getD j []
  | 0, h => ⟨0, List.mem_filter.2 ⟨List.mem_range.2 h, rfl⟩, rfl⟩
  | j + 1, h => by
    by_cases hk : cKeep L (j + 1) = true
    · exact ⟨j + 1, List.mem_filter.2 ⟨List.mem_range.2 h, hk⟩, rfl⟩
    · obtain ⟨i, h1, h2⟩ := cK_find L j (by omega)
      refine ⟨i, h1, h2.trans ?_⟩
      simp [cKeep] at hk
      simpa using hk.symm
theorem compL_isD (l : List (List Int)) : isD l (compL (sortL l)).length := by
  have hs : (sortL l).Pairwise fun x y => leO x y = true := List.pairwise_mergeSort leO_trans leO_total l
  have hp := sortL_perm l
  generalize sortL l = L at hs hp ⊢
  refine ⟨compL L, ?_, fun x => ?_, rfl⟩
  · unfold compL
    refine List.pairwise_map.2 ((cK_pair L).imp_of_mem fun {i j} hi hj hij e => ?_)
    have hi' := cK_lt hi
    have hj' := cK_lt hj
    have hkj := (List.mem_filter.1 hj).2
    have hne : L.getD j [] ≠ L.getD (j - 1) [] := by
      intro h
      simp only [cKeep, h] at hkj
      simp at hkj
      omega
    rw [List.pairwise_iff_getElem] at hs
    rw [getD_at hi', getD_at hj'] at e
    rw [getD_at hj', getD_at (show j - 1 < L.length by omega)] at hne
    by_cases h1 : i = j - 1
    · subst h1; exact hne e.symm
    · have a1 := hs i (j - 1) hi' (by omega) (by omega)
      have a2 := hs (j - 1) j (by omega) hj' (by omega)
      rw [← e] at a2 hne
      exact hne (leO_anti _ _ a1 a2)
  · rw [← hp.mem_iff, compL, List.mem_map]
    constructor
    · rintro ⟨i, hi, rfl⟩
      have := cK_lt hi
      rw [getD_at this]; exact List.getElem_mem this
    · intro hx
      obtain ⟨j, hj, rfl⟩ := List.mem_iff_getElem.1 hx
      obtain ⟨i, h1, h2⟩ := cK_find L j hj
      exact ⟨i, h1, by rw [h2, getD_at hj]⟩
theorem implC_in {l c : List Int} (hl : isOrd l = true) (hc : c ∈ cutsT l.length) (i : Nat) (hi : i < (cutsT l.length).length) (R : Int × Bool) : ∀ (d j : Nat) (acc : List (List Int)), (cutsT l.length).length = j + d → acc.length ≤ 64 * i + j →
    Ev (fun k => impl_CountTwoCuts.l0 k l (acc ++ outC l c ((cutsT l.length).drop j)) (cutsT l.length) (cutsT l.length) ((cutsT l.length).length : Int) ((i + 1 : Nat) : Int)) R →
      Ev (fun k => impl_CountTwoCuts.l1 k l acc (cutsT l.length) c (cutsT l.length) ((cutsT l.length).length : Int) (i : Int) (cutsT l.length) ((cutsT l.length).length : Int) (j : Int)) R
  | 0, j, acc, h, hb, hR => by
    have hn := isOrd_len hl
    have hp := pow_le l.length hn.2
    obtain ⟨t1, t2, t3⟩ := cutsT_at l.length hn.1 hn.2
    rw [← t2] at hp
    clear t2
    refine Ev.step (fun k => by rw [impl_CountTwoCuts.l1]) ?_
    simp only [wup i (by omega)]
    refine Ev.neg (by omega) ?_
    rw [List.drop_of_length_le (by omega)] at hR
    simpa [outC] using hR
  | d + 1, j, acc, h, hb, hR => by
    have hn := isOrd_len hl
    have hp := pow_le l.length hn.2
    obtain ⟨t1, t2, t3⟩ := cutsT_at l.length hn.1 hn.2
    obtain ⟨t4, t5⟩ := t3 j (by omega)
    have t6 := cutsT_mem hn.1 hn.2 hc
    have ho := runL_ord hl t6
    rw [← t2] at hp
    clear t2
    refine Ev.step (fun k => by rw [impl_CountTwoCuts.l1]) ?_
    simp only [wup j (by omega), rd_L1_natL]
    refine Ev.pos (by omega) ?_
    refine Ev.pos (by omega) ?_
    refine Ev.pos (by omega) ?_
    refine Ev.bind (runCuts_ev l _ (by omega) t6) ?_
    refine Ev.bind (runCuts_ev _ _ (by omega) (by rw [ho.2]; exact t5)) ?_
    refine Ev.pos (by omega) ?_
    refine implC_in hl hc i hi R d (j + 1) _ (by omega) (by rw [List.length_append, List.length_singleton]; omega) ?_
    rw [drop_stepL _ j (by omega), outC, List.map_cons] at hR
    rw [List.append_assoc]
    exact hR
theorem implC_out {l : List Int} (hl : isOrd l = true) (R : Int × Bool) : ∀ (d i : Nat) (acc : List (List Int)), (cutsT l.length).length = i + d → acc.length ≤ 64 * i →
    (∀ r, Ev (fun k => impl_tidied.f k (acc ++ outsC l (cutsT l.length) ((cutsT l.length).drop i))) r → R = ((r.length : Int), true)) → (∃ r, Ev (fun k => impl_tidied.f k (acc ++ outsC l (cutsT l.length) ((cutsT l.length).drop i))) r) →
      Ev (fun k => impl_CountTwoCuts.l0 k l acc (cutsT l.length) (cutsT l.length) ((cutsT l.length).length : Int) (i : Int)) R
  | 0, i, acc, h, hb, hR, hE => by
    obtain ⟨r, hr⟩ := hE
    have e := hR r hr
    rw [List.drop_of_length_le (by omega), outsC, List.flatMap_nil, List.append_nil] at hr
    refine Ev.step (fun k => by rw [impl_CountTwoCuts.l0]) ?_
    refine Ev.neg (by omega) ?_
    exact Ev.bind hr (Ev.val e.symm)
  | d + 1, i, acc, h, hb, hR, hE => by
    have hn := isOrd_len hl
    have hp := pow_le l.length hn.2
    obtain ⟨t1, t2, t3⟩ := cutsT_at l.length hn.1 hn.2
    rw [← t2] at hp
    clear t2
    rw [drop_stepL _ i (by omega), outsC_cons, ← List.append_assoc] at hR hE
    refine Ev.step (fun k => by rw [impl_CountTwoCuts.l0]) ?_
    simp only [rd_L1_natL]
    refine Ev.pos (by omega) ?_
    refine Ev.pos (by omega) ?_
    refine Ev.pos (by omega) ?_
    refine implC_in hl (getD_memL (by omega)) i (by omega) R (cutsT l.length).length 0 acc (by omega) hb ?_
    refine implC_out hl R d (i + 1) _ (by omega) ?_ hR hE
    rw [List.length_append, outC, List.length_map, List.length_drop]
    omega
theorem ev_one {α : Type} {g : Nat → Option α} {a b : α} (h1 : Ev g a) (h2 : Ev g b) : a = b := by
  obtain ⟨K, h1⟩ := h1
  obtain ⟨L, h2⟩ := h2
  exact Option.some.inj ((h1 (K + L) (by omega)).symm.trans (h2 (K + L) (by omega)))
def resC (l : List Int) : Int × Bool := if isOrd l = true then (((compL (sortL (outsC l (cutsT l.length) (cutsT l.length)))).length : Int), true) else (0, false)
theorem specCountTwoCuts_ev (l : List Int) (hn : l.length ≤ 17592186044415) : Ev (fun k => spec_CountTwoCuts.f k l) (resC l) := by
  unfold spec_CountTwoCuts.f resC
  refine Ev.bind (l2Order_ev l (by omega)) (Ev.ite (fun hc => ?_) (fun hc => Ev.val ?_))
  · rw [if_pos hc]
    have h7 := isOrd_len hc
    have hf := facN_le l.length
    refine Ev.bind (l2WaysT l.length h7.2) ?_
    refine Ev.pos (by omega) ?_
    refine Ev.pos (by omega) ?_
    rw [Int.toNat_natCast]
    refine specC_out hc _ (cutsT l.length).length 0 _ 0 [] (by omega) ⟨by rw [List.length_replicate], List.nodup_nil, rfl, Nat.le_refl _, fun x hx => (by cases hx), fun o _ _ => ?_⟩ fun acc' hn' hx' => ?_
    · rw [List.getD_eq_getElem?_getD, List.getElem?_replicate]
      constructor
      · intro h; split at h <;> cases h
      · intro h; cases h
    · refine isD_one ⟨acc', hn', fun x => ?_, rfl⟩ (compL_isD _)
      rw [hx' x, List.drop_zero]
      simp
  · rw [if_neg hc]
theorem implCountTwoCuts_ev (l : List Int) (hn : l.length ≤ 17592186044415) : Ev (fun k => impl_CountTwoCuts.f k l) (resC l) := by
  unfold impl_CountTwoCuts.f resC
  refine Ev.bind (isOrder_ev l (by omega)) (Ev.ite (fun hc => ?_) (fun hc => Ev.val ?_))
  · rw [if_pos hc]
    have h7 := isOrd_len hc
    have hp := pow_le l.length h7.2
    obtain ⟨t1, t2, t3⟩ := cutsT_at l.length h7.1 h7.2
    have hpos : 0 < (cutsT l.length).length := by rw [t2]; exact Nat.two_pow_pos _
    rw [← t2] at hp
    refine Ev.bind (Ev.of (fun k => impl_allCuts.mono _ k) t1) ?_
    have hlen := outsC_len l (cutsT l.length) 64 hp (cutsT l.length)
    have hT := tidied_ev (outsC l (cutsT l.length) (cutsT l.length)) (by
      obtain ⟨c, U, hU⟩ : ∃ c U, cutsT l.length = c :: U := by
        cases h : cutsT l.length with
        | nil => rw [h] at hpos; simp at hpos
        | cons c U => exact ⟨c, U, rfl⟩
      have h2 : outsC l (cutsT l.length) (c :: U) = outC l c (cutsT l.length) ++ outsC l (cutsT l.length) U := outsC_cons _ _ _ _
      rw [← hU] at h2
      rw [h2, List.length_append, outC, List.length_map]
      omega) (by omega) l.length (by omega) (fun x hx => (outsC_ord hc _ (fun c hc => hc) x hx).2)
    refine implC_out hc _ (cutsT l.length).length 0 [] (by omega) (by simp) (fun r hr => ?_) ⟨_, by rw [List.nil_append, List.drop_zero]; exact hT⟩
    rw [List.nil_append, List.drop_zero] at hr
    rw [ev_one hr hT]
  · rw [if_neg hc]

/-! one number or bool out of an order: both sides come to the same -/
theorem FnExactCountTwoCuts : laws_FnExactCountTwoCuts.Pure := by
  intro l hm hr hw
  refine Ev.rounds (?_ : Ev (fun k => laws_FnExactCountTwoCuts.f k l) true)
  unfold laws_FnExactCountTwoCuts.f
  refine Ev.ite (fun _ => Ev.val rfl) (fun hc => ?_)
  refine Ev.bind (toIntS_ev l (by omega)) ?_
  refine Ev.bind (specCountTwoCuts_ev l (by omega)) ?_
  refine Ev.bind (toIntS_ev l (by omega)) ?_
  refine Ev.bind (implCountTwoCuts_ev l (by omega)) ?_
  refine Ev.pos (by simp) ?_
  refine Ev.step (fun k => by rw [laws_FnExactCountTwoCuts.j0]) ?_
  refine Ev.neg (by simp) ?_
  refine Ev.bind (toIntS_ev l (by omega)) ?_
  exact Ev.bind (eqIntS_ev l l (by omega)) (Ev.pos (by simp) (Ev.val rfl))

end Go.Proofs.Ytgmhehgjmlokdaa.Pure
