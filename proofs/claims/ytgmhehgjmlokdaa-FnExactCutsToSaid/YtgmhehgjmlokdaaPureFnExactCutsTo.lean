/- The program's CutsTo returns what the reference's returns, for all arguments, in memory of its own. -/
import Derived.Test.YtgmhehgjmlokdaaPFnExactCutsTox8
import Derived.Test.YtgmhehgjmlokdaaK
set_option linter.unusedVariables false
set_option linter.unusedSimpArgs false
namespace Go.Proofs.Ytgmhehgjmlokdaa.Pure
open Go.RowKit Go.Proofs.Ytgmhehgjmlokdaa.PFnExactCutsTo Go.Proofs.YtgmhehgjmlokdaaW.PrintWords Go.Proofs.YtgmhehgjmlokdaaW.PrintLast Go.Proofs.YtgmhehgjmlokdaaW.PrintMore

theorem toIntS_l (x0 : List Int) (hn : x0.length ≤ 17592186044416) : ∀ (d i : Nat) (x3 : List Int), x3.length = x0.length → x3.take i = x0.take i → x0.length = i + d → Ev (fun k => laws_toIntS.l0 k x0 x3 i) x0
  | 0, i, x3, h1, h2, h3 => by
    refine Ev.step (fun k => by rw [laws_toIntS.l0]) ?_
    refine Ev.neg (by omega) (Ev.val ?_)
    rw [List.take_of_length_le (by omega), List.take_of_length_le (by omega)] at h2
    exact h2
  | d + 1, i, x3, h1, h2, h3 => by
    refine Ev.step (fun k => by rw [laws_toIntS.l0]) ?_
    refine Ev.pos (by omega) (Ev.pos (by omega) (Ev.pos (by omega) ?_))
    have e : wrap64 ((i : Int) + 1) = ((i + 1 : Nat) : Int) := by rw [w64 (by omega)]; omega
    simp only [e, Int.toNat_natCast]
    exact toIntS_l x0 hn d (i + 1) _ (by simpa using h1) (by rw [take_set_succ _ _ _ (by omega), h2, take_step _ _ (by omega), rd_nat]) (by omega)
theorem toIntS_ev (l : List Int) (hn : l.length ≤ 17592186044416) : Ev (fun k => laws_toIntS.f k l) l := by
  unfold laws_toIntS.f
  refine Ev.pos (by omega) (Ev.pos (by omega) ?_)
  exact toIntS_l l hn l.length 0 _ (by simp) (by simp) (by omega)

theorem eqIntS_l (a b : List Int) (hn : a.length ≤ 17592186044416) (hl : a.length = b.length) : ∀ (d i : Nat), a.length = i + d → Ev (fun k => laws_eqIntS.l0 k a b i) (decide (a.drop i = b.drop i))
  | 0, i, h => by
    refine Ev.step (fun k => by rw [laws_eqIntS.l0]) ?_
    refine Ev.neg (by omega) (Ev.val ?_)
    rw [List.drop_of_length_le (by omega), List.drop_of_length_le (by omega)]
    simp
  | d + 1, i, h => by
    refine Ev.step (fun k => by rw [laws_eqIntS.l0]) ?_
    refine Ev.pos (by omega) (Ev.pos (by omega) (Ev.pos (by omega) ?_))
    have e : wrap64 ((i : Int) + 1) = ((i + 1 : Nat) : Int) := by rw [w64 (by omega)]; omega
    simp only [e]
    rw [drop_step a i (by omega), drop_step b i (by omega)]
    refine Ev.ite (fun hc => ?_) (fun hc => Ev.val ?_)
    · have hc' : nth a i = nth b i := hc
      refine (eqIntS_l a b hn hl d (i + 1) (by omega)).to ?_
      rw [hc']
      simp
    · have hc' : ¬ nth a i = nth b i := hc
      simp [hc']
theorem eqIntS_ev (a b : List Int) (hn : a.length ≤ 17592186044416) : Ev (fun k => laws_eqIntS.f k a b) (decide (a = b)) := by
  unfold laws_eqIntS.f
  refine Ev.ite (fun hc => ?_) (fun hc => Ev.val ?_)
  · exact (eqIntS_l a b hn (by omega) a.length 0 (by omega)).to (by simp)
  · have : ¬ a = b := fun h => hc (by rw [h])
    simp [this]

theorem markIntS_l : ∀ (d i : Nat) (x0 : List Int) (x1 : Int), x0.length = i + d → x0.length ≤ 17592186044416 → -1000000000000000000 ≤ x1 → x1 + d ≤ 1000000000000000000 → Ev (fun k => laws_markIntS.l0 k x0 x1 i) (x1 + d, x0.take i ++ marked x1 d)
  | 0, i, x0, x1, h, hn, h1, h2 => by
    refine Ev.step (fun k => by rw [laws_markIntS.l0]) ?_
    refine Ev.neg (by omega) (Ev.val ?_)
    rw [List.take_of_length_le (by omega)]
    simp [marked]
  | d + 1, i, x0, x1, h, hn, h1, h2 => by
    refine Ev.step (fun k => by rw [laws_markIntS.l0]) ?_
    refine Ev.pos (by omega) (Ev.pos (by omega) ?_)
    have e : wrap64 ((i : Int) + 1) = ((i + 1 : Nat) : Int) := by rw [w64 (by omega)]; omega
    have e1 : wrap64 (x1 + 1) = x1 + 1 := w64 (by omega)
    simp only [e, e1, Int.toNat_natCast]
    refine (markIntS_l d (i + 1) (x0.set i x1) (x1 + 1) (by simpa using (by omega)) (by simpa using hn) (by omega) (by omega)).to ?_
    rw [take_set_succ _ _ _ (by omega)]
    simp [marked]
    omega
theorem markIntS_ev (l : List Int) (a : Int) (hn : l.length ≤ 17592186044416) (h1 : -1000000000000000 ≤ a) (h2 : a ≤ 1000000000000000) : Ev (fun k => laws_markIntS.f k l a) (a + l.length, marked a l.length) := by
  unfold laws_markIntS.f
  exact (markIntS_l l.length 0 l a (by omega) hn (by omega) (by omega)).to (by simp)

theorem heldIntS_l (n : Nat) (a : Int) (hn : n ≤ 17592186044416) (h1 : -1000000000000000 ≤ a) (h2 : a ≤ 1000000000000000) : ∀ (d i : Nat), n = i + d → Ev (fun k => laws_heldIntS.l0 k (marked a n) (a + i) i) (a + n)
  | 0, i, h => by
    refine Ev.step (fun k => by rw [laws_heldIntS.l0]) ?_
    refine Ev.neg (by rw [marked_length]; omega) (Ev.val ?_)
    omega
  | d + 1, i, h => by
    refine Ev.step (fun k => by rw [laws_heldIntS.l0]) ?_
    refine Ev.pos (by rw [marked_length]; omega) (Ev.pos (by omega) (Ev.pos (by rw [rd_nat, marked_nth n a i (by omega)]) ?_))
    have e : wrap64 ((i : Int) + 1) = ((i + 1 : Nat) : Int) := by rw [w64 (by omega)]; omega
    have e1 : wrap64 (a + i + 1) = a + ((i + 1 : Nat) : Int) := by rw [w64 (by omega)]; omega
    simp only [e, e1]
    exact heldIntS_l n a hn h1 h2 d (i + 1) (by omega)
theorem heldIntS_ev (n : Nat) (a : Int) (hn : n ≤ 17592186044416) (h1 : -1000000000000000 ≤ a) (h2 : a ≤ 1000000000000000) : Ev (fun k => laws_heldIntS.f k (marked a n) a) (a + n) := by
  unfold laws_heldIntS.f
  have := heldIntS_l n a hn h1 h2 n 0 (by omega)
  rw [show a + ((0 : Nat) : Int) = a by omega] at this
  exact this

theorem l1In_is (a b c : Int) : spec_l1In.f a b c = some (decide (b ≤ a ∧ a ≤ c)) := by
  unfold spec_l1In.f
  by_cases h : a ≥ b
  · rw [if_pos h]; simp [h]
  · rw [if_neg h]; simp; omega

theorem l1Has_l (l : List Int) (x : Int) (hn : l.length ≤ 17592186044416) : ∀ (d i : Nat), l.length = i + d → Ev (fun k => spec_l1Has.l0 k l x i) ((l.drop i).contains x)
  | 0, i, h => by
    refine Ev.step (fun k => by rw [spec_l1Has.l0]) ?_
    refine Ev.neg (by omega) (Ev.val ?_)
    rw [List.drop_of_length_le (by omega)]
    simp
  | d + 1, i, h => by
    refine Ev.step (fun k => by rw [spec_l1Has.l0]) ?_
    have e : wrap64 ((i : Int) + 1) = ((i + 1 : Nat) : Int) := by rw [w64 (by omega)]; omega
    simp only [e]
    rw [drop_step l i (by omega)]
    refine Ev.pos (by omega) (Ev.pos (by omega) (Ev.ite (fun hc => Ev.val ?_) (fun hc => ?_)))
    · have hc' : nth l i = x := hc
      rw [hc']; simp
    · have hc' : ¬ nth l i = x := hc
      refine (l1Has_l l x hn d (i + 1) (by omega)).to ?_
      have : ¬ x = nth l i := fun h => hc' h.symm
      rw [List.contains_cons]
      simp [this]
theorem l1Has_ev (l : List Int) (x : Int) (hn : l.length ≤ 17592186044416) : Ev (fun k => spec_l1Has.f k l x) (l.contains x) := by
  unfold spec_l1Has.f
  exact (l1Has_l l x hn l.length 0 (by omega)).to (by simp)

theorem l2Order_l (l : List Int) (hn : l.length ≤ 17592186044416) : ∀ (d i : Nat), l.length = i + d → Ev (fun k => spec_l2Order.l0 k l i) (allFrom (ordAt l) d i)
  | 0, i, h => by
    refine Ev.step (fun k => by rw [spec_l2Order.l0]) ?_
    exact Ev.neg (by omega) (Ev.val rfl)
  | d + 1, i, h => by
    refine Ev.step (fun k => by rw [spec_l2Order.l0]) ?_
    have e : wrap64 ((i : Int) + 1) = ((i + 1 : Nat) : Int) := by rw [w64 (by omega)]; omega
    simp only [e, l1In_is, Option.bind_some, rd_nat, Int.toNat_natCast, decide_eq_true_eq]
    refine Ev.pos (by omega) (Ev.pos (by omega) (Ev.ite (fun hc => Ev.pos (by omega) ?_) (fun hc => Ev.val ?_)))
    · refine Ev.bind (l1Has_ev _ _ (by simp; omega)) ?_
      refine Ev.ite (fun hb => Ev.val ?_) (fun hb => (l2Order_l l hn d (i + 1) (by omega)).to ?_)
      · rw [allFrom, ordAt, hb]; simp
      · rw [Bool.not_eq_true] at hb
        rw [allFrom, ordAt, hb]; simp [hc]
    · rw [allFrom, ordAt]
      by_cases h1 : 1 ≤ nth l i
      · have : ¬ nth l i ≤ l.length := fun h2 => hc ⟨h1, h2⟩
        simp [this]
      · simp [h1]
theorem l2Order_ev (l : List Int) (hn : l.length ≤ 17592186044416) : Ev (fun k => spec_l2Order.f k l) (isOrd l) := by
  unfold spec_l2Order.f
  simp only [l1In_is, Option.bind_some, decide_eq_true_eq]
  refine Ev.ite (fun hc => (l2Order_l l hn l.length 0 (by omega)).to ?_) (fun hc => Ev.val ?_)
  · have h1 : 1 ≤ l.length := by omega
    have h2 : l.length ≤ 7 := by omega
    simp [isOrd, h1, h2]
  · rw [isOrd]
    by_cases h1 : 1 ≤ l.length
    · have : ¬ l.length ≤ 7 := by omega
      simp [this]
    · simp [h1]

theorem Index_l (l : List Int) (x : Int) (hn : l.length ≤ 17592186044416) : ∀ (d i : Nat), l.length = i + d → (∀ j, j < i → nth l j ≠ x) → Ev (fun k => slices_Index_int_int.l0 k l x (l.length : Int) i) (idx l x)
  | 0, i, h, hq => by
    refine Ev.step (fun k => by rw [slices_Index_int_int.l0]) ?_
    refine Ev.neg (by omega) (Ev.val ?_)
    exact (idx_none l x fun j hj => hq j (by omega)).symm
  | d + 1, i, h, hq => by
    refine Ev.step (fun k => by rw [slices_Index_int_int.l0]) ?_
    have e : wrap64 ((i : Int) + 1) = ((i + 1 : Nat) : Int) := by rw [w64 (by omega)]; omega
    simp only [e]
    refine Ev.pos (by omega) (Ev.pos (by omega) (Ev.pos (by omega) (Ev.ite (fun hc => Ev.val ?_) (fun hc => ?_))))
    · exact (idx_some l x i (by omega) (by rw [hc]; rfl) hq).symm
    · refine Index_l l x hn d (i + 1) (by omega) (fun j hj => ?_)
      by_cases e : j = i
      · subst e; exact fun h => hc h.symm
      · exact hq j (by omega)
theorem Index_ev (l : List Int) (x : Int) (hn : l.length ≤ 17592186044416) : Ev (fun k => slices_Index_int_int.f k l x) (idx l x) := by
  unfold slices_Index_int_int.f
  exact Index_l l x hn l.length 0 (by omega) (fun j hj => by omega)

theorem Contains_ev (l : List Int) (x : Int) (hn : l.length ≤ 17592186044416) : Ev (fun k => slices_Contains_int_int.f k l x) (l.contains x) := by
  unfold slices_Contains_int_int.f
  exact Ev.bind (Index_ev l x hn) (Ev.val (idx_contains l x))

theorem isOrder_l (l : List Int) (hn : l.length ≤ 17592186044416) : ∀ (d i : Nat), l.length = i + d → Ev (fun k => impl_isOrder.l0 k l l (l.length : Int) i) (allFrom (ordAt l) d i)
  | 0, i, h => by
    refine Ev.step (fun k => by rw [impl_isOrder.l0]) ?_
    exact Ev.neg (by omega) (Ev.val rfl)
  | d + 1, i, h => by
    refine Ev.step (fun k => by rw [impl_isOrder.l0]) ?_
    have e : wrap64 ((i : Int) + 1) = ((i + 1 : Nat) : Int) := by rw [w64 (by omega)]; omega
    simp only [e, rd_nat, Int.toNat_natCast]
    refine Ev.pos (by omega) (Ev.pos (by omega) (Ev.pos (by omega) (Ev.ite (fun hc => Ev.val ?_) (fun hc => Ev.ite (fun hd => Ev.val ?_) (fun hd => Ev.pos (by omega) ?_)))))
    · have : ¬ 1 ≤ nth l i := by omega
      rw [allFrom, ordAt]; simp [this]
    · have : ¬ nth l i ≤ l.length := by omega
      rw [allFrom, ordAt]; simp [this]
    · refine Ev.bind (Contains_ev _ _ (by simp; omega)) ?_
      refine Ev.ite (fun hb => Ev.val ?_) (fun hb => (isOrder_l l hn d (i + 1) (by omega)).to ?_)
      · rw [allFrom, ordAt, hb]; simp
      · rw [Bool.not_eq_true] at hb
        have h1 : 1 ≤ nth l i := by omega
        have h2 : nth l i ≤ l.length := by omega
        rw [allFrom, ordAt, hb]; simp [h1, h2]
theorem isOrder_ev (l : List Int) (hn : l.length ≤ 17592186044416) : Ev (fun k => impl_isOrder.f k l) (isOrd l) := by
  unfold impl_isOrder.f
  refine Ev.ite (fun hc => ?_) (fun hc => ?_)
  · refine Ev.step (fun k => by rw [impl_isOrder.j0]) ?_
    refine Ev.pos rfl (Ev.val ?_)
    have : ¬ 1 ≤ l.length := by omega
    simp [isOrd, this]
  · refine Ev.step (fun k => by rw [impl_isOrder.j0]) ?_
    simp only [decide_eq_true_eq]
    refine Ev.ite (fun hd => Ev.val ?_) (fun hd => (isOrder_l l hn l.length 0 (by omega)).to ?_)
    · have : ¬ l.length ≤ 7 := by omega
      simp [isOrd, this]
    · have h1 : 1 ≤ l.length := by omega
      have h2 : l.length ≤ 7 := by omega
      simp [isOrd, h1, h2]

/-! a check of all orders, by the kernel -/
def isOk : Option Bool → Bool
  | some true => true
  | _ => false
theorem isOk_some {o : Option Bool} (h : isOk o = true) : o = some true := by
  unfold isOk at h
  split at h
  · rfl
  · cases h
def allO (ns : List Int) (p : List Int → Bool) : Nat → List Int → Bool
  | 0, q => p q
  | d + 1, q => ns.all fun c => q.contains c || allO ns p d (c :: q)
theorem isOrd_drop {l : List Int} (h : isOrd l = true) (i : Nat) (hi : i < l.length) : nth l i ∉ l.drop (i + 1) := by
  intro hm
  obtain ⟨j, hj, e⟩ := List.mem_iff_getElem.1 hm
  rw [List.getElem_drop] at e
  simp only [List.length_drop] at hj
  refine (isOrd_at h (i + 1 + j) (by omega)).2.2 ?_
  rw [nth_lt l (i + 1 + j) (by omega), e, nth_lt l i hi, List.mem_take_iff_getElem]
  exact ⟨i, by omega, rfl⟩
theorem allO_mem {l : List Int} (h : isOrd l = true) (ns : List Int) (hns : ∀ x : Int, 1 ≤ x → x ≤ l.length → x ∈ ns) (p : List Int → Bool) : ∀ i, i ≤ l.length → allO ns p i (l.drop i) = true → p l = true
  | 0, _, hp => by simpa [allO] using hp
  | i + 1, hi, hp => by
    rw [allO, List.all_eq_true] at hp
    have ha := isOrd_at h i (by omega)
    have h1 := hp (nth l i) (hns _ ha.1 ha.2.1)
    have h2 : (l.drop (i + 1)).contains (nth l i) = false := by
      have := isOrd_drop h i (by omega)
      simpa using this
    rw [h2, Bool.false_or, ← drop_step l i (by omega)] at h1
    exact allO_mem h ns hns p i (by omega) h1
def intsTo (n : Nat) : List Int := ([1, 2, 3, 4, 5, 6, 7] : List Int).take n
theorem intsTo_mem : ∀ n : Nat, n ≤ 7 → ∀ x : Int, 1 ≤ x → x ≤ n → x ∈ intsTo n := by
  intro n hn x h1 h2
  have hx : x = 1 ∨ x = 2 ∨ x = 3 ∨ x = 4 ∨ x = 5 ∨ x = 6 ∨ x = 7 := by omega
  have hn' : n = 0 ∨ n = 1 ∨ n = 2 ∨ n = 3 ∨ n = 4 ∨ n = 5 ∨ n = 6 ∨ n = 7 := by omega
  rcases hn' with rfl | rfl | rfl | rfl | rfl | rfl | rfl | rfl <;> rcases hx with rfl | rfl | rfl | rfl | rfl | rfl | rfl <;> first | (exfalso; omega) | simp [intsTo]
theorem orders_all {l : List Int} (h : isOrd l = true) (p : List Int → Bool) (hp : ∀ n ∈ [1, 2, 3, 4, 5, 6, 7], allO (intsTo n) p n [] = true) : p l = true := by
  have hl := isOrd_len h
  have hm : l.length ∈ [1, 2, 3, 4, 5, 6, 7] := by
    have : l.length = 1 ∨ l.length = 2 ∨ l.length = 3 ∨ l.length = 4 ∨ l.length = 5 ∨ l.length = 6 ∨ l.length = 7 := by omega
    simp [this]
  refine allO_mem h (intsTo l.length) (fun x h1 h2 => intsTo_mem l.length hl.2 x h1 h2) p l.length (Nat.le_refl _) ?_
  rw [List.drop_length]
  exact hp _ hm

/-! orders: no number twice; all numbers there -/
theorem isOrd_nodup {l : List Int} (h : isOrd l = true) : l.Nodup := by
  refine List.pairwise_iff_getElem.2 fun i j hi hj hij e => (isOrd_at h j hj).2.2 ?_
  rw [nth_lt _ _ hj, ← e]
  exact List.mem_take_iff_getElem.2 ⟨i, by omega, rfl⟩
theorem isOrd_all_ : ∀ n ∈ [1, 2, 3, 4, 5, 6, 7], allO (intsTo n) (fun l => (intsTo l.length).all fun x => l.contains x) n [] = true := by decide +kernel
theorem isOrd_all {l : List Int} (h : isOrd l = true) (x : Int) (h1 : 1 ≤ x) (h2 : x ≤ l.length) : x ∈ l := by
  have := orders_all h _ isOrd_all_
  rw [List.all_eq_true] at this
  simpa using this x (intsTo_mem l.length (isOrd_len h).2 x h1 h2)
theorem isOrd_mem {l : List Int} (h : isOrd l = true) (x : Int) (hx : x ∈ l) : 1 ≤ x ∧ x ≤ l.length := by
  obtain ⟨i, hi, e⟩ := List.mem_iff_getElem.1 hx
  have := isOrd_at h i hi
  rw [nth_lt _ _ hi, e] at this
  exact ⟨this.1, this.2.1⟩
/-- two lists of the same numbers, none twice -/
structure Twin (o t : List Int) : Prop where
  len : o.length = t.length
  ndo : o.Nodup
  ndt : t.Nodup
  fwd : ∀ x ∈ o, x ∈ t
  bwd : ∀ x ∈ t, x ∈ o
theorem Twin.ord {l s : List Int} (hl : isOrd l = true) (hs : isOrd s = true) (h : l.length = s.length) : Twin l s :=
  ⟨h, isOrd_nodup hl, isOrd_nodup hs, fun x hx => isOrd_all hs x (isOrd_mem hl x hx).1 (by have := (isOrd_mem hl x hx).2; omega), fun x hx => isOrd_all hl x (isOrd_mem hs x hx).1 (by have := (isOrd_mem hs x hx).2; omega)⟩
theorem nodup_nth {l : List Int} (h : l.Nodup) (i j : Nat) (hi : i < l.length) (hj : j < l.length) (e : nth l i = nth l j) : i = j := by
  rw [nth_lt _ _ hi, nth_lt _ _ hj] at e
  exact (List.getElem_inj h).1 e
theorem idx_at {l : List Int} (h : l.Nodup) (i : Nat) (hi : i < l.length) : idx l (nth l i) = i :=
  idx_some l _ i hi rfl fun j hj e => by have := nodup_nth h j i (by omega) hi e; omega
theorem idx_mem {l : List Int} {x : Int} (h : x ∈ l) : ∃ i : Nat, i < l.length ∧ idx l x = i ∧ nth l i = x := by
  induction l with
  | nil => cases h
  | cons y l ih =>
    by_cases e : y = x
    · exact ⟨0, by simp, by simp [idx, e], by simp [nth, e]⟩
    · have hm : x ∈ l := by
        rcases List.mem_cons.1 h with h | h
        · exact absurd h.symm e
        · exact h
      obtain ⟨i, h1, h2, h3⟩ := ih hm
      refine ⟨i + 1, by simpa using h1, ?_, by rw [nth_cons_succ]; exact h3⟩
      rw [idx, if_neg e, h2, if_neg (by omega)]
      omega
theorem nth_take (l : List Int) (c i : Nat) (h : i < c) : nth (l.take c) i = nth l i := by
  unfold nth
  rw [List.getD_eq_getElem?_getD, List.getD_eq_getElem?_getD, List.getElem?_take, if_pos h]
theorem nth_rev (l : List Int) (i : Nat) (h : i < l.length) : nth l.reverse i = nth l (l.length - 1 - i) := by
  unfold nth
  rw [List.getD_eq_getElem?_getD, List.getD_eq_getElem?_getD, List.getElem?_reverse h]

theorem l1Same_l (a b : List Int) (hn : a.length ≤ 17592186044416) (hl : a.length = b.length) : ∀ (d i : Nat), a.length = i + d → Ev (fun k => spec_l1Same.l0 k a b i) (decide (a.drop i = b.drop i))
  | 0, i, h => by
    refine Ev.step (fun k => by rw [spec_l1Same.l0]) (Ev.neg (by omega) (Ev.val ?_))
    rw [List.drop_of_length_le (by omega), List.drop_of_length_le (by omega)]; rfl
  | d + 1, i, h => by
    refine Ev.step (fun k => by rw [spec_l1Same.l0]) ?_
    have e : wrap64 ((i : Int) + 1) = ((i + 1 : Nat) : Int) := by rw [w64 (by omega)]; omega
    simp only [e]
    refine Ev.pos (by omega) (Ev.pos (by omega) (Ev.pos (by omega) (Ev.ite (fun hc => Ev.to (l1Same_l a b hn hl d (i + 1) (by omega)) ?_) (fun hc => Ev.val ?_))))
    · rw [drop_step a i (by omega), drop_step b i (by omega)]
      have hc' : nth a i = nth b i := hc
      simp [hc']
    · rw [drop_step a i (by omega), drop_step b i (by omega)]
      have hc' : ¬ nth a i = nth b i := hc
      simp [hc']
theorem l1Same_ev (a b : List Int) (hn : a.length ≤ 17592186044416) : Ev (fun k => spec_l1Same.f k a b) (decide (a = b)) := by
  unfold spec_l1Same.f
  by_cases hl : a.length = b.length
  · exact Ev.pos (by omega) (Ev.to (l1Same_l a b hn hl a.length 0 (by omega)) (by simp))
  · refine Ev.neg (by omega) (Ev.val ?_)
    have : a ≠ b := fun e => hl (by rw [e])
    simp [this]

theorem Equal_l (a b : List Int) (hn : a.length ≤ 17592186044416) (hl : a.length = b.length) : ∀ (d i : Nat), a.length = i + d → Ev (fun k => slices_Equal_int_int.l0 k a b (a.length : Int) i) (decide (a.drop i = b.drop i))
  | 0, i, h => by
    refine Ev.step (fun k => by rw [slices_Equal_int_int.l0]) (Ev.neg (by omega) (Ev.val ?_))
    rw [List.drop_of_length_le (by omega), List.drop_of_length_le (by omega)]; rfl
  | d + 1, i, h => by
    refine Ev.step (fun k => by rw [slices_Equal_int_int.l0]) ?_
    have e : wrap64 ((i : Int) + 1) = ((i + 1 : Nat) : Int) := by rw [w64 (by omega)]; omega
    simp only [e]
    refine Ev.pos (by omega) (Ev.pos (by omega) (Ev.pos (by omega) (Ev.pos (by omega) (Ev.ite (fun hc => Ev.to (Equal_l a b hn hl d (i + 1) (by omega)) ?_) (fun hc => Ev.val ?_)))))
    · rw [drop_step a i (by omega), drop_step b i (by omega)]
      have hc' : nth a i = nth b i := hc
      simp [hc']
    · rw [drop_step a i (by omega), drop_step b i (by omega)]
      have hc' : ¬ nth a i = nth b i := hc
      simp [hc']
theorem Equal_ev (a b : List Int) (hn : a.length ≤ 17592186044416) : Ev (fun k => slices_Equal_int_int.f k a b) (decide (a = b)) := by
  unfold slices_Equal_int_int.f
  by_cases hl : a.length = b.length
  · exact Ev.pos (by omega) (Ev.to (Equal_l a b hn hl a.length 0 (by omega)) (by simp))
  · refine Ev.neg (by omega) (Ev.val ?_)
    have : a ≠ b := fun e => hl (by rw [e])
    simp [this]

theorem l2Back_l (l : List Int) (hn : l.length ≤ 17592186044415) : ∀ (i : Nat) (acc : List Int), i ≤ l.length → acc.length + i ≤ l.length → Ev (fun k => spec_l2Back.l0 k l acc ((i : Int) - 1)) (acc ++ (l.take i).reverse)
  | 0, acc, hi, ha => by
    refine Ev.step (fun k => by rw [spec_l2Back.l0]) ?_
    exact Ev.neg (by omega) (Ev.val (by simp))
  | i + 1, acc, hi, ha => by
    have e : ((i + 1 : Nat) : Int) - 1 = (i : Int) := by omega
    have e2 : wrap64 ((i : Int) - 1) = (i : Int) - 1 := w64 (by omega)
    simp only [e]
    refine Ev.step (fun k => by rw [spec_l2Back.l0]) ?_
    simp only [e2, rd_nat]
    refine Ev.pos (by omega) (Ev.pos (by omega) (Ev.pos (by omega) (Ev.pos (by omega) ?_)))
    refine (l2Back_l l hn i (acc ++ [nth l i]) (by omega) (by simp; omega)).to ?_
    rw [take_step l i (by omega)]
    simp
theorem l2Back_ev (l : List Int) (hn : l.length ≤ 17592186044415) : Ev (fun k => spec_l2Back.f k l) l.reverse := by
  unfold spec_l2Back.f
  have e : wrap64 ((l.length : Int) - 1) = (l.length : Int) - 1 := w64 (by omega)
  simp only [e]
  refine (l2Back_l l hn l.length [] (Nat.le_refl _) (by simp)).to ?_
  simp

theorem nth_right (A B : List Int) (i : Nat) (h : A.length ≤ i) : nth (A ++ B) i = nth B (i - A.length) := by
  simp [nth, List.getD_eq_getElem?_getD, List.getElem?_append_right h]
theorem Reverse_l : ∀ (n : Nat) (A M B : List Int), M.length = n → (A ++ (M ++ B)).length ≤ 17592186044415 → Ev (fun k => slices_Reverse_int_int.l0 k (A ++ (M ++ B)) (A.length : Int) ((A.length : Int) + (M.length : Int) - 1)) (A ++ (M.reverse ++ B)) := by
  intro n
  induction n using Nat.strongRecOn with
  | _ n ih =>
    intro A M B hM hn
    by_cases h2 : n < 2
    · refine Ev.step (fun k => by rw [slices_Reverse_int_int.l0]) ?_
      refine Ev.neg (by omega) (Ev.val ?_)
      have : M = [] ∨ ∃ a, M = [a] := by
        rcases M with _ | ⟨a, _ | ⟨b, M⟩⟩
        · exact .inl rfl
        · exact .inr ⟨a, rfl⟩
        · simp at hM; omega
      rcases this with rfl | ⟨a, rfl⟩ <;> simp
    · obtain ⟨a, M', b, rfl⟩ : ∃ a M' b, M = a :: (M' ++ [b]) := by
        rcases M with _ | ⟨a, M⟩
        · simp at hM; omega
        · rcases List.eq_nil_or_concat M with rfl | ⟨M', b, rfl⟩
          · simp at hM; omega
          · exact ⟨a, M', b, by simp⟩
      have hl : M'.length + 2 = n := by simp at hM; omega
      have hn' : A.length + (M'.length + 2 + B.length) ≤ 17592186044415 := by simp at hn; omega
      refine Ev.step (fun k => by rw [slices_Reverse_int_int.l0]) ?_
      have e1 : (A.length : Int) + ((a :: (M' ++ [b])).length : Int) - 1 = ((A.length + 1 + M'.length : Nat) : Int) := by simp; omega
      have e2 : wrap64 ((A.length : Int) + 1) = ((A.length + 1 : Nat) : Int) := by rw [w64 (by omega)]; omega
      have e3 : wrap64 (((A.length + 1 + M'.length : Nat) : Int) - 1) = ((A.length + M'.length : Nat) : Int) := by rw [w64 (by omega)]; omega
      have g1 : nth (A ++ (a :: (M' ++ [b]) ++ B)) (A.length + 1 + M'.length) = b := by
        have : A ++ (a :: (M' ++ [b]) ++ B) = (A ++ a :: M') ++ (b :: B) := by simp
        rw [this, nth_right _ _ _ (by simp; omega)]
        have : A.length + 1 + M'.length - (A ++ a :: M').length = 0 := by simp; omega
        rw [this]; rfl
      have g2 : nth (A ++ (a :: (M' ++ [b]) ++ B)) A.length = a := by
        rw [nth_right _ _ _ (Nat.le_refl _)]
        simp [nth]
      have g3 : ((A ++ (a :: (M' ++ [b]) ++ B)).set A.length b).set (A.length + 1 + M'.length) a = (A ++ [b]) ++ (M' ++ (a :: B)) := by
        have h1 : (A ++ (a :: (M' ++ [b]) ++ B)).set A.length b = (A ++ b :: M') ++ (b :: B) := by
          rw [List.set_append_right _ _ (Nat.le_refl _)]; simp
        rw [h1, List.set_append_right _ _ (by simp; omega)]
        have : A.length + 1 + M'.length - (A ++ b :: M').length = 0 := by simp; omega
        rw [this]; simp
      simp only [e1, e2, e3, rd_nat, Int.toNat_natCast, g1, g2, g3]
      have hlen : (A ++ (a :: (M' ++ [b]) ++ B)).length = A.length + (M'.length + 2 + B.length) := by simp; omega
      refine Ev.pos (by omega) (Ev.pos (by omega) (Ev.pos (by rw [hlen]; omega) (Ev.pos (by omega) (Ev.pos (by rw [hlen]; omega) ?_))))
      have := ih M'.length (by omega) (A ++ [b]) M' (a :: B) rfl (by simp; omega)
      have e4 : ((A ++ [b]).length : Int) + (M'.length : Int) - 1 = ((A.length + M'.length : Nat) : Int) := by simp; omega
      have e5 : ((A ++ [b]).length : Int) = ((A.length + 1 : Nat) : Int) := by simp
      rw [e4, e5] at this
      refine this.to ?_
      simp
theorem Reverse_ev (l : List Int) (hn : l.length ≤ 17592186044415) : Ev (fun k => slices_Reverse_int_int.f k l) l.reverse := by
  unfold slices_Reverse_int_int.f
  have e : wrap64 ((l.length : Int) - 1) = (([] : List Int).length : Int) + (l.length : Int) - 1 := by rw [w64 (by omega)]; simp
  have := Reverse_l l.length [] l [] rfl (by simpa using hn)
  simp only [e]
  simpa using this
theorem back_ev (l : List Int) (hn : l.length ≤ 17592186044415) : Ev (fun k => impl_back.f k l) l.reverse := by
  unfold impl_back.f
  refine Ev.bind (a := l) ?_ (Ev.bind (Reverse_ev l hn) (Ev.val rfl))
  unfold slices_Clone_int_int.f
  exact Ev.pos (by omega) (Ev.val rfl)

/-! the cuts by which one order comes out of another -/
theorem rev_idx {o t : List Int} (h : Twin o t) (c : Nat) (h1 : 1 ≤ c) (h2 : c ≤ o.length) (e : (o.take c).reverse = t.take c) : idx t (nth o 0) = (c : Int) - 1 ∧ idx o (nth t 0) = (c : Int) - 1 := by
  have hl := h.len
  have e1 : nth t (c - 1) = nth o 0 := by
    have this : nth (o.take c).reverse (c - 1) = nth (t.take c) (c - 1) := by rw [e]
    rw [nth_take _ _ _ (by omega), nth_rev _ _ (by rw [List.length_take]; omega), nth_take _ _ _ (by rw [List.length_take]; omega)] at this
    rw [← this, List.length_take, Nat.min_eq_left h2, show c - 1 - (c - 1) = 0 by omega]
  have e2 : nth o (c - 1) = nth t 0 := by
    have this : nth (o.take c).reverse 0 = nth (t.take c) 0 := by rw [e]
    rw [nth_take _ _ _ (by omega), nth_rev _ _ (by rw [List.length_take]; omega), nth_take _ _ _ (by rw [List.length_take]; omega)] at this
    rw [← this, List.length_take, Nat.min_eq_left h2, Nat.sub_zero]
  constructor
  · rw [← e1, idx_at h.ndt _ (by omega)]; omega
  · rw [← e2, idx_at h.ndo _ (by omega)]; omega
theorem Twin.cut {o t : List Int} (h : Twin o t) (c : Nat) (e : (o.take c).reverse = t.take c) : Twin (o.drop c) (t.drop c) := by
  have hno : (o.take c ++ o.drop c).Nodup := by rw [List.take_append_drop]; exact h.ndo
  have hnt : (t.take c ++ t.drop c).Nodup := by rw [List.take_append_drop]; exact h.ndt
  rw [List.nodup_append] at hno hnt
  refine ⟨by simp [h.len], hno.2.1, hnt.2.1, fun x hx => ?_, fun x hx => ?_⟩
  · have := h.fwd x (List.mem_of_mem_drop hx)
    rw [← List.take_append_drop c t, List.mem_append] at this
    rcases this with h3 | h3
    · rw [← e, List.mem_reverse] at h3
      exact absurd rfl (hno.2.2 x h3 x hx)
    · exact h3
  · have := h.bwd x (List.mem_of_mem_drop hx)
    rw [← List.take_append_drop c o, List.mem_append] at this
    rcases this with h3 | h3
    · rw [← List.mem_reverse, e] at h3
      exact absurd rfl (hnt.2.2 x h3 x hx)
    · exact h3
/-- with d numbers left at most: the cuts from here on, if there are such -/
def cutsM : Nat → List Int → List Int → Option (List Int)
  | 0, _, _ => some []
  | d + 1, o, t => if o = [] then some [] else if (o.take (idx t (nth o 0) + 1).toNat).reverse = t.take (idx t (nth o 0) + 1).toNat then (cutsM d (o.drop (idx t (nth o 0) + 1).toNat) (t.drop (idx t (nth o 0) + 1).toNat)).map (fun r => (idx t (nth o 0) + 1) :: r) else none
def cutsR (acc : List Int) (q : Option (List Int)) : List Int × Bool := match q with | some r => (acc ++ r, true) | none => ([], false)
theorem cutsR_cons (acc : List Int) (c : Int) (q : Option (List Int)) : cutsR acc (q.map fun r => c :: r) = cutsR (acc ++ [c]) q := by
  cases q <;> simp [cutsR]
theorem cutsTo_l : ∀ (d : Nat) (o t acc : List Int), o.length ≤ d → acc.length + d ≤ 1000 → o.length ≤ 1000 → Twin o t → Ev (fun k => impl_cutsTo.l0 k o t acc) (cutsR acc (cutsM d o t))
  | 0, o, t, acc, hd, ha, hb, h => by
    refine Ev.step (fun k => by rw [impl_cutsTo.l0]) (Ev.neg (by omega) (Ev.val ?_))
    simp [cutsM, cutsR]
  | d + 1, o, t, acc, hd, ha, hb, h => by
    refine Ev.step (fun k => by rw [impl_cutsTo.l0]) ?_
    have hl := h.len
    by_cases e0 : o = []
    · refine Ev.neg (by simp [e0]) (Ev.val ?_)
      simp [cutsM, cutsR, e0]
    have hp : 0 < o.length := List.length_pos_iff.2 e0
    refine Ev.pos (by omega) (Ev.pos (by omega) (Ev.bind (Index_ev t _ (by omega)) ?_))
    obtain ⟨q, hq, e1, e2⟩ := idx_mem (h.fwd (nth o 0) (by rw [nth_lt _ _ hp]; exact List.getElem_mem hp))
    have e3 : rd o 0 = nth o 0 := rfl
    rw [e3]
    have e4 : wrap64 (idx t (nth o 0) + 1) = ((q + 1 : Nat) : Int) := by rw [e1, w64 (by omega)]; omega
    have e5 : idx t (nth o 0) + 1 = ((q + 1 : Nat) : Int) := by rw [e1]; omega
    simp only [e4]
    refine Ev.pos (by omega) (Ev.pos (by omega) (Ev.bind (back_ev _ (by rw [List.length_take]; omega)) (Ev.pos (by omega) (Ev.bind (Equal_ev _ _ (by rw [List.length_reverse, List.length_take]; omega)) (Ev.ite (fun hc => ?_) (fun hc => Ev.val ?_))))))
    · rw [Int.toNat_natCast] at *
      have hc' : (o.take (q + 1)).reverse = t.take (q + 1) := by simpa using hc
      refine Ev.pos (by omega) ?_
      have := cutsTo_l d (o.drop (q + 1)) (t.drop (q + 1)) (acc ++ [((q + 1 : Nat) : Int)]) (by rw [List.length_drop]; omega) (by simp; omega) (by rw [List.length_drop]; omega) (h.cut (q + 1) hc')
      refine Ev.to this ?_
      rw [cutsM, if_neg e0, e5, Int.toNat_natCast, if_pos hc', cutsR_cons]
    · rw [Int.toNat_natCast] at *
      have hc' : ¬ (o.take (q + 1)).reverse = t.take (q + 1) := by simpa using hc
      rw [cutsM, if_neg e0, e5, Int.toNat_natCast, if_neg hc']
      rfl
theorem cutsTo_ev (l s : List Int) (hl : isOrd l = true) (h : Twin l s) : Ev (fun k => impl_cutsTo.f k l s) (cutsR [] (cutsM 7 l s)) := by
  have := isOrd_len hl
  exact cutsTo_l 7 l s [] (by omega) (by simp) (by omega) h
/-- the check of one part, told by the reference's own place -/
theorem cut_same {o t : List Int} (h : Twin o t) (hp : 0 < o.length) (p : Nat) (hpl : p < o.length) (e : idx o (nth t 0) = p) :
    ((o.take (p + 1)).reverse = t.take (p + 1) → idx t (nth o 0) = p) ∧ (¬ (o.take (p + 1)).reverse = t.take (p + 1) → ¬ (o.take (idx t (nth o 0) + 1).toNat).reverse = t.take (idx t (nth o 0) + 1).toNat) := by
  have hl := h.len
  constructor
  · intro hc
    have := (rev_idx h (p + 1) (by omega) (by omega) hc).1
    omega
  · intro hc hd
    obtain ⟨q, hq, e1, _⟩ := idx_mem (h.fwd (nth o 0) (by rw [nth_lt _ _ hp]; exact List.getElem_mem hp))
    have e5 : idx t (nth o 0) + 1 = ((q + 1 : Nat) : Int) := by rw [e1]; omega
    rw [e5, Int.toNat_natCast] at hd
    have := (rev_idx h (q + 1) (by omega) (by omega) hd).2
    have : p = q := by omega
    exact hc (this ▸ hd)
theorem cutsM_more : ∀ (d e : Nat) (o t : List Int), o.length ≤ d → Twin o t → cutsM (d + e) o t = cutsM d o t
  | 0, e, o, t, hd, h => by
    obtain rfl : o = [] := List.eq_nil_of_length_eq_zero (by omega)
    cases e <;> simp [cutsM]
  | d + 1, e, o, t, hd, h => by
    rw [show d + 1 + e = d + e + 1 by omega, cutsM, cutsM]
    by_cases e0 : o = []
    · rw [if_pos e0, if_pos e0]
    have hp : 0 < o.length := List.length_pos_iff.2 e0
    obtain ⟨q, hq, e1, _⟩ := idx_mem (h.fwd (nth o 0) (by rw [nth_lt _ _ hp]; exact List.getElem_mem hp))
    have e5 : idx t (nth o 0) + 1 = ((q + 1 : Nat) : Int) := by rw [e1]; omega
    rw [if_neg e0, if_neg e0, e5, Int.toNat_natCast]
    by_cases hc : (o.take (q + 1)).reverse = t.take (q + 1)
    · rw [if_pos hc, if_pos hc, cutsM_more d e _ _ (by rw [List.length_drop]; omega) (h.cut (q + 1) hc)]
    · rw [if_neg hc, if_neg hc]
theorem cutsM_len : ∀ (d : Nat) (o t r : List Int), cutsM d o t = some r → r.length ≤ d
  | 0, o, t, r, h => by simp [cutsM] at h; simp [← h]
  | d + 1, o, t, r, h => by
    rw [cutsM] at h
    split at h
    · injection h with h; simp [← h]
    · split at h
      · obtain ⟨r', h1, h2⟩ := Option.map_eq_some_iff.1 h
        have := cutsM_len d _ _ _ h1
        simp [← h2]; omega
      · cases h
theorem drop_nth (l : List Int) (f i : Nat) : nth (l.drop f) i = nth l (f + i) := by
  unfold nth
  rw [List.getD_eq_getElem?_getD, List.getD_eq_getElem?_getD, List.getElem?_drop]
set_option maxHeartbeats 2000000 in
theorem l6To_l : ∀ (d f : Nat) (l s acc : List Int), l.length = f + d → acc.length + d ≤ 1000 → l.length ≤ 1000 → l.length = s.length → Twin (l.drop f) (s.drop f) → Ev (fun k => spec_l6To.l0 k l s acc f) (cutsR acc (cutsM d (l.drop f) (s.drop f)))
  | 0, f, l, s, acc, hd, ha, hb, hls, h => by
    refine Ev.step (fun k => by rw [spec_l6To.l0]) (Ev.neg (by omega) (Ev.val ?_))
    simp [cutsM, cutsR]
  | d + 1, f, l, s, acc, hd, ha, hb, hls, h => by
    refine Ev.step (fun k => by rw [spec_l6To.l0]) (Ev.pos (by omega) ?_)
    have hp : 0 < (l.drop f).length := by rw [List.length_drop]; omega
    have hps : 0 < (s.drop f).length := by rw [List.length_drop]; omega
    have e0 : l.drop f ≠ [] := List.length_pos_iff.1 hp
    obtain ⟨p, hpl, e1, e2⟩ := idx_mem (h.bwd (nth (s.drop f) 0) (by rw [nth_lt _ _ hps]; exact List.getElem_mem hps))
    rw [List.length_drop] at hpl
    have hs0 : nth (s.drop f) 0 = nth s f := drop_nth s f 0
    have hl0 : nth (l.drop f) p = nth l (f + p) := drop_nth l f p
    -- behind the search
    have key : Ev (fun k => spec_l6To.j2 k l s acc (f : Int) ((f + p : Nat) : Int)) (cutsR acc (cutsM (d + 1) (l.drop f) (s.drop f))) := by
      refine Ev.step (fun k => by rw [spec_l6To.j2]) (Ev.neg (by omega) ?_)
      have e6 : wrap64 (((f + p : Nat) : Int) + 1) = ((f + (p + 1) : Nat) : Int) := by rw [w64 (by omega)]; omega
      simp only [e6, Int.toNat_natCast]
      clear e6
      have t1 : (l.take (f + (p + 1))).drop f = (l.drop f).take (p + 1) := by rw [List.drop_take, Nat.add_sub_cancel_left]
      have t2 : (s.take (f + (p + 1))).drop f = (s.drop f).take (p + 1) := by rw [List.drop_take, Nat.add_sub_cancel_left]
      rw [t1, t2]
      have hcs := cut_same h hp p (by rw [List.length_drop]; omega) e1
      refine Ev.pos (by omega) (Ev.pos (by omega) (Ev.pos (by omega) (Ev.bind (l2Back_ev _ (by rw [List.length_take, List.length_drop]; omega)) (Ev.pos (by omega) (Ev.bind (l1Same_ev _ _ (by rw [List.length_reverse, List.length_take, List.length_drop]; omega)) (Ev.ite (fun hc => ?_) (fun hc => Ev.val ?_)))))))
      · have hc' : ((l.drop f).take (p + 1)).reverse = (s.drop f).take (p + 1) := by simpa using hc
        have hq := hcs.1 hc'
        have e7 : wrap64 (((f + (p + 1) : Nat) : Int) - (f : Int)) = ((p + 1 : Nat) : Int) := by rw [w64 (by omega)]; omega
        have e8 : idx (s.drop f) (nth (l.drop f) 0) + 1 = ((p + 1 : Nat) : Int) := by rw [hq]; omega
        rw [e7]
        clear e7
        refine Ev.pos (by omega) ?_
        have hcut := h.cut (p + 1) hc'
        rw [List.drop_drop, List.drop_drop] at hcut
        have := l6To_l (d - p) (f + (p + 1)) l s (acc ++ [((p + 1 : Nat) : Int)]) (by omega) (by simp; omega) hb hls hcut
        refine Ev.to this ?_
        rw [cutsM, if_neg e0, e8, Int.toNat_natCast, if_pos hc', cutsR_cons, List.drop_drop, List.drop_drop]
        have hm := cutsM_more (d - p) p (l.drop (f + (p + 1))) (s.drop (f + (p + 1))) (by rw [List.length_drop]; omega) hcut
        rw [show d - p + p = d by omega] at hm
        rw [hm]
      · have hc' : ¬ ((l.drop f).take (p + 1)).reverse = (s.drop f).take (p + 1) := by simpa using hc
        rw [cutsM, if_neg e0, if_neg (hcs.2 hc')]
        rfl
    -- the search
    have srch : ∀ e i : Nat, i + e = p → Ev (fun k => spec_l6To.l1 k l s acc (f : Int) ((f + i : Nat) : Int)) (cutsR acc (cutsM (d + 1) (l.drop f) (s.drop f))) := by
      intro e
      induction e with
      | zero =>
        intro i hi
        obtain rfl : i = p := by omega
        refine Ev.step (fun k => by rw [spec_l6To.l1]) (Ev.pos (by omega) (Ev.pos (by omega) (Ev.pos (by omega) (Ev.pos (by omega) (Ev.pos ?_ key)))))
        rw [rd_nat, rd_nat, ← hl0, e2, hs0]
      | succ e ih =>
        intro i hi
        refine Ev.step (fun k => by rw [spec_l6To.l1]) (Ev.pos (by omega) (Ev.pos (by omega) (Ev.pos (by omega) (Ev.pos (by omega) (Ev.neg ?_ ?_)))))
        · rw [rd_nat, rd_nat, ← hs0, ← drop_nth]
          intro hq
          have := idx_at h.ndo i (by rw [List.length_drop]; omega)
          rw [hq, e1] at this
          omega
        · have e6 : wrap64 (((f + i : Nat) : Int) + 1) = ((f + (i + 1) : Nat) : Int) := by rw [w64 (by omega)]; omega
          simp only [e6]
          clear e6
          exact ih (i + 1) (by omega)
    have hfin := srch p 0 (by omega)
    rw [Nat.add_zero] at hfin
    exact hfin
theorem l6To_ev (l s : List Int) (hl : isOrd l = true) (h : Twin l s) : Ev (fun k => spec_l6To.f k l s) (cutsR [] (cutsM 7 l s)) := by
  have hn := isOrd_len hl
  have := cutsM_more l.length (7 - l.length) l s (Nat.le_refl _) h
  rw [show l.length + (7 - l.length) = 7 by omega] at this
  rw [this]
  have h1 := l6To_l l.length 0 l s [] (by omega) (by simp; omega) (by omega) h.len (by rw [List.drop_zero, List.drop_zero]; exact h)
  rw [List.drop_zero, List.drop_zero] at h1
  exact h1

def okCutsTo (l s : List Int) : Bool := isOrd l && (isOrd s && decide (l.length = s.length))
def resCutsTo (l s : List Int) : List Int := if okCutsTo l s then (cutsR [] (cutsM 7 l s)).1 else []
def flagCutsTo (l s : List Int) : Bool := if okCutsTo l s then (cutsR [] (cutsM 7 l s)).2 else false
theorem resCutsTo_length (l s : List Int) : (resCutsTo l s).length ≤ 1000 := by
  unfold resCutsTo
  split
  · cases e : cutsM 7 l s with
    | none => simp [cutsR]
    | some r => have := cutsM_len 7 l s r e; simp [cutsR]; omega
  · simp
theorem specCutsTo_ev (l s : List Int) (hn : l.length ≤ 17592186044415) (hs : s.length ≤ 17592186044415) : Ev (fun k => spec_CutsTo.f k l s) (resCutsTo l s, flagCutsTo l s) := by
  unfold spec_CutsTo.f
  refine Ev.bind (l2Order_ev l (by omega)) (Ev.ite (fun hc => Ev.bind (l2Order_ev s (by omega)) (Ev.ite (fun hd => Ev.ite (fun he => Ev.bind (l6To_ev l s hc (Twin.ord hc hd (by omega))) (Ev.val ?_)) (fun he => Ev.val ?_)) (fun hd => Ev.val ?_))) (fun hc => Ev.val ?_))
  · have he' : l.length = s.length := by omega
    simp [resCutsTo, flagCutsTo, okCutsTo, hc, hd, he']
  · have he' : ¬ l.length = s.length := by omega
    simp [resCutsTo, flagCutsTo, okCutsTo, he']
  · rw [Bool.not_eq_true] at hd; simp [resCutsTo, flagCutsTo, okCutsTo, hd]
  · rw [Bool.not_eq_true] at hc; simp [resCutsTo, flagCutsTo, okCutsTo, hc]
theorem areOrders_ev (l s : List Int) (hn : l.length ≤ 17592186044415) (hs : s.length ≤ 17592186044415) : Ev (fun k => impl_areOrders.f k l s) (okCutsTo l s) := by
  unfold impl_areOrders.f
  refine Ev.bind (isOrder_ev l (by omega)) (Ev.ite (fun hc => Ev.bind (isOrder_ev s (by omega)) (Ev.ite (fun hd => Ev.val ?_) (fun hd => Ev.val ?_))) (fun hc => Ev.val ?_))
  · rw [Bool.eq_iff_iff]
    simp [okCutsTo, hc, hd]
    omega
  · rw [Bool.not_eq_true] at hd; simp [okCutsTo, hd]
  · rw [Bool.not_eq_true] at hc; simp [okCutsTo, hc]
theorem implCutsTo_ev (l s : List Int) (hn : l.length ≤ 17592186044415) (hs : s.length ≤ 17592186044415) : Ev (fun k => impl_CutsTo.f k l s) (resCutsTo l s, flagCutsTo l s) := by
  unfold impl_CutsTo.f
  refine Ev.bind (areOrders_ev l s hn hs) (Ev.ite (fun hc => ?_) (fun hc => Ev.val ?_))
  · have hc' := hc
    simp only [okCutsTo, Bool.and_eq_true, decide_eq_true_eq] at hc'
    refine Ev.bind (cutsTo_ev l s hc'.1 (Twin.ord hc'.1 hc'.2.1 hc'.2.2)) (Ev.val ?_)
    simp [resCutsTo, flagCutsTo, hc]
  · rw [Bool.not_eq_true] at hc; simp [resCutsTo, flagCutsTo, hc]

theorem FnExactCutsTo : laws_FnExactCutsTo.Pure := by
  intro l s hm hr hw hm' hs hw'
  refine Ev.rounds (?_ : Ev (fun k => laws_FnExactCutsTo.f k l s) true)
  unfold laws_FnExactCutsTo.f
  refine Ev.ite (fun _ => Ev.val rfl) (fun hc => ?_)
  refine Ev.ite (fun _ => Ev.val rfl) (fun hd => ?_)
  have hR := resCutsTo_length l s
  have hm1 : (marked 1 l.length).length ≤ 17592186044415 := by rw [marked_length]; omega
  refine Ev.bind (toIntS_ev l (by omega)) ?_
  refine Ev.bind (toIntS_ev s (by omega)) ?_
  refine Ev.bind (specCutsTo_ev l s (by omega) (by omega)) ?_
  refine Ev.bind (toIntS_ev l (by omega)) ?_
  refine Ev.bind (toIntS_ev s (by omega)) ?_
  refine Ev.bind (implCutsTo_ev l s (by omega) (by omega)) ?_
  refine Ev.bind (eqIntS_ev _ _ (by simp only []; omega)) ?_
  refine Ev.pos (by simp) ?_
  refine Ev.step (fun k => by rw [laws_FnExactCutsTo.j0]) ?_
  refine Ev.neg (by simp) ?_
  refine Ev.bind (toIntS_ev l (by omega)) ?_
  refine Ev.bind (eqIntS_ev l l (by omega)) (Ev.pos (by simp) ?_)
  refine Ev.bind (toIntS_ev s (by omega)) ?_
  refine Ev.bind (eqIntS_ev s s (by omega)) (Ev.pos (by simp) ?_)
  refine Ev.bind (markIntS_ev l 1 (by omega) (by omega) (by omega)) ?_
  refine Ev.bind (markIntS_ev s _ (by omega) (by simp only []; omega) (by simp only []; omega)) (Ev.neg (by simp only []; omega) ?_)
  refine Ev.bind (eqIntS_ev _ _ (by simp only []; omega)) (Ev.pos (by simp) ?_)
  refine Ev.step (fun k => by rw [laws_FnExactCutsTo.j1]) ?_
  refine Ev.neg (by simp) ?_
  refine Ev.bind (markIntS_ev _ 1 (by simp only []; omega) (by omega) (by omega)) ?_
  refine Ev.bind (heldIntS_ev _ 1 (by simp only []; omega) (by omega) (by omega)) (Ev.neg (by simp only []; omega) (Ev.pos (by simp only []) ?_))
  refine Ev.bind (toIntS_ev l (by omega)) ?_
  refine Ev.bind (toIntS_ev s (by omega)) ?_
  refine Ev.bind (implCutsTo_ev l s (by omega) (by omega)) ?_
  refine Ev.bind (eqIntS_ev _ _ (by simp only []; omega)) (Ev.pos (by simp) ?_)
  refine Ev.step (fun k => by rw [laws_FnExactCutsTo.j2]) ?_
  refine Ev.neg (by simp) ?_
  exact Ev.bind (heldIntS_ev _ 1 (by simp only []; omega) (by omega) (by omega)) (Ev.neg (by simp only []; omega) (Ev.pos (by simp only []) (Ev.val rfl)))

end Go.Proofs.Ytgmhehgjmlokdaa.Pure
