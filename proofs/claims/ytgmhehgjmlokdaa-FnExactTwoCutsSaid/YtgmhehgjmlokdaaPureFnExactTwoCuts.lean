/- The program's TwoCuts returns what the reference's returns, for all arguments, in memory of its own. -/
import Derived.Test.YtgmhehgjmlokdaaPFnExactTwoCutsx10
import Derived.Test.YtgmhehgjmlokdaaK
set_option linter.unusedVariables false
set_option linter.unusedSimpArgs false
namespace Go.Proofs.Ytgmhehgjmlokdaa.Pure
open Go.RowKit Go.Proofs.Ytgmhehgjmlokdaa.PFnExactTwoCuts Go.Proofs.YtgmhehgjmlokdaaW.PrintWords Go.Proofs.YtgmhehgjmlokdaaW.PrintLast Go.Proofs.YtgmhehgjmlokdaaW.PrintMore

theorem toIntS_l (x0 : List Int) (hn : x0.length ≤ 17592186044416) : ∀ (d i : Nat) (x3 : List Int), x3.length = x0.length → x3.take i = x0.take i → x0.length = i + d → Ev (fun k => laws_toIntS.l0 k x0 x3 i) x0
  | 0, i, x3, h1, h2, h3 => by
    refine Ev.step (fun k => by rw [laws_toIntS.l0]) ?_
    refine Ev.neg (by omega) (Ev.val ?_)
    rw [List.take_of_length_le (by omega), List.take_of_length_le (by omega)] at h2
    exact h2
  | d + 1, i, x3, h1, h2, h3 => by
    refine Ev.step (fun k => by rw [laws_toIntS.l0]) ?_
    refine Ev.pos (by omega) (Ev.pos (by omega) (Ev.pos (by omega) ?_))
    have e : wrap64 ((i : Int) + 1) = ((i + 1 : Nat) : Int) := by rw [w64 (by omega)]; omega
    simp only [e, Int.toNat_natCast]
    exact toIntS_l x0 hn d (i + 1) _ (by simpa using h1) (by rw [take_set_succ _ _ _ (by omega), h2, take_step _ _ (by omega), rd_nat]) (by omega)
theorem toIntS_ev (l : List Int) (hn : l.length ≤ 17592186044416) : Ev (fun k => laws_toIntS.f k l) l := by
  unfold laws_toIntS.f
  refine Ev.pos (by omega) (Ev.pos (by omega) ?_)
  exact toIntS_l l hn l.length 0 _ (by simp) (by simp) (by omega)

theorem eqIntS_l (a b : List Int) (hn : a.length ≤ 17592186044416) (hl : a.length = b.length) : ∀ (d i : Nat), a.length = i + d → Ev (fun k => laws_eqIntS.l0 k a b i) (decide (a.drop i = b.drop i))
  | 0, i, h => by
    refine Ev.step (fun k => by rw [laws_eqIntS.l0]) ?_
    refine Ev.neg (by omega) (Ev.val ?_)
    rw [List.drop_of_length_le (by omega), List.drop_of_length_le (by omega)]
    simp
  | d + 1, i, h => by
    refine Ev.step (fun k => by rw [laws_eqIntS.l0]) ?_
    refine Ev.pos (by omega) (Ev.pos (by omega) (Ev.pos (by omega) ?_))
    have e : wrap64 ((i : Int) + 1) = ((i + 1 : Nat) : Int) := by rw [w64 (by omega)]; omega
    simp only [e]
    rw [drop_step a i (by omega), drop_step b i (by omega)]
    refine Ev.ite (fun hc => ?_) (fun hc => Ev.val ?_)
    · have hc' : nth a i = nth b i := hc
      refine (eqIntS_l a b hn hl d (i + 1) (by omega)).to ?_
      rw [hc']
      simp
    · have hc' : ¬ nth a i = nth b i := hc
      simp [hc']
theorem eqIntS_ev (a b : List Int) (hn : a.length ≤ 17592186044416) : Ev (fun k => laws_eqIntS.f k a b) (decide (a = b)) := by
  unfold laws_eqIntS.f
  refine Ev.ite (fun hc => ?_) (fun hc => Ev.val ?_)
  · exact (eqIntS_l a b hn (by omega) a.length 0 (by omega)).to (by simp)
  · have : ¬ a = b := fun h => hc (by rw [h])
    simp [this]

theorem markIntS_l : ∀ (d i : Nat) (x0 : List Int) (x1 : Int), x0.length = i + d → x0.length ≤ 17592186044416 → -1000000000000000000 ≤ x1 → x1 + d ≤ 1000000000000000000 → Ev (fun k => laws_markIntS.l0 k x0 x1 i) (x1 + d, x0.take i ++ marked x1 d)
  | 0, i, x0, x1, h, hn, h1, h2 => by
    refine Ev.step (fun k => by rw [laws_markIntS.l0]) ?_
    refine Ev.neg (by omega) (Ev.val ?_)
    rw [List.take_of_length_le (by omega)]
    simp [marked]
  | d + 1, i, x0, x1, h, hn, h1, h2 => by
    refine Ev.step (fun k => by rw [laws_markIntS.l0]) ?_
    refine Ev.pos (by omega) (Ev.pos (by omega) ?_)
    have e : wrap64 ((i : Int) + 1) = ((i + 1 : Nat) : Int) := by rw [w64 (by omega)]; omega
    have e1 : wrap64 (x1 + 1) = x1 + 1 := w64 (by omega)
    simp only [e, e1, Int.toNat_natCast]
    refine (markIntS_l d (i + 1) (x0.set i x1) (x1 + 1) (by simpa using (by omega)) (by simpa using hn) (by omega) (by omega)).to ?_
    rw [take_set_succ _ _ _ (by omega)]
    simp [marked]
    omega
theorem markIntS_ev (l : List Int) (a : Int) (hn : l.length ≤ 17592186044416) (h1 : -1000000000000000 ≤ a) (h2 : a ≤ 1000000000000000) : Ev (fun k => laws_markIntS.f k l a) (a + l.length, marked a l.length) := by
  unfold laws_markIntS.f
  exact (markIntS_l l.length 0 l a (by omega) hn (by omega) (by omega)).to (by simp)

theorem heldIntS_l (n : Nat) (a : Int) (hn : n ≤ 17592186044416) (h1 : -1000000000000000 ≤ a) (h2 : a ≤ 1000000000000000) : ∀ (d i : Nat), n = i + d → Ev (fun k => laws_heldIntS.l0 k (marked a n) (a + i) i) (a + n)
  | 0, i, h => by
    refine Ev.step (fun k => by rw [laws_heldIntS.l0]) ?_
    refine Ev.neg (by rw [marked_length]; omega) (Ev.val ?_)
    omega
  | d + 1, i, h => by
    refine Ev.step (fun k => by rw [laws_heldIntS.l0]) ?_
    refine Ev.pos (by rw [marked_length]; omega) (Ev.pos (by omega) (Ev.pos (by rw [rd_nat, marked_nth n a i (by omega)]) ?_))
    have e : wrap64 ((i : Int) + 1) = ((i + 1 : Nat) : Int) := by rw [w64 (by omega)]; omega
    have e1 : wrap64 (a + i + 1) = a + ((i + 1 : Nat) : Int) := by rw [w64 (by omega)]; omega
    simp only [e, e1]
    exact heldIntS_l n a hn h1 h2 d (i + 1) (by omega)
theorem heldIntS_ev (n : Nat) (a : Int) (hn : n ≤ 17592186044416) (h1 : -1000000000000000 ≤ a) (h2 : a ≤ 1000000000000000) : Ev (fun k => laws_heldIntS.f k (marked a n) a) (a + n) := by
  unfold laws_heldIntS.f
  have := heldIntS_l n a hn h1 h2 n 0 (by omega)
  rw [show a + ((0 : Nat) : Int) = a by omega] at this
  exact this

theorem l1In_is (a b c : Int) : spec_l1In.f a b c = some (decide (b ≤ a ∧ a ≤ c)) := by
  unfold spec_l1In.f
  by_cases h : a ≥ b
  · rw [if_pos h]; simp [h]
  · rw [if_neg h]; simp; omega

theorem l1Has_l (l : List Int) (x : Int) (hn : l.length ≤ 17592186044416) : ∀ (d i : Nat), l.length = i + d → Ev (fun k => spec_l1Has.l0 k l x i) ((l.drop i).contains x)
  | 0, i, h => by
    refine Ev.step (fun k => by rw [spec_l1Has.l0]) ?_
    refine Ev.neg (by omega) (Ev.val ?_)
    rw [List.drop_of_length_le (by omega)]
    simp
  | d + 1, i, h => by
    refine Ev.step (fun k => by rw [spec_l1Has.l0]) ?_
    have e : wrap64 ((i : Int) + 1) = ((i + 1 : Nat) : Int) := by rw [w64 (by omega)]; omega
    simp only [e]
    rw [drop_step l i (by omega)]
    refine Ev.pos (by omega) (Ev.pos (by omega) (Ev.ite (fun hc => Ev.val ?_) (fun hc => ?_)))
    · have hc' : nth l i = x := hc
      rw [hc']; simp
    · have hc' : ¬ nth l i = x := hc
      refine (l1Has_l l x hn d (i + 1) (by omega)).to ?_
      have : ¬ x = nth l i := fun h => hc' h.symm
      rw [List.contains_cons]
      simp [this]
theorem l1Has_ev (l : List Int) (x : Int) (hn : l.length ≤ 17592186044416) : Ev (fun k => spec_l1Has.f k l x) (l.contains x) := by
  unfold spec_l1Has.f
  exact (l1Has_l l x hn l.length 0 (by omega)).to (by simp)

theorem l2Order_l (l : List Int) (hn : l.length ≤ 17592186044416) : ∀ (d i : Nat), l.length = i + d → Ev (fun k => spec_l2Order.l0 k l i) (allFrom (ordAt l) d i)
  | 0, i, h => by
    refine Ev.step (fun k => by rw [spec_l2Order.l0]) ?_
    exact Ev.neg (by omega) (Ev.val rfl)
  | d + 1, i, h => by
    refine Ev.step (fun k => by rw [spec_l2Order.l0]) ?_
    have e : wrap64 ((i : Int) + 1) = ((i + 1 : Nat) : Int) := by rw [w64 (by omega)]; omega
    simp only [e, l1In_is, Option.bind_some, rd_nat, Int.toNat_natCast, decide_eq_true_eq]
    refine Ev.pos (by omega) (Ev.pos (by omega) (Ev.ite (fun hc => Ev.pos (by omega) ?_) (fun hc => Ev.val ?_)))
    · refine Ev.bind (l1Has_ev _ _ (by simp; omega)) ?_
      refine Ev.ite (fun hb => Ev.val ?_) (fun hb => (l2Order_l l hn d (i + 1) (by omega)).to ?_)
      · rw [allFrom, ordAt, hb]; simp
      · rw [Bool.not_eq_true] at hb
        rw [allFrom, ordAt, hb]; simp [hc]
    · rw [allFrom, ordAt]
      by_cases h1 : 1 ≤ nth l i
      · have : ¬ nth l i ≤ l.length := fun h2 => hc ⟨h1, h2⟩
        simp [this]
      · simp [h1]
theorem l2Order_ev (l : List Int) (hn : l.length ≤ 17592186044416) : Ev (fun k => spec_l2Order.f k l) (isOrd l) := by
  unfold spec_l2Order.f
  simp only [l1In_is, Option.bind_some, decide_eq_true_eq]
  refine Ev.ite (fun hc => (l2Order_l l hn l.length 0 (by omega)).to ?_) (fun hc => Ev.val ?_)
  · have h1 : 1 ≤ l.length := by omega
    have h2 : l.length ≤ 7 := by omega
    simp [isOrd, h1, h2]
  · rw [isOrd]
    by_cases h1 : 1 ≤ l.length
    · have : ¬ l.length ≤ 7 := by omega
      simp [this]
    · simp [h1]

theorem Index_l (l : List Int) (x : Int) (hn : l.length ≤ 17592186044416) : ∀ (d i : Nat), l.length = i + d → (∀ j, j < i → nth l j ≠ x) → Ev (fun k => slices_Index_int_int.l0 k l x (l.length : Int) i) (idx l x)
  | 0, i, h, hq => by
    refine Ev.step (fun k => by rw [slices_Index_int_int.l0]) ?_
    refine Ev.neg (by omega) (Ev.val ?_)
    exact (idx_none l x fun j hj => hq j (by omega)).symm
  | d + 1, i, h, hq => by
    refine Ev.step (fun k => by rw [slices_Index_int_int.l0]) ?_
    have e : wrap64 ((i : Int) + 1) = ((i + 1 : Nat) : Int) := by rw [w64 (by omega)]; omega
    simp only [e]
    refine Ev.pos (by omega) (Ev.pos (by omega) (Ev.pos (by omega) (Ev.ite (fun hc => Ev.val ?_) (fun hc => ?_))))
    · exact (idx_some l x i (by omega) (by rw [hc]; rfl) hq).symm
    · refine Index_l l x hn d (i + 1) (by omega) (fun j hj => ?_)
      by_cases e : j = i
      · subst e; exact fun h => hc h.symm
      · exact hq j (by omega)
theorem Index_ev (l : List Int) (x : Int) (hn : l.length ≤ 17592186044416) : Ev (fun k => slices_Index_int_int.f k l x) (idx l x) := by
  unfold slices_Index_int_int.f
  exact Index_l l x hn l.length 0 (by omega) (fun j hj => by omega)

theorem Contains_ev (l : List Int) (x : Int) (hn : l.length ≤ 17592186044416) : Ev (fun k => slices_Contains_int_int.f k l x) (l.contains x) := by
  unfold slices_Contains_int_int.f
  exact Ev.bind (Index_ev l x hn) (Ev.val (idx_contains l x))

theorem isOrder_l (l : List Int) (hn : l.length ≤ 17592186044416) : ∀ (d i : Nat), l.length = i + d → Ev (fun k => impl_isOrder.l0 k l l (l.length : Int) i) (allFrom (ordAt l) d i)
  | 0, i, h => by
    refine Ev.step (fun k => by rw [impl_isOrder.l0]) ?_
    exact Ev.neg (by omega) (Ev.val rfl)
  | d + 1, i, h => by
    refine Ev.step (fun k => by rw [impl_isOrder.l0]) ?_
    have e : wrap64 ((i : Int) + 1) = ((i + 1 : Nat) : Int) := by rw [w64 (by omega)]; omega
    simp only [e, rd_nat, Int.toNat_natCast]
    refine Ev.pos (by omega) (Ev.pos (by omega) (Ev.pos (by omega) (Ev.ite (fun hc => Ev.val ?_) (fun hc => Ev.ite (fun hd => Ev.val ?_) (fun hd => Ev.pos (by omega) ?_)))))
    · have : ¬ 1 ≤ nth l i := by omega
      rw [allFrom, ordAt]; simp [this]
    · have : ¬ nth l i ≤ l.length := by omega
      rw [allFrom, ordAt]; simp [this]
    · refine Ev.bind (Contains_ev _ _ (by simp; omega)) ?_
      refine Ev.ite (fun hb => Ev.val ?_) (fun hb => (isOrder_l l hn d (i + 1) (by omega)).to ?_)
      · rw [allFrom, ordAt, hb]; simp
      · rw [Bool.not_eq_true] at hb
        have h1 : 1 ≤ nth l i := by omega
        have h2 : nth l i ≤ l.length := by omega
        rw [allFrom, ordAt, hb]; simp [h1, h2]
theorem isOrder_ev (l : List Int) (hn : l.length ≤ 17592186044416) : Ev (fun k => impl_isOrder.f k l) (isOrd l) := by
  unfold impl_isOrder.f
  refine Ev.ite (fun hc => ?_) (fun hc => ?_)
  · refine Ev.step (fun k => by rw [impl_isOrder.j0]) ?_
    refine Ev.pos rfl (Ev.val ?_)
    have : ¬ 1 ≤ l.length := by omega
    simp [isOrd, this]
  · refine Ev.step (fun k => by rw [impl_isOrder.j0]) ?_
    simp only [decide_eq_true_eq]
    refine Ev.ite (fun hd => Ev.val ?_) (fun hd => (isOrder_l l hn l.length 0 (by omega)).to ?_)
    · have : ¬ l.length ≤ 7 := by omega
      simp [isOrd, this]
    · have h1 : 1 ≤ l.length := by omega
      have h2 : l.length ≤ 7 := by omega
      simp [isOrd, h1, h2]

/-! a check of all orders, by the kernel -/
def isOk : Option Bool → Bool
  | some true => true
  | _ => false
theorem isOk_some {o : Option Bool} (h : isOk o = true) : o = some true := by
  unfold isOk at h
  split at h
  · rfl
  · cases h
def allO (ns : List Int) (p : List Int → Bool) : Nat → List Int → Bool
  | 0, q => p q
  | d + 1, q => ns.all fun c => q.contains c || allO ns p d (c :: q)
theorem isOrd_drop {l : List Int} (h : isOrd l = true) (i : Nat) (hi : i < l.length) : nth l i ∉ l.drop (i + 1) := by
  intro hm
  obtain ⟨j, hj, e⟩ := List.mem_iff_getElem.1 hm
  rw [List.getElem_drop] at e
  simp only [List.length_drop] at hj
  refine (isOrd_at h (i + 1 + j) (by omega)).2.2 ?_
  rw [nth_lt l (i + 1 + j) (by omega), e, nth_lt l i hi, List.mem_take_iff_getElem]
  exact ⟨i, by omega, rfl⟩
theorem allO_mem {l : List Int} (h : isOrd l = true) (ns : List Int) (hns : ∀ x : Int, 1 ≤ x → x ≤ l.length → x ∈ ns) (p : List Int → Bool) : ∀ i, i ≤ l.length → allO ns p i (l.drop i) = true → p l = true
  | 0, _, hp => by simpa [allO] using hp
  | i + 1, hi, hp => by
    rw [allO, List.all_eq_true] at hp
    have ha := isOrd_at h i (by omega)
    have h1 := hp (nth l i) (hns _ ha.1 ha.2.1)
    have h2 : (l.drop (i + 1)).contains (nth l i) = false := by
      have := isOrd_drop h i (by omega)
      simpa using this
    rw [h2, Bool.false_or, ← drop_step l i (by omega)] at h1
    exact allO_mem h ns hns p i (by omega) h1
def intsTo (n : Nat) : List Int := ([1, 2, 3, 4, 5, 6, 7] : List Int).take n
theorem intsTo_mem : ∀ n : Nat, n ≤ 7 → ∀ x : Int, 1 ≤ x → x ≤ n → x ∈ intsTo n := by
  intro n hn x h1 h2
  have hx : x = 1 ∨ x = 2 ∨ x = 3 ∨ x = 4 ∨ x = 5 ∨ x = 6 ∨ x = 7 := by omega
  have hn' : n = 0 ∨ n = 1 ∨ n = 2 ∨ n = 3 ∨ n = 4 ∨ n = 5 ∨ n = 6 ∨ n = 7 := by omega
  rcases hn' with rfl | rfl | rfl | rfl | rfl | rfl | rfl | rfl <;> rcases hx with rfl | rfl | rfl | rfl | rfl | rfl | rfl <;> first | (exfalso; omega) | simp [intsTo]
theorem orders_all {l : List Int} (h : isOrd l = true) (p : List Int → Bool) (hp : ∀ n ∈ [1, 2, 3, 4, 5, 6, 7], allO (intsTo n) p n [] = true) : p l = true := by
  have hl := isOrd_len h
  have hm : l.length ∈ [1, 2, 3, 4, 5, 6, 7] := by
    have : l.length = 1 ∨ l.length = 2 ∨ l.length = 3 ∨ l.length = 4 ∨ l.length = 5 ∨ l.length = 6 ∨ l.length = 7 := by omega
    simp [this]
  refine allO_mem h (intsTo l.length) (fun x h1 h2 => intsTo_mem l.length hl.2 x h1 h2) p l.length (Nat.le_refl _) ?_
  rw [List.drop_length]
  exact hp _ hm

theorem isOrd_of {l : List Int} (h1 : 1 ≤ l.length) (h2 : l.length ≤ 7) (hd : l.Nodup) (hm : ∀ x ∈ l, 1 ≤ x ∧ x ≤ l.length) : isOrd l = true := by
  simp only [isOrd, Bool.and_eq_true, decide_eq_true_eq]
  refine ⟨h1, h2, (allFrom_iff _ _ _).2 fun j _ hj => ?_⟩
  have hj' : j < l.length := by omega
  have := hm (nth l j) (by rw [nth_lt _ _ hj']; exact List.getElem_mem hj')
  have hn : nth l j ∉ l.take j := by
    intro hc
    obtain ⟨i, hi, e⟩ := List.mem_take_iff_getElem.1 hc
    rw [nth_lt _ _ hj'] at e
    have := (List.getElem_inj hd).1 e
    omega
  simp [ordAt, this.1, this.2, hn]

/-! orders: no number twice; all numbers there -/
theorem isOrd_nodup {l : List Int} (h : isOrd l = true) : l.Nodup := by
  refine List.pairwise_iff_getElem.2 fun i j hi hj hij e => (isOrd_at h j hj).2.2 ?_
  rw [nth_lt _ _ hj, ← e]
  exact List.mem_take_iff_getElem.2 ⟨i, by omega, rfl⟩
theorem isOrd_all_ : ∀ n ∈ [1, 2, 3, 4, 5, 6, 7], allO (intsTo n) (fun l => (intsTo l.length).all fun x => l.contains x) n [] = true := by decide +kernel
theorem isOrd_all {l : List Int} (h : isOrd l = true) (x : Int) (h1 : 1 ≤ x) (h2 : x ≤ l.length) : x ∈ l := by
  have := orders_all h _ isOrd_all_
  rw [List.all_eq_true] at this
  simpa using this x (intsTo_mem l.length (isOrd_len h).2 x h1 h2)
theorem isOrd_mem {l : List Int} (h : isOrd l = true) (x : Int) (hx : x ∈ l) : 1 ≤ x ∧ x ≤ l.length := by
  obtain ⟨i, hi, e⟩ := List.mem_iff_getElem.1 hx
  have := isOrd_at h i hi
  rw [nth_lt _ _ hi, e] at this
  exact ⟨this.1, this.2.1⟩
/-- two lists of the same numbers, none twice -/
structure Twin (o t : List Int) : Prop where
  len : o.length = t.length
  ndo : o.Nodup
  ndt : t.Nodup
  fwd : ∀ x ∈ o, x ∈ t
  bwd : ∀ x ∈ t, x ∈ o
theorem Twin.ord {l s : List Int} (hl : isOrd l = true) (hs : isOrd s = true) (h : l.length = s.length) : Twin l s :=
  ⟨h, isOrd_nodup hl, isOrd_nodup hs, fun x hx => isOrd_all hs x (isOrd_mem hl x hx).1 (by have := (isOrd_mem hl x hx).2; omega), fun x hx => isOrd_all hl x (isOrd_mem hs x hx).1 (by have := (isOrd_mem hs x hx).2; omega)⟩
theorem nodup_nth {l : List Int} (h : l.Nodup) (i j : Nat) (hi : i < l.length) (hj : j < l.length) (e : nth l i = nth l j) : i = j := by
  rw [nth_lt _ _ hi, nth_lt _ _ hj] at e
  exact (List.getElem_inj h).1 e
theorem idx_at {l : List Int} (h : l.Nodup) (i : Nat) (hi : i < l.length) : idx l (nth l i) = i :=
  idx_some l _ i hi rfl fun j hj e => by have := nodup_nth h j i (by omega) hi e; omega
theorem idx_mem {l : List Int} {x : Int} (h : x ∈ l) : ∃ i : Nat, i < l.length ∧ idx l x = i ∧ nth l i = x := by
  induction l with
  | nil => cases h
  | cons y l ih =>
    by_cases e : y = x
    · exact ⟨0, by simp, by simp [idx, e], by simp [nth, e]⟩
    · have hm : x ∈ l := by
        rcases List.mem_cons.1 h with h | h
        · exact absurd h.symm e
        · exact h
      obtain ⟨i, h1, h2, h3⟩ := ih hm
      refine ⟨i + 1, by simpa using h1, ?_, by rw [nth_cons_succ]; exact h3⟩
      rw [idx, if_neg e, h2, if_neg (by omega)]
      omega
theorem nth_take (l : List Int) (c i : Nat) (h : i < c) : nth (l.take c) i = nth l i := by
  unfold nth
  rw [List.getD_eq_getElem?_getD, List.getD_eq_getElem?_getD, List.getElem?_take, if_pos h]
theorem nth_rev (l : List Int) (i : Nat) (h : i < l.length) : nth l.reverse i = nth l (l.length - 1 - i) := by
  unfold nth
  rw [List.getD_eq_getElem?_getD, List.getD_eq_getElem?_getD, List.getElem?_reverse h]

theorem l1Same_l (a b : List Int) (hn : a.length ≤ 17592186044416) (hl : a.length = b.length) : ∀ (d i : Nat), a.length = i + d → Ev (fun k => spec_l1Same.l0 k a b i) (decide (a.drop i = b.drop i))
  | 0, i, h => by
    refine Ev.step (fun k => by rw [spec_l1Same.l0]) (Ev.neg (by omega) (Ev.val ?_))
    rw [List.drop_of_length_le (by omega), List.drop_of_length_le (by omega)]; rfl
  | d + 1, i, h => by
    refine Ev.step (fun k => by rw [spec_l1Same.l0]) ?_
    have e : wrap64 ((i : Int) + 1) = ((i + 1 : Nat) : Int) := by rw [w64 (by omega)]; omega
    simp only [e]
    refine Ev.pos (by omega) (Ev.pos (by omega) (Ev.pos (by omega) (Ev.ite (fun hc => Ev.to (l1Same_l a b hn hl d (i + 1) (by omega)) ?_) (fun hc => Ev.val ?_))))
    · rw [drop_step a i (by omega), drop_step b i (by omega)]
      have hc' : nth a i = nth b i := hc
      simp [hc']
    · rw [drop_step a i (by omega), drop_step b i (by omega)]
      have hc' : ¬ nth a i = nth b i := hc
      simp [hc']
theorem l1Same_ev (a b : List Int) (hn : a.length ≤ 17592186044416) : Ev (fun k => spec_l1Same.f k a b) (decide (a = b)) := by
  unfold spec_l1Same.f
  by_cases hl : a.length = b.length
  · exact Ev.pos (by omega) (Ev.to (l1Same_l a b hn hl a.length 0 (by omega)) (by simp))
  · refine Ev.neg (by omega) (Ev.val ?_)
    have : a ≠ b := fun e => hl (by rw [e])
    simp [this]

theorem Equal_l (a b : List Int) (hn : a.length ≤ 17592186044416) (hl : a.length = b.length) : ∀ (d i : Nat), a.length = i + d → Ev (fun k => slices_Equal_int_int.l0 k a b (a.length : Int) i) (decide (a.drop i = b.drop i))
  | 0, i, h => by
    refine Ev.step (fun k => by rw [slices_Equal_int_int.l0]) (Ev.neg (by omega) (Ev.val ?_))
    rw [List.drop_of_length_le (by omega), List.drop_of_length_le (by omega)]; rfl
  | d + 1, i, h => by
    refine Ev.step (fun k => by rw [slices_Equal_int_int.l0]) ?_
    have e : wrap64 ((i : Int) + 1) = ((i + 1 : Nat) : Int) := by rw [w64 (by omega)]; omega
    simp only [e]
    refine Ev.pos (by omega) (Ev.pos (by omega) (Ev.pos (by omega) (Ev.pos (by omega) (Ev.ite (fun hc => Ev.to (Equal_l a b hn hl d (i + 1) (by omega)) ?_) (fun hc => Ev.val ?_)))))
    · rw [drop_step a i (by omega), drop_step b i (by omega)]
      have hc' : nth a i = nth b i := hc
      simp [hc']
    · rw [drop_step a i (by omega), drop_step b i (by omega)]
      have hc' : ¬ nth a i = nth b i := hc
      simp [hc']
theorem Equal_ev (a b : List Int) (hn : a.length ≤ 17592186044416) : Ev (fun k => slices_Equal_int_int.f k a b) (decide (a = b)) := by
  unfold slices_Equal_int_int.f
  by_cases hl : a.length = b.length
  · exact Ev.pos (by omega) (Ev.to (Equal_l a b hn hl a.length 0 (by omega)) (by simp))
  · refine Ev.neg (by omega) (Ev.val ?_)
    have : a ≠ b := fun e => hl (by rw [e])
    simp [this]

/-! cuts: numbers of at least 1 whose sum is n -/
def cutsOk : Int → List Int → Bool
  | n, [] => n == 0
  | n, c :: cs => decide (1 ≤ c) && (decide (c ≤ n) && cutsOk (n - c) cs)
theorem cutsOk_neg (l : List Int) (n : Int) (h : n < 0) : cutsOk n l = false := by
  cases l with
  | nil => simp [cutsOk]; omega
  | cons c cs =>
    by_cases h1 : 1 ≤ c
    · have : ¬ c ≤ n := by omega
      simp [cutsOk, this]
    · simp [cutsOk, h1]
theorem cutsOk_len : ∀ (l : List Int) (n : Int), cutsOk n l = true → (l.length : Int) ≤ n
  | [], n, h => by simp [cutsOk] at h; simp [h]
  | c :: cs, n, h => by
    simp only [cutsOk, Bool.and_eq_true, decide_eq_true_eq] at h
    have := cutsOk_len cs (n - c) h.2.2
    simp only [List.length_cons]
    omega
def isCuts (n : Int) (l : List Int) : Bool := decide (1 ≤ n ∧ n ≤ 7) && cutsOk n l

theorem l2Back_l (l : List Int) (hn : l.length ≤ 17592186044415) : ∀ (i : Nat) (acc : List Int), i ≤ l.length → acc.length + i ≤ l.length → Ev (fun k => spec_l2Back.l0 k l acc ((i : Int) - 1)) (acc ++ (l.take i).reverse)
  | 0, acc, hi, ha => by
    refine Ev.step (fun k => by rw [spec_l2Back.l0]) ?_
    exact Ev.neg (by omega) (Ev.val (by simp))
  | i + 1, acc, hi, ha => by
    have e : ((i + 1 : Nat) : Int) - 1 = (i : Int) := by omega
    have e2 : wrap64 ((i : Int) - 1) = (i : Int) - 1 := w64 (by omega)
    simp only [e]
    refine Ev.step (fun k => by rw [spec_l2Back.l0]) ?_
    simp only [e2, rd_nat]
    refine Ev.pos (by omega) (Ev.pos (by omega) (Ev.pos (by omega) (Ev.pos (by omega) ?_)))
    refine (l2Back_l l hn i (acc ++ [nth l i]) (by omega) (by simp; omega)).to ?_
    rw [take_step l i (by omega)]
    simp
theorem l2Back_ev (l : List Int) (hn : l.length ≤ 17592186044415) : Ev (fun k => spec_l2Back.f k l) l.reverse := by
  unfold spec_l2Back.f
  have e : wrap64 ((l.length : Int) - 1) = (l.length : Int) - 1 := w64 (by omega)
  simp only [e]
  refine (l2Back_l l hn l.length [] (Nat.le_refl _) (by simp)).to ?_
  simp

theorem nth_right (A B : List Int) (i : Nat) (h : A.length ≤ i) : nth (A ++ B) i = nth B (i - A.length) := by
  simp [nth, List.getD_eq_getElem?_getD, List.getElem?_append_right h]
theorem Reverse_l : ∀ (n : Nat) (A M B : List Int), M.length = n → (A ++ (M ++ B)).length ≤ 17592186044415 → Ev (fun k => slices_Reverse_int_int.l0 k (A ++ (M ++ B)) (A.length : Int) ((A.length : Int) + (M.length : Int) - 1)) (A ++ (M.reverse ++ B)) := by
  intro n
  induction n using Nat.strongRecOn with
  | _ n ih =>
    intro A M B hM hn
    by_cases h2 : n < 2
    · refine Ev.step (fun k => by rw [slices_Reverse_int_int.l0]) ?_
      refine Ev.neg (by omega) (Ev.val ?_)
      have : M = [] ∨ ∃ a, M = [a] := by
        rcases M with _ | ⟨a, _ | ⟨b, M⟩⟩
        · exact .inl rfl
        · exact .inr ⟨a, rfl⟩
        · simp at hM; omega
      rcases this with rfl | ⟨a, rfl⟩ <;> simp
    · obtain ⟨a, M', b, rfl⟩ : ∃ a M' b, M = a :: (M' ++ [b]) := by
        rcases M with _ | ⟨a, M⟩
        · simp at hM; omega
        · rcases List.eq_nil_or_concat M with rfl | ⟨M', b, rfl⟩
          · simp at hM; omega
          · exact ⟨a, M', b, by simp⟩
      have hl : M'.length + 2 = n := by simp at hM; omega
      have hn' : A.length + (M'.length + 2 + B.length) ≤ 17592186044415 := by simp at hn; omega
      refine Ev.step (fun k => by rw [slices_Reverse_int_int.l0]) ?_
      have e1 : (A.length : Int) + ((a :: (M' ++ [b])).length : Int) - 1 = ((A.length + 1 + M'.length : Nat) : Int) := by simp; omega
      have e2 : wrap64 ((A.length : Int) + 1) = ((A.length + 1 : Nat) : Int) := by rw [w64 (by omega)]; omega
      have e3 : wrap64 (((A.length + 1 + M'.length : Nat) : Int) - 1) = ((A.length + M'.length : Nat) : Int) := by rw [w64 (by omega)]; omega
      have g1 : nth (A ++ (a :: (M' ++ [b]) ++ B)) (A.length + 1 + M'.length) = b := by
        have : A ++ (a :: (M' ++ [b]) ++ B) = (A ++ a :: M') ++ (b :: B) := by simp
        rw [this, nth_right _ _ _ (by simp; omega)]
        have : A.length + 1 + M'.length - (A ++ a :: M').length = 0 := by simp; omega
        rw [this]; rfl
      have g2 : nth (A ++ (a :: (M' ++ [b]) ++ B)) A.length = a := by
        rw [nth_right _ _ _ (Nat.le_refl _)]
        simp [nth]
      have g3 : ((A ++ (a :: (M' ++ [b]) ++ B)).set A.length b).set (A.length + 1 + M'.length) a = (A ++ [b]) ++ (M' ++ (a :: B)) := by
        have h1 : (A ++ (a :: (M' ++ [b]) ++ B)).set A.length b = (A ++ b :: M') ++ (b :: B) := by
          rw [List.set_append_right _ _ (Nat.le_refl _)]; simp
        rw [h1, List.set_append_right _ _ (by simp; omega)]
        have : A.length + 1 + M'.length - (A ++ b :: M').length = 0 := by simp; omega
        rw [this]; simp
      simp only [e1, e2, e3, rd_nat, Int.toNat_natCast, g1, g2, g3]
      have hlen : (A ++ (a :: (M' ++ [b]) ++ B)).length = A.length + (M'.length + 2 + B.length) := by simp; omega
      refine Ev.pos (by omega) (Ev.pos (by omega) (Ev.pos (by rw [hlen]; omega) (Ev.pos (by omega) (Ev.pos (by rw [hlen]; omega) ?_))))
      have := ih M'.length (by omega) (A ++ [b]) M' (a :: B) rfl (by simp; omega)
      have e4 : ((A ++ [b]).length : Int) + (M'.length : Int) - 1 = ((A.length + M'.length : Nat) : Int) := by simp; omega
      have e5 : ((A ++ [b]).length : Int) = ((A.length + 1 : Nat) : Int) := by simp
      rw [e4, e5] at this
      refine this.to ?_
      simp
theorem Reverse_ev (l : List Int) (hn : l.length ≤ 17592186044415) : Ev (fun k => slices_Reverse_int_int.f k l) l.reverse := by
  unfold slices_Reverse_int_int.f
  have e : wrap64 ((l.length : Int) - 1) = (([] : List Int).length : Int) + (l.length : Int) - 1 := by rw [w64 (by omega)]; simp
  have := Reverse_l l.length [] l [] rfl (by simpa using hn)
  simp only [e]
  simpa using this
theorem back_ev (l : List Int) (hn : l.length ≤ 17592186044415) : Ev (fun k => impl_back.f k l) l.reverse := by
  unfold impl_back.f
  refine Ev.bind (a := l) ?_ (Ev.bind (Reverse_ev l hn) (Ev.val rfl))
  unfold slices_Clone_int_int.f
  exact Ev.pos (by omega) (Ev.val rfl)

/-! what comes out by cuts -/
def runL : List Int → List Int → List Int
  | _, [] => []
  | l, c :: cs => (l.take c.toNat).reverse ++ runL (l.drop c.toNat) cs
theorem runL_length : ∀ (cs l : List Int), (runL l cs).length ≤ l.length
  | [], l => by simp [runL]
  | c :: cs, l => by
    have := runL_length cs (l.drop c.toNat)
    simp [runL] at this ⊢
    omega
theorem l6Run_l (l cs : List Int) (hn : l.length ≤ 17592186044415) (hc : cs.length ≤ 17592186044415) : ∀ (d i f : Nat) (acc : List Int), cs.length = i + d → f ≤ l.length → acc.length = f → cutsOk ((l.length - f : Nat) : Int) (cs.drop i) = true → Ev (fun k => spec_l6Run.l0 k l cs acc f i) (acc ++ runL (l.drop f) (cs.drop i))
  | 0, i, f, acc, h, hf, ha, ho => by
    refine Ev.step (fun k => by rw [spec_l6Run.l0]) ?_
    refine Ev.neg (by omega) (Ev.val ?_)
    rw [List.drop_of_length_le (by omega : cs.length ≤ i)]
    simp [runL]
  | d + 1, i, f, acc, h, hf, ha, ho => by
    refine Ev.step (fun k => by rw [spec_l6Run.l0]) ?_
    rw [drop_step cs i (by omega)] at ho ⊢
    simp only [cutsOk, Bool.and_eq_true, decide_eq_true_eq] at ho
    obtain ⟨m, hm⟩ : ∃ m : Nat, nth cs i = m := ⟨(nth cs i).toNat, by omega⟩
    rw [hm] at ho ⊢
    have e : wrap64 ((i : Int) + 1) = ((i + 1 : Nat) : Int) := by rw [w64 (by omega)]; omega
    have e2 : wrap64 ((f : Int) + (m : Int)) = ((f + m : Nat) : Int) := by rw [w64 (by omega)]; omega
    simp only [rd_nat, hm, e, e2, Int.toNat_natCast]
    clear e e2
    refine Ev.pos (by omega) (Ev.pos (by omega) (Ev.pos (by omega) (Ev.pos (by omega) (Ev.pos (by omega) ?_))))
    have hd : (l.take (f + m)).drop f = (l.drop f).take m := by rw [List.drop_take]; congr 1; omega
    rw [hd]
    refine Ev.bind (l2Back_ev _ (by simp; omega)) (Ev.pos (by simp; omega) ?_)
    refine (l6Run_l l cs hn hc d (i + 1) (f + m) _ (by omega) (by omega) (by simp; omega) ?_).to ?_
    · have : ((l.length - (f + m) : Nat) : Int) = ((l.length - f : Nat) : Int) - (m : Int) := by omega
      rw [this]
      exact ho.2.2
    · simp [runL, List.drop_drop]
theorem l6Run_ev (l cs : List Int) (hn : l.length ≤ 17592186044415) (ho : isCuts (l.length : Int) cs = true) : Ev (fun k => spec_l6Run.f k l cs) (runL l cs) := by
  simp only [isCuts, Bool.and_eq_true, decide_eq_true_eq] at ho
  have := cutsOk_len _ _ ho.2
  unfold spec_l6Run.f
  exact l6Run_l l cs hn (by omega) cs.length 0 0 [] (by omega) (by omega) rfl ho.2
theorem runCuts_l (cs : List Int) (hc : cs.length ≤ 17592186044415) : ∀ (d i : Nat) (l acc : List Int), cs.length = i + d → l.length + acc.length ≤ 17592186044415 → cutsOk (l.length : Int) (cs.drop i) = true → Ev (fun k => impl_runCuts.l0 k l acc cs (cs.length : Int) i) (acc ++ runL l (cs.drop i))
  | 0, i, l, acc, h, hn, ho => by
    refine Ev.step (fun k => by rw [impl_runCuts.l0]) ?_
    refine Ev.neg (by omega) (Ev.val ?_)
    rw [List.drop_of_length_le (by omega : cs.length ≤ i)]
    simp [runL]
  | d + 1, i, l, acc, h, hn, ho => by
    refine Ev.step (fun k => by rw [impl_runCuts.l0]) ?_
    rw [drop_step cs i (by omega)] at ho ⊢
    simp only [cutsOk, Bool.and_eq_true, decide_eq_true_eq] at ho
    obtain ⟨m, hm⟩ : ∃ m : Nat, nth cs i = m := ⟨(nth cs i).toNat, by omega⟩
    rw [hm] at ho ⊢
    have e : wrap64 ((i : Int) + 1) = ((i + 1 : Nat) : Int) := by rw [w64 (by omega)]; omega
    simp only [rd_nat, hm, e, Int.toNat_natCast]
    clear e
    refine Ev.pos (by omega) (Ev.pos (by omega) (Ev.pos (by omega) (Ev.pos (by omega) (Ev.pos (by omega) ?_))))
    refine Ev.bind (back_ev _ (by simp; omega)) (Ev.pos (by simp; omega) ?_)
    refine (runCuts_l cs hc d (i + 1) (l.drop m) _ (by omega) (by simp; omega) ?_).to ?_
    · have : ((l.drop m).length : Int) = (l.length : Int) - (m : Int) := by simp; omega
      rw [this]
      exact ho.2.2
    · simp [runL]
theorem runCuts_ev (l cs : List Int) (hn : l.length ≤ 17592186044415) (ho : isCuts (l.length : Int) cs = true) : Ev (fun k => impl_runCuts.f k l cs) (runL l cs) := by
  simp only [isCuts, Bool.and_eq_true, decide_eq_true_eq] at ho
  have := cutsOk_len _ _ ho.2
  unfold impl_runCuts.f
  exact runCuts_l cs (by omega) cs.length 0 l [] (by omega) (by simpa using hn) ho.2

/-! the cuts by which one order comes out of another -/
theorem rev_idx {o t : List Int} (h : Twin o t) (c : Nat) (h1 : 1 ≤ c) (h2 : c ≤ o.length) (e : (o.take c).reverse = t.take c) : idx t (nth o 0) = (c : Int) - 1 ∧ idx o (nth t 0) = (c : Int) - 1 := by
  have hl := h.len
  have e1 : nth t (c - 1) = nth o 0 := by
    have this : nth (o.take c).reverse (c - 1) = nth (t.take c) (c - 1) := by rw [e]
    rw [nth_take _ _ _ (by omega), nth_rev _ _ (by rw [List.length_take]; omega), nth_take _ _ _ (by rw [List.length_take]; omega)] at this
    rw [← this, List.length_take, Nat.min_eq_left h2, show c - 1 - (c - 1) = 0 by omega]
  have e2 : nth o (c - 1) = nth t 0 := by
    have this : nth (o.take c).reverse 0 = nth (t.take c) 0 := by rw [e]
    rw [nth_take _ _ _ (by omega), nth_rev _ _ (by rw [List.length_take]; omega), nth_take _ _ _ (by rw [List.length_take]; omega)] at this
    rw [← this, List.length_take, Nat.min_eq_left h2, Nat.sub_zero]
  constructor
  · rw [← e1, idx_at h.ndt _ (by omega)]; omega
  · rw [← e2, idx_at h.ndo _ (by omega)]; omega
theorem Twin.cut {o t : List Int} (h : Twin o t) (c : Nat) (e : (o.take c).reverse = t.take c) : Twin (o.drop c) (t.drop c) := by
  have hno : (o.take c ++ o.drop c).Nodup := by rw [List.take_append_drop]; exact h.ndo
  have hnt : (t.take c ++ t.drop c).Nodup := by rw [List.take_append_drop]; exact h.ndt
  rw [List.nodup_append] at hno hnt
  refine ⟨by simp [h.len], hno.2.1, hnt.2.1, fun x hx => ?_, fun x hx => ?_⟩
  · have := h.fwd x (List.mem_of_mem_drop hx)
    rw [← List.take_append_drop c t, List.mem_append] at this
    rcases this with h3 | h3
    · rw [← e, List.mem_reverse] at h3
      exact absurd rfl (hno.2.2 x h3 x hx)
    · exact h3
  · have := h.bwd x (List.mem_of_mem_drop hx)
    rw [← List.take_append_drop c o, List.mem_append] at this
    rcases this with h3 | h3
    · rw [← List.mem_reverse, e] at h3
      exact absurd rfl (hnt.2.2 x h3 x hx)
    · exact h3
/-- with d numbers left at most: the cuts from here on, if there are such -/
def cutsM : Nat → List Int → List Int → Option (List Int)
  | 0, _, _ => some []
  | d + 1, o, t => if o = [] then some [] else if (o.take (idx t (nth o 0) + 1).toNat).reverse = t.take (idx t (nth o 0) + 1).toNat then (cutsM d (o.drop (idx t (nth o 0) + 1).toNat) (t.drop (idx t (nth o 0) + 1).toNat)).map (fun r => (idx t (nth o 0) + 1) :: r) else none
def cutsR (acc : List Int) (q : Option (List Int)) : List Int × Bool := match q with | some r => (acc ++ r, true) | none => ([], false)
theorem cutsR_cons (acc : List Int) (c : Int) (q : Option (List Int)) : cutsR acc (q.map fun r => c :: r) = cutsR (acc ++ [c]) q := by
  cases q <;> simp [cutsR]
theorem cutsTo_l : ∀ (d : Nat) (o t acc : List Int), o.length ≤ d → acc.length + d ≤ 1000 → o.length ≤ 1000 → Twin o t → Ev (fun k => impl_cutsTo.l0 k o t acc) (cutsR acc (cutsM d o t))
  | 0, o, t, acc, hd, ha, hb, h => by
    refine Ev.step (fun k => by rw [impl_cutsTo.l0]) (Ev.neg (by omega) (Ev.val ?_))
    simp [cutsM, cutsR]
  | d + 1, o, t, acc, hd, ha, hb, h => by
    refine Ev.step (fun k => by rw [impl_cutsTo.l0]) ?_
    have hl := h.len
    by_cases e0 : o = []
    · refine Ev.neg (by simp [e0]) (Ev.val ?_)
      simp [cutsM, cutsR, e0]
    have hp : 0 < o.length := List.length_pos_iff.2 e0
    refine Ev.pos (by omega) (Ev.pos (by omega) (Ev.bind (Index_ev t _ (by omega)) ?_))
    obtain ⟨q, hq, e1, e2⟩ := idx_mem (h.fwd (nth o 0) (by rw [nth_lt _ _ hp]; exact List.getElem_mem hp))
    have e3 : rd o 0 = nth o 0 := rfl
    rw [e3]
    have e4 : wrap64 (idx t (nth o 0) + 1) = ((q + 1 : Nat) : Int) := by rw [e1, w64 (by omega)]; omega
    have e5 : idx t (nth o 0) + 1 = ((q + 1 : Nat) : Int) := by rw [e1]; omega
    simp only [e4]
    clear e4
    refine Ev.pos (by omega) (Ev.pos (by omega) (Ev.bind (back_ev _ (by rw [List.length_take]; omega)) (Ev.pos (by omega) (Ev.bind (Equal_ev _ _ (by rw [List.length_reverse, List.length_take]; omega)) (Ev.ite (fun hc => ?_) (fun hc => Ev.val ?_))))))
    · rw [Int.toNat_natCast] at *
      have hc' : (o.take (q + 1)).reverse = t.take (q + 1) := by simpa using hc
      refine Ev.pos (by omega) ?_
      have := cutsTo_l d (o.drop (q + 1)) (t.drop (q + 1)) (acc ++ [((q + 1 : Nat) : Int)]) (by rw [List.length_drop]; omega) (by simp; omega) (by rw [List.length_drop]; omega) (h.cut (q + 1) hc')
      refine Ev.to this ?_
      rw [cutsM, if_neg e0, e5, Int.toNat_natCast, if_pos hc', cutsR_cons]
    · rw [Int.toNat_natCast] at *
      have hc' : ¬ (o.take (q + 1)).reverse = t.take (q + 1) := by simpa using hc
      rw [cutsM, if_neg e0, e5, Int.toNat_natCast, if_neg hc']
      rfl
theorem cutsTo_ev (l s : List Int) (hl : isOrd l = true) (h : Twin l s) : Ev (fun k => impl_cutsTo.f k l s) (cutsR [] (cutsM 7 l s)) := by
  have := isOrd_len hl
  exact cutsTo_l 7 l s [] (by omega) (by simp) (by omega) h
/-- the check of one part, told by the reference's own place -/
theorem cut_same {o t : List Int} (h : Twin o t) (hp : 0 < o.length) (p : Nat) (hpl : p < o.length) (e : idx o (nth t 0) = p) :
    ((o.take (p + 1)).reverse = t.take (p + 1) → idx t (nth o 0) = p) ∧ (¬ (o.take (p + 1)).reverse = t.take (p + 1) → ¬ (o.take (idx t (nth o 0) + 1).toNat).reverse = t.take (idx t (nth o 0) + 1).toNat) := by
  have hl := h.len
  constructor
  · intro hc
    have := (rev_idx h (p + 1) (by omega) (by omega) hc).1
    omega
  · intro hc hd
    obtain ⟨q, hq, e1, _⟩ := idx_mem (h.fwd (nth o 0) (by rw [nth_lt _ _ hp]; exact List.getElem_mem hp))
    have e5 : idx t (nth o 0) + 1 = ((q + 1 : Nat) : Int) := by rw [e1]; omega
    rw [e5, Int.toNat_natCast] at hd
    have := (rev_idx h (q + 1) (by omega) (by omega) hd).2
    have : p = q := by omega
    exact hc (this ▸ hd)
theorem cutsM_more : ∀ (d e : Nat) (o t : List Int), o.length ≤ d → Twin o t → cutsM (d + e) o t = cutsM d o t
  | 0, e, o, t, hd, h => by
    obtain rfl : o = [] := List.eq_nil_of_length_eq_zero (by omega)
    cases e <;> simp [cutsM]
  | d + 1, e, o, t, hd, h => by
    rw [show d + 1 + e = d + e + 1 by omega, cutsM, cutsM]
    by_cases e0 : o = []
    · rw [if_pos e0, if_pos e0]
    have hp : 0 < o.length := List.length_pos_iff.2 e0
    obtain ⟨q, hq, e1, _⟩ := idx_mem (h.fwd (nth o 0) (by rw [nth_lt _ _ hp]; exact List.getElem_mem hp))
    have e5 : idx t (nth o 0) + 1 = ((q + 1 : Nat) : Int) := by rw [e1]; omega
    rw [if_neg e0, if_neg e0, e5, Int.toNat_natCast]
    by_cases hc : (o.take (q + 1)).reverse = t.take (q + 1)
    · rw [if_pos hc, if_pos hc, cutsM_more d e _ _ (by rw [List.length_drop]; omega) (h.cut (q + 1) hc)]
    · rw [if_neg hc, if_neg hc]
theorem cutsM_len : ∀ (d : Nat) (o t r : List Int), cutsM d o t = some r → r.length ≤ d
  | 0, o, t, r, h => by simp [cutsM] at h; simp [← h]
  | d + 1, o, t, r, h => by
    rw [cutsM] at h
    split at h
    · injection h with h; simp [← h]
    · split at h
      · obtain ⟨r', h1, h2⟩ := Option.map_eq_some_iff.1 h
        have := cutsM_len d _ _ _ h1
        simp [← h2]; omega
      · cases h
theorem drop_nth (l : List Int) (f i : Nat) : nth (l.drop f) i = nth l (f + i) := by
  unfold nth
  rw [List.getD_eq_getElem?_getD, List.getD_eq_getElem?_getD, List.getElem?_drop]
set_option maxHeartbeats 2000000 in
theorem l6To_l : ∀ (d f : Nat) (l s acc : List Int), l.length = f + d → acc.length + d ≤ 1000 → l.length ≤ 1000 → l.length = s.length → Twin (l.drop f) (s.drop f) → Ev (fun k => spec_l6To.l0 k l s acc f) (cutsR acc (cutsM d (l.drop f) (s.drop f)))
  | 0, f, l, s, acc, hd, ha, hb, hls, h => by
    refine Ev.step (fun k => by rw [spec_l6To.l0]) (Ev.neg (by omega) (Ev.val ?_))
    simp [cutsM, cutsR]
  | d + 1, f, l, s, acc, hd, ha, hb, hls, h => by
    refine Ev.step (fun k => by rw [spec_l6To.l0]) (Ev.pos (by omega) ?_)
    have hp : 0 < (l.drop f).length := by rw [List.length_drop]; omega
    have hps : 0 < (s.drop f).length := by rw [List.length_drop]; omega
    have e0 : l.drop f ≠ [] := List.length_pos_iff.1 hp
    obtain ⟨p, hpl, e1, e2⟩ := idx_mem (h.bwd (nth (s.drop f) 0) (by rw [nth_lt _ _ hps]; exact List.getElem_mem hps))
    rw [List.length_drop] at hpl
    have hs0 : nth (s.drop f) 0 = nth s f := drop_nth s f 0
    have hl0 : nth (l.drop f) p = nth l (f + p) := drop_nth l f p
    -- behind the search
    have key : Ev (fun k => spec_l6To.j2 k l s acc (f : Int) ((f + p : Nat) : Int)) (cutsR acc (cutsM (d + 1) (l.drop f) (s.drop f))) := by
      refine Ev.step (fun k => by rw [spec_l6To.j2]) (Ev.neg (by omega) ?_)
      have e6 : wrap64 (((f + p : Nat) : Int) + 1) = ((f + (p + 1) : Nat) : Int) := by rw [w64 (by omega)]; omega
      simp only [e6, Int.toNat_natCast]
      clear e6
      have t1 : (l.take (f + (p + 1))).drop f = (l.drop f).take (p + 1) := by rw [List.drop_take, Nat.add_sub_cancel_left]
      have t2 : (s.take (f + (p + 1))).drop f = (s.drop f).take (p + 1) := by rw [List.drop_take, Nat.add_sub_cancel_left]
      rw [t1, t2]
      have hcs := cut_same h hp p (by rw [List.length_drop]; omega) e1
      refine Ev.pos (by omega) (Ev.pos (by omega) (Ev.pos (by omega) (Ev.bind (l2Back_ev _ (by rw [List.length_take, List.length_drop]; omega)) (Ev.pos (by omega) (Ev.bind (l1Same_ev _ _ (by rw [List.length_reverse, List.length_take, List.length_drop]; omega)) (Ev.ite (fun hc => ?_) (fun hc => Ev.val ?_)))))))
      · have hc' : ((l.drop f).take (p + 1)).reverse = (s.drop f).take (p + 1) := by simpa using hc
        have hq := hcs.1 hc'
        have e7 : wrap64 (((f + (p + 1) : Nat) : Int) - (f : Int)) = ((p + 1 : Nat) : Int) := by rw [w64 (by omega)]; omega
        have e8 : idx (s.drop f) (nth (l.drop f) 0) + 1 = ((p + 1 : Nat) : Int) := by rw [hq]; omega
        rw [e7]
        clear e7
        refine Ev.pos (by omega) ?_
        have hcut := h.cut (p + 1) hc'
        rw [List.drop_drop, List.drop_drop] at hcut
        have := l6To_l (d - p) (f + (p + 1)) l s (acc ++ [((p + 1 : Nat) : Int)]) (by omega) (by simp; omega) hb hls hcut
        refine Ev.to this ?_
        rw [cutsM, if_neg e0, e8, Int.toNat_natCast, if_pos hc', cutsR_cons, List.drop_drop, List.drop_drop]
        have hm := cutsM_more (d - p) p (l.drop (f + (p + 1))) (s.drop (f + (p + 1))) (by rw [List.length_drop]; omega) hcut
        rw [show d - p + p = d by omega] at hm
        rw [hm]
      · have hc' : ¬ ((l.drop f).take (p + 1)).reverse = (s.drop f).take (p + 1) := by simpa using hc
        rw [cutsM, if_neg e0, if_neg (hcs.2 hc')]
        rfl
    -- the search
    have srch : ∀ e i : Nat, i + e = p → Ev (fun k => spec_l6To.l1 k l s acc (f : Int) ((f + i : Nat) : Int)) (cutsR acc (cutsM (d + 1) (l.drop f) (s.drop f))) := by
      intro e
      induction e with
      | zero =>
        intro i hi
        obtain rfl : i = p := by omega
        refine Ev.step (fun k => by rw [spec_l6To.l1]) (Ev.pos (by omega) (Ev.pos (by omega) (Ev.pos (by omega) (Ev.pos (by omega) (Ev.pos ?_ key)))))
        rw [rd_nat, rd_nat, ← hl0, e2, hs0]
      | succ e ih =>
        intro i hi
        refine Ev.step (fun k => by rw [spec_l6To.l1]) (Ev.pos (by omega) (Ev.pos (by omega) (Ev.pos (by omega) (Ev.pos (by omega) (Ev.neg ?_ ?_)))))
        · rw [rd_nat, rd_nat, ← hs0, ← drop_nth]
          intro hq
          have := idx_at h.ndo i (by rw [List.length_drop]; omega)
          rw [hq, e1] at this
          omega
        · have e6 : wrap64 (((f + i : Nat) : Int) + 1) = ((f + (i + 1) : Nat) : Int) := by rw [w64 (by omega)]; omega
          simp only [e6]
          clear e6
          exact ih (i + 1) (by omega)
    have hfin := srch p 0 (by omega)
    rw [Nat.add_zero] at hfin
    exact hfin
theorem l6To_ev (l s : List Int) (hl : isOrd l = true) (h : Twin l s) : Ev (fun k => spec_l6To.f k l s) (cutsR [] (cutsM 7 l s)) := by
  have hn := isOrd_len hl
  have := cutsM_more l.length (7 - l.length) l s (Nat.le_refl _) h
  rw [show l.length + (7 - l.length) = 7 by omega] at this
  rw [this]
  have h1 := l6To_l l.length 0 l s [] (by omega) (by simp; omega) (by omega) h.len (by rw [List.drop_zero, List.drop_zero]; exact h)
  rw [List.drop_zero, List.drop_zero] at h1
  exact h1

/-! two cuts -/
theorem runL_perm : ∀ (cs l : List Int), cutsOk (l.length : Int) cs = true → (runL l cs).Perm l
  | [], l, h => by
    have : l = [] := by
      simp only [cutsOk] at h
      exact List.eq_nil_of_length_eq_zero (by simpa using h)
    subst this
    exact List.Perm.refl _
  | c :: cs, l, h => by
    simp only [cutsOk, Bool.and_eq_true, decide_eq_true_eq] at h
    have ih := runL_perm cs (l.drop c.toNat) (by
      have e : (l.length : Int) - c = ((l.drop c.toNat).length : Int) := by rw [List.length_drop]; omega
      rw [← e]; exact h.2.2)
    rw [runL]
    exact ((List.reverse_perm _).append ih).trans (by rw [List.take_append_drop])
theorem runL_ord {l cs : List Int} (hl : isOrd l = true) (hc : isCuts (l.length : Int) cs = true) : isOrd (runL l cs) = true ∧ (runL l cs).length = l.length := by
  have hp := runL_perm cs l (by simp only [isCuts, Bool.and_eq_true] at hc; exact hc.2)
  have hn := isOrd_len hl
  have e := hp.length_eq
  exact ⟨isOrd_of (by omega) (by omega) (hp.nodup_iff.2 (isOrd_nodup hl)) (fun x hx => by rw [e]; exact isOrd_mem hl x (hp.mem_iff.1 hx)), e⟩
def cutsT (n : Nat) : List (List Int) := match impl_allCuts.f 300 (n : Int) with | some t => t | none => []
set_option maxRecDepth 100000 in
theorem cutsT_ : ∀ n ∈ [1, 2, 3, 4, 5, 6, 7], ((impl_allCuts.f 300 ((n : Nat) : Int) == some (cutsT n)) && (((cutsT n).length == 2 ^ (n - 1)) && ((List.range (2 ^ (n - 1))).all fun (k : Nat) => (spec_l6At.f 300 (n : Int) (k : Int) == some ((cutsT n).getD k [])) && isCuts (n : Int) ((cutsT n).getD k [])))) = true := by decide +kernel
theorem cutsT_at (n : Nat) (h1 : 1 ≤ n) (h7 : n ≤ 7) : impl_allCuts.f 300 (n : Int) = some (cutsT n) ∧ (cutsT n).length = 2 ^ (n - 1) ∧ ∀ k : Nat, k < (cutsT n).length → spec_l6At.f 300 (n : Int) (k : Int) = some ((cutsT n).getD k []) ∧ isCuts (n : Int) ((cutsT n).getD k []) = true := by
  have := cutsT_ n (by simp; omega)
  simp only [Bool.and_eq_true, beq_iff_eq, List.all_eq_true, List.mem_range] at this
  exact ⟨this.1, this.2.1, fun k hk => this.2.2 k (by rw [← this.2.1]; exact hk)⟩
def tcM (l s : List Int) : List (List Int) → List Int × List Int × Bool
  | [] => ([], [], false)
  | c :: cs => if (cutsR [] (cutsM 7 (runL l c) s)).2 = true then (c, (cutsR [] (cutsM 7 (runL l c) s)).1, true) else tcM l s cs
theorem pow_le (n : Nat) (h7 : n ≤ 7) : 2 ^ (n - 1) ≤ 64 := by
  have : n = 0 ∨ n = 1 ∨ n = 2 ∨ n = 3 ∨ n = 4 ∨ n = 5 ∨ n = 6 ∨ n = 7 := by omega
  rcases this with rfl | rfl | rfl | rfl | rfl | rfl | rfl | rfl <;> decide
theorem shl_is (n : Nat) (h1 : 1 ≤ n) (h7 : n ≤ 7) : shl .i64 1 ((n - 1 : Nat) : Int) = ((2 ^ (n - 1) : Nat) : Int) := by
  have : n = 1 ∨ n = 2 ∨ n = 3 ∨ n = 4 ∨ n = 5 ∨ n = 6 ∨ n = 7 := by omega
  rcases this with rfl | rfl | rfl | rfl | rfl | rfl | rfl <;> decide +kernel
theorem getD_memL {xs : List (List Int)} {i : Nat} (h : i < xs.length) : xs.getD i [] ∈ xs := by
  rw [List.getD_eq_getElem?_getD, List.getElem?_eq_getElem h]; exact List.getElem_mem h
theorem drop_stepL (l : List (List Int)) (i : Nat) (h : i < l.length) : l.drop i = l.getD i [] :: l.drop (i + 1) := by
  rw [List.getD_eq_getElem?_getD, List.getElem?_eq_getElem h]; exact List.drop_eq_getElem_cons h
theorem rd_L1_natL (xs : List (List Int)) (i : Nat) : rd_L1 xs (i : Int) = xs.getD i [] := rfl
theorem isCuts_len {n : Int} {cs : List Int} (hn : n ≤ 7) (h : isCuts n cs = true) : cs.length ≤ 7 := by
  have : ∀ (cs : List Int) (n : Int), cutsOk n cs = true → (cs.length : Int) ≤ n := by
    intro cs
    induction cs with
    | nil => intro n h; simp [cutsOk] at h; simp [h]
    | cons c cs ih =>
      intro n h
      simp only [cutsOk, Bool.and_eq_true, decide_eq_true_eq] at h
      have := ih _ h.2.2
      simp only [List.length_cons]
      omega
  simp only [isCuts, Bool.and_eq_true] at h
  have := this cs n h.2
  omega
theorem specTC_l {l s : List Int} (hl : isOrd l = true) (hs : isOrd s = true) (he : l.length = s.length) : ∀ (d i : Nat), (cutsT l.length).length = i + d → Ev (fun k => spec_TwoCuts.l0 k l s (i : Int)) (tcM l s ((cutsT l.length).drop i))
  | 0, i, h => by
    have hn := isOrd_len hl
    obtain ⟨t1, t2, t3⟩ := cutsT_at l.length hn.1 hn.2
    refine Ev.step (fun k => by rw [spec_TwoCuts.l0]) ?_
    have e := shl_is l.length hn.1 hn.2
    rw [← t2] at e
    simp only [wdn l.length (by omega) (by omega), e]
    clear e t2
    refine Ev.pos (by omega) ?_
    refine Ev.neg (by omega) (Ev.val ?_)
    rw [List.drop_of_length_le (by omega), tcM]
  | d + 1, i, h => by
    have hn := isOrd_len hl
    obtain ⟨t1, t2, t3⟩ := cutsT_at l.length hn.1 hn.2
    obtain ⟨t4, t5⟩ := t3 i (by omega)
    have hp := pow_le l.length hn.2
    have ho := runL_ord hl t5
    refine Ev.step (fun k => by rw [spec_TwoCuts.l0]) ?_
    have e := shl_is l.length hn.1 hn.2
    rw [← t2] at e
    rw [← t2] at hp
    simp only [wdn l.length (by omega) (by omega), e, wup i (by omega)]
    clear e t2
    refine Ev.pos (by omega) ?_
    refine Ev.pos (by omega) ?_
    refine Ev.bind (Ev.of (fun k => spec_l6At.mono _ _ k) t4) ?_
    refine Ev.bind (l6Run_ev l _ (by omega) t5) ?_
    refine Ev.bind (l6To_ev _ s ho.1 (Twin.ord ho.1 hs (by omega))) ?_
    rw [drop_stepL _ i (by omega), tcM]
    refine Ev.ite (fun hc => Ev.val ?_) (fun hc => ?_)
    · rw [if_pos hc]
    · rw [if_neg hc]
      exact specTC_l hl hs he d (i + 1) (by omega)
theorem implTC_l {l s : List Int} (hl : isOrd l = true) (hs : isOrd s = true) (he : l.length = s.length) : ∀ (d i : Nat), (cutsT l.length).length = i + d → Ev (fun k => impl_TwoCuts.l0 k l s (cutsT l.length) ((cutsT l.length).length : Int) (i : Int)) (tcM l s ((cutsT l.length).drop i))
  | 0, i, h => by
    have hn := isOrd_len hl
    obtain ⟨t1, t2, t3⟩ := cutsT_at l.length hn.1 hn.2
    refine Ev.step (fun k => by rw [impl_TwoCuts.l0]) ?_
    refine Ev.neg (by omega) (Ev.val ?_)
    rw [List.drop_of_length_le (by omega), tcM]
  | d + 1, i, h => by
    have hn := isOrd_len hl
    obtain ⟨t1, t2, t3⟩ := cutsT_at l.length hn.1 hn.2
    obtain ⟨t4, t5⟩ := t3 i (by omega)
    have hp := pow_le l.length hn.2
    have ho := runL_ord hl t5
    refine Ev.step (fun k => by rw [impl_TwoCuts.l0]) ?_
    rw [← t2] at hp
    clear t2
    simp only [wup i (by omega), rd_L1_natL]
    refine Ev.pos (by omega) ?_
    refine Ev.pos (by omega) ?_
    refine Ev.pos (by omega) ?_
    refine Ev.bind (runCuts_ev l _ (by omega) t5) ?_
    refine Ev.bind (cutsTo_ev _ s ho.1 (Twin.ord ho.1 hs (by omega))) ?_
    rw [drop_stepL _ i (by omega), tcM]
    refine Ev.ite (fun hc => Ev.val ?_) (fun hc => ?_)
    · rw [if_pos hc]
    · rw [if_neg hc]
      exact implTC_l hl hs he d (i + 1) (by omega)
def okTwoCuts (l s : List Int) : Bool := isOrd l && (isOrd s && decide (l.length = s.length))
def resTwoCuts (l s : List Int) : List Int × List Int × Bool := if okTwoCuts l s then tcM l s (cutsT l.length) else ([], [], false)
theorem tcM_len (l s : List Int) : ∀ cs : List (List Int), (∀ c ∈ cs, c.length ≤ 7) → (tcM l s cs).1.length ≤ 7 ∧ (tcM l s cs).2.1.length ≤ 7
  | [], _ => by simp [tcM]
  | c :: cs, h => by
    rw [tcM]
    split
    · refine ⟨h c (by simp), ?_⟩
      cases e : cutsM 7 (runL l c) s with
      | none => simp [cutsR]
      | some r => have := cutsM_len 7 _ _ r e; simp [cutsR]; omega
    · exact tcM_len l s cs fun x hx => h x (by simp [hx])
theorem resTwoCuts_length (l s : List Int) : (resTwoCuts l s).1.length ≤ 1000 ∧ (resTwoCuts l s).2.1.length ≤ 1000 := by
  unfold resTwoCuts
  split
  · rename_i h
    simp only [okTwoCuts, Bool.and_eq_true] at h
    have hn := isOrd_len h.1
    obtain ⟨t1, t2, t3⟩ := cutsT_at l.length hn.1 hn.2
    have := tcM_len l s (cutsT l.length) fun c hc => by
      obtain ⟨i, hi, e⟩ := List.mem_iff_getElem.1 hc
      have h5 := (t3 i hi).2
      rw [List.getD_eq_getElem?_getD, List.getElem?_eq_getElem hi, Option.getD_some, e] at h5
      exact isCuts_len (by omega) h5
    omega
  · simp
theorem areOrders_ev (l s : List Int) (hn : l.length ≤ 17592186044415) (hs : s.length ≤ 17592186044415) : Ev (fun k => impl_areOrders.f k l s) (okTwoCuts l s) := by
  unfold impl_areOrders.f
  refine Ev.bind (isOrder_ev l (by omega)) (Ev.ite (fun hc => Ev.bind (isOrder_ev s (by omega)) (Ev.ite (fun hd => Ev.val ?_) (fun hd => Ev.val ?_))) (fun hc => Ev.val ?_))
  · rw [Bool.eq_iff_iff]
    simp [okTwoCuts, hc, hd]
    omega
  · rw [Bool.not_eq_true] at hd; simp [okTwoCuts, hd]
  · rw [Bool.not_eq_true] at hc; simp [okTwoCuts, hc]
theorem specTwoCuts_ev (l s : List Int) (hn : l.length ≤ 17592186044415) (hs : s.length ≤ 17592186044415) : Ev (fun k => spec_TwoCuts.f k l s) (resTwoCuts l s) := by
  have bad : okTwoCuts l s = false → Ev (fun k => spec_TwoCuts.j0 k l s true) (resTwoCuts l s) := fun h => by
    refine Ev.step (fun k => by rw [spec_TwoCuts.j0]) ?_
    exact Ev.pos rfl (Ev.val (by simp [resTwoCuts, h]))
  unfold spec_TwoCuts.f
  refine Ev.bind (l2Order_ev l (by omega)) (Ev.ite (fun hc => ?_) (fun hc => bad (by rw [Bool.not_eq_true] at hc; simp [okTwoCuts, hc])))
  refine Ev.bind (l2Order_ev s (by omega)) (Ev.ite (fun hd => ?_) (fun hd => bad (by rw [Bool.not_eq_true] at hd; simp [okTwoCuts, hd])))
  by_cases he : l.length = s.length
  · have e : ((l.length : Int) != (s.length : Int)) = false := by simp [he]
    simp only [e]
    refine Ev.step (fun k => by rw [spec_TwoCuts.j0]) ?_
    refine Ev.neg (by simp) ?_
    have := specTC_l hc hd he (cutsT l.length).length 0 (by omega)
    rw [List.drop_zero] at this
    have e2 : resTwoCuts l s = tcM l s (cutsT l.length) := by simp [resTwoCuts, okTwoCuts, hc, hd, he]
    rw [e2]
    exact this
  · have e : ((l.length : Int) != (s.length : Int)) = true := by simp; omega
    simp only [e]
    exact bad (by simp [okTwoCuts, he])
theorem implTwoCuts_ev (l s : List Int) (hn : l.length ≤ 17592186044415) (hs : s.length ≤ 17592186044415) : Ev (fun k => impl_TwoCuts.f k l s) (resTwoCuts l s) := by
  unfold impl_TwoCuts.f
  refine Ev.bind (areOrders_ev l s hn hs) (Ev.ite (fun hc => ?_) (fun hc => Ev.val ?_))
  · have hc' := hc
    simp only [okTwoCuts, Bool.and_eq_true, decide_eq_true_eq] at hc'
    have hn := isOrd_len hc'.1
    obtain ⟨t1, t2, t3⟩ := cutsT_at l.length hn.1 hn.2
    refine Ev.bind (Ev.of (fun k => impl_allCuts.mono _ k) t1) ?_
    have := implTC_l hc'.1 hc'.2.1 hc'.2.2 (cutsT l.length).length 0 (by omega)
    rw [List.drop_zero] at this
    have e2 : resTwoCuts l s = tcM l s (cutsT l.length) := by simp only [resTwoCuts, hc, if_true]
    rw [e2]
    exact this
  · rw [Bool.not_eq_true] at hc; simp [resTwoCuts, hc]

theorem FnExactTwoCuts : laws_FnExactTwoCuts.Pure := by
  intro l s hm hr hw hm' hs hw'
  refine Ev.rounds (?_ : Ev (fun k => laws_FnExactTwoCuts.f k l s) true)
  unfold laws_FnExactTwoCuts.f
  refine Ev.ite (fun _ => Ev.val rfl) (fun hc => ?_)
  refine Ev.ite (fun _ => Ev.val rfl) (fun hd => ?_)
  have hR := resTwoCuts_length l s
  have hm1 : (marked 1 l.length).length ≤ 17592186044415 := by rw [marked_length]; omega
  have hsp := specTwoCuts_ev l s (by omega) (by omega)
  have him := implTwoCuts_ev l s (by omega) (by omega)
  generalize resTwoCuts l s = R at hR hsp him
  obtain ⟨A, B, b⟩ := R
  simp only at hR
  refine Ev.bind (toIntS_ev l (by omega)) ?_
  refine Ev.bind (toIntS_ev s (by omega)) ?_
  refine Ev.bind hsp ?_
  refine Ev.bind (toIntS_ev l (by omega)) ?_
  refine Ev.bind (toIntS_ev s (by omega)) ?_
  refine Ev.bind him ?_
  refine Ev.bind (eqIntS_ev A A (by omega)) (Ev.pos (by simp) ?_)
  refine Ev.bind (eqIntS_ev B B (by omega)) (Ev.pos (by simp) ?_)
  refine Ev.step (fun k => by rw [laws_FnExactTwoCuts.j0]) ?_
  refine Ev.neg (by simp) ?_
  refine Ev.bind (toIntS_ev l (by omega)) ?_
  refine Ev.bind (eqIntS_ev l l (by omega)) (Ev.pos (by simp) ?_)
  refine Ev.bind (toIntS_ev s (by omega)) ?_
  refine Ev.bind (eqIntS_ev s s (by omega)) (Ev.pos (by simp) ?_)
  refine Ev.bind (markIntS_ev l 1 (by omega) (by omega) (by omega)) ?_
  refine Ev.bind (markIntS_ev s _ (by omega) (by simp only []; omega) (by simp only []; omega)) ?_
  refine Ev.neg (by simp only []; omega) ?_
  refine Ev.bind (eqIntS_ev A A (by omega)) (Ev.pos (by simp) ?_)
  refine Ev.bind (eqIntS_ev B B (by omega)) (Ev.pos (by simp) ?_)
  refine Ev.step (fun k => by rw [laws_FnExactTwoCuts.j1]) ?_
  refine Ev.neg (by simp) ?_
  refine Ev.bind (markIntS_ev A 1 (by omega) (by omega) (by omega)) ?_
  refine Ev.bind (markIntS_ev B _ (by omega) (by simp only []; omega) (by simp only []; omega)) ?_
  refine Ev.bind (heldIntS_ev A.length 1 (by omega) (by omega) (by omega)) ?_
  refine Ev.neg (by omega) ?_
  refine Ev.bind (heldIntS_ev B.length _ (by omega) (by omega) (by omega)) ?_
  refine Ev.neg (by omega) (Ev.pos rfl ?_)
  refine Ev.bind (toIntS_ev l (by omega)) ?_
  refine Ev.bind (toIntS_ev s (by omega)) ?_
  refine Ev.bind him ?_
  refine Ev.bind (eqIntS_ev A A (by omega)) (Ev.pos (by simp) ?_)
  refine Ev.bind (eqIntS_ev B B (by omega)) (Ev.pos (by simp) ?_)
  refine Ev.step (fun k => by rw [laws_FnExactTwoCuts.j2]) ?_
  refine Ev.neg (by simp) ?_
  refine Ev.bind (heldIntS_ev A.length 1 (by omega) (by omega) (by omega)) ?_
  refine Ev.neg (by omega) ?_
  refine Ev.bind (heldIntS_ev B.length _ (by omega) (by omega) (by omega)) ?_
  exact Ev.neg (by omega) (Ev.pos rfl (Ev.val rfl))

end Go.Proofs.Ytgmhehgjmlokdaa.Pure
