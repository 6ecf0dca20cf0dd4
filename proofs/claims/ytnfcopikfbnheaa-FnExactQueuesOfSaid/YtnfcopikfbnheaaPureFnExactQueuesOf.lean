/- The program's QueuesOf returns what the reference's returns, for every list, in memory of its own. -/
import Derived.Test.YtnfcopikfbnheaaPFnExactQueuesOfx5
import Derived.Test.YtnfcopikfbnheaaK
set_option linter.unusedVariables false
set_option linter.unusedSimpArgs false
namespace Go.Proofs.Ytnfcopikfbnheaa.Pure
open Go.RowKit Go.Proofs.Ytnfcopikfbnheaa.PFnExactQueuesOf Go.Proofs.YtnfcopikfbnheaaW.PrintWords Go.Proofs.YtnfcopikfbnheaaW.PrintLast Go.Proofs.YtnfcopikfbnheaaW.PrintMore

theorem toIntS_l (x0 : List Int) (hn : x0.length ≤ 17592186044416) : ∀ (d i : Nat) (x3 : List Int), x3.length = x0.length → x3.take i = x0.take i → x0.length = i + d → Ev (fun k => laws_toIntS.l0 k x0 x3 i) x0
  | 0, i, x3, h1, h2, h3 => by
    refine Ev.step (fun k => by rw [laws_toIntS.l0]) ?_
    refine Ev.neg (by omega) (Ev.val ?_)
    rw [List.take_of_length_le (by omega), List.take_of_length_le (by omega)] at h2
    exact h2
  | d + 1, i, x3, h1, h2, h3 => by
    refine Ev.step (fun k => by rw [laws_toIntS.l0]) ?_
    refine Ev.pos (by omega) (Ev.pos (by omega) (Ev.pos (by omega) ?_))
    have e : wrap64 ((i : Int) + 1) = ((i + 1 : Nat) : Int) := by rw [w64 (by omega)]; omega
    simp only [e, Int.toNat_natCast]
    exact toIntS_l x0 hn d (i + 1) _ (by simpa using h1) (by rw [take_set_succ _ _ _ (by omega), h2, take_step _ _ (by omega), rd_nat]) (by omega)
theorem toIntS_ev (l : List Int) (hn : l.length ≤ 17592186044416) : Ev (fun k => laws_toIntS.f k l) l := by
  unfold laws_toIntS.f
  refine Ev.pos (by omega) (Ev.pos (by omega) ?_)
  exact toIntS_l l hn l.length 0 _ (by simp) (by simp) (by omega)

theorem eqIntS_l (a b : List Int) (hn : a.length ≤ 17592186044416) (hl : a.length = b.length) : ∀ (d i : Nat), a.length = i + d → Ev (fun k => laws_eqIntS.l0 k a b i) (decide (a.drop i = b.drop i))
  | 0, i, h => by
    refine Ev.step (fun k => by rw [laws_eqIntS.l0]) ?_
    refine Ev.neg (by omega) (Ev.val ?_)
    rw [List.drop_of_length_le (by omega), List.drop_of_length_le (by omega)]
    simp
  | d + 1, i, h => by
    refine Ev.step (fun k => by rw [laws_eqIntS.l0]) ?_
    refine Ev.pos (by omega) (Ev.pos (by omega) (Ev.pos (by omega) ?_))
    have e : wrap64 ((i : Int) + 1) = ((i + 1 : Nat) : Int) := by rw [w64 (by omega)]; omega
    simp only [e]
    rw [drop_step a i (by omega), drop_step b i (by omega)]
    refine Ev.ite (fun hc => ?_) (fun hc => Ev.val ?_)
    · have hc' : nth a i = nth b i := hc
      refine (eqIntS_l a b hn hl d (i + 1) (by omega)).to ?_
      rw [hc']
      simp
    · have hc' : ¬ nth a i = nth b i := hc
      simp [hc']
theorem eqIntS_ev (a b : List Int) (hn : a.length ≤ 17592186044416) : Ev (fun k => laws_eqIntS.f k a b) (decide (a = b)) := by
  unfold laws_eqIntS.f
  refine Ev.ite (fun hc => ?_) (fun hc => Ev.val ?_)
  · exact (eqIntS_l a b hn (by omega) a.length 0 (by omega)).to (by simp)
  · have : ¬ a = b := fun h => hc (by rw [h])
    simp [this]

theorem markIntS_l : ∀ (d i : Nat) (x0 : List Int) (x1 : Int), x0.length = i + d → x0.length ≤ 17592186044416 → -1000000000000000000 ≤ x1 → x1 + d ≤ 1000000000000000000 → Ev (fun k => laws_markIntS.l0 k x0 x1 i) (x1 + d, x0.take i ++ marked x1 d)
  | 0, i, x0, x1, h, hn, h1, h2 => by
    refine Ev.step (fun k => by rw [laws_markIntS.l0]) ?_
    refine Ev.neg (by omega) (Ev.val ?_)
    rw [List.take_of_length_le (by omega)]
    simp [marked]
  | d + 1, i, x0, x1, h, hn, h1, h2 => by
    refine Ev.step (fun k => by rw [laws_markIntS.l0]) ?_
    refine Ev.pos (by omega) (Ev.pos (by omega) ?_)
    have e : wrap64 ((i : Int) + 1) = ((i + 1 : Nat) : Int) := by rw [w64 (by omega)]; omega
    have e1 : wrap64 (x1 + 1) = x1 + 1 := w64 (by omega)
    simp only [e, e1, Int.toNat_natCast]
    refine (markIntS_l d (i + 1) (x0.set i x1) (x1 + 1) (by simpa using (by omega)) (by simpa using hn) (by omega) (by omega)).to ?_
    rw [take_set_succ _ _ _ (by omega)]
    simp [marked]
    omega
theorem markIntS_ev (l : List Int) (a : Int) (hn : l.length ≤ 17592186044416) (h1 : -1000000000000000 ≤ a) (h2 : a ≤ 1000000000000000) : Ev (fun k => laws_markIntS.f k l a) (a + l.length, marked a l.length) := by
  unfold laws_markIntS.f
  exact (markIntS_l l.length 0 l a (by omega) hn (by omega) (by omega)).to (by simp)

theorem heldIntS_l (n : Nat) (a : Int) (hn : n ≤ 17592186044416) (h1 : -1000000000000000 ≤ a) (h2 : a ≤ 1000000000000000) : ∀ (d i : Nat), n = i + d → Ev (fun k => laws_heldIntS.l0 k (marked a n) (a + i) i) (a + n)
  | 0, i, h => by
    refine Ev.step (fun k => by rw [laws_heldIntS.l0]) ?_
    refine Ev.neg (by rw [marked_length]; omega) (Ev.val ?_)
    omega
  | d + 1, i, h => by
    refine Ev.step (fun k => by rw [laws_heldIntS.l0]) ?_
    refine Ev.pos (by rw [marked_length]; omega) (Ev.pos (by omega) (Ev.pos (by rw [rd_nat, marked_nth n a i (by omega)]) ?_))
    have e : wrap64 ((i : Int) + 1) = ((i + 1 : Nat) : Int) := by rw [w64 (by omega)]; omega
    have e1 : wrap64 (a + i + 1) = a + ((i + 1 : Nat) : Int) := by rw [w64 (by omega)]; omega
    simp only [e, e1]
    exact heldIntS_l n a hn h1 h2 d (i + 1) (by omega)
theorem heldIntS_ev (n : Nat) (a : Int) (hn : n ≤ 17592186044416) (h1 : -1000000000000000 ≤ a) (h2 : a ≤ 1000000000000000) : Ev (fun k => laws_heldIntS.f k (marked a n) a) (a + n) := by
  unfold laws_heldIntS.f
  have := heldIntS_l n a hn h1 h2 n 0 (by omega)
  rw [show a + ((0 : Nat) : Int) = a by omega] at this
  exact this

theorem l1In_is (a b c : Int) : spec_l1In.f a b c = some (decide (b ≤ a ∧ a ≤ c)) := by
  unfold spec_l1In.f
  by_cases h : a ≥ b
  · rw [if_pos h]; simp [h]
  · rw [if_neg h]; simp; omega

theorem l1Has_l (l : List Int) (x : Int) (hn : l.length ≤ 17592186044416) : ∀ (d i : Nat), l.length = i + d → Ev (fun k => spec_l1Has.l0 k l x i) ((l.drop i).contains x)
  | 0, i, h => by
    refine Ev.step (fun k => by rw [spec_l1Has.l0]) ?_
    refine Ev.neg (by omega) (Ev.val ?_)
    rw [List.drop_of_length_le (by omega)]
    simp
  | d + 1, i, h => by
    refine Ev.step (fun k => by rw [spec_l1Has.l0]) ?_
    have e : wrap64 ((i : Int) + 1) = ((i + 1 : Nat) : Int) := by rw [w64 (by omega)]; omega
    simp only [e]
    rw [drop_step l i (by omega)]
    refine Ev.pos (by omega) (Ev.pos (by omega) (Ev.ite (fun hc => Ev.val ?_) (fun hc => ?_)))
    · have hc' : nth l i = x := hc
      rw [hc']; simp
    · have hc' : ¬ nth l i = x := hc
      refine (l1Has_l l x hn d (i + 1) (by omega)).to ?_
      have : ¬ x = nth l i := fun h => hc' h.symm
      rw [List.contains_cons]
      simp [this]
theorem l1Has_ev (l : List Int) (x : Int) (hn : l.length ≤ 17592186044416) : Ev (fun k => spec_l1Has.f k l x) (l.contains x) := by
  unfold spec_l1Has.f
  exact (l1Has_l l x hn l.length 0 (by omega)).to (by simp)

theorem l2Order_l (l : List Int) (hn : l.length ≤ 17592186044416) : ∀ (d i : Nat), l.length = i + d → Ev (fun k => spec_l2Order.l0 k l i) (allFrom (ordAt l) d i)
  | 0, i, h => by
    refine Ev.step (fun k => by rw [spec_l2Order.l0]) ?_
    exact Ev.neg (by omega) (Ev.val rfl)
  | d + 1, i, h => by
    refine Ev.step (fun k => by rw [spec_l2Order.l0]) ?_
    have e : wrap64 ((i : Int) + 1) = ((i + 1 : Nat) : Int) := by rw [w64 (by omega)]; omega
    simp only [e, l1In_is, Option.bind_some, rd_nat, Int.toNat_natCast, decide_eq_true_eq]
    refine Ev.pos (by omega) (Ev.pos (by omega) (Ev.ite (fun hc => Ev.pos (by omega) ?_) (fun hc => Ev.val ?_)))
    · refine Ev.bind (l1Has_ev _ _ (by simp; omega)) ?_
      refine Ev.ite (fun hb => Ev.val ?_) (fun hb => (l2Order_l l hn d (i + 1) (by omega)).to ?_)
      · rw [allFrom, ordAt, hb]; simp
      · rw [Bool.not_eq_true] at hb
        rw [allFrom, ordAt, hb]; simp [hc]
    · rw [allFrom, ordAt]
      by_cases h1 : 1 ≤ nth l i
      · have : ¬ nth l i ≤ l.length := fun h2 => hc ⟨h1, h2⟩
        simp [this]
      · simp [h1]
theorem l2Order_ev (l : List Int) (hn : l.length ≤ 17592186044416) : Ev (fun k => spec_l2Order.f k l) (isOrd l) := by
  unfold spec_l2Order.f
  simp only [l1In_is, Option.bind_some, decide_eq_true_eq]
  refine Ev.ite (fun hc => (l2Order_l l hn l.length 0 (by omega)).to ?_) (fun hc => Ev.val ?_)
  · have h1 : 1 ≤ l.length := by omega
    have h2 : l.length ≤ 7 := by omega
    simp [isOrd, h1, h2]
  · rw [isOrd]
    by_cases h1 : 1 ≤ l.length
    · have : ¬ l.length ≤ 7 := by omega
      simp [this]
    · simp [h1]

theorem Index_l (l : List Int) (x : Int) (hn : l.length ≤ 17592186044416) : ∀ (d i : Nat), l.length = i + d → (∀ j, j < i → nth l j ≠ x) → Ev (fun k => slices_Index_int_int.l0 k l x (l.length : Int) i) (idx l x)
  | 0, i, h, hq => by
    refine Ev.step (fun k => by rw [slices_Index_int_int.l0]) ?_
    refine Ev.neg (by omega) (Ev.val ?_)
    exact (idx_none l x fun j hj => hq j (by omega)).symm
  | d + 1, i, h, hq => by
    refine Ev.step (fun k => by rw [slices_Index_int_int.l0]) ?_
    have e : wrap64 ((i : Int) + 1) = ((i + 1 : Nat) : Int) := by rw [w64 (by omega)]; omega
    simp only [e]
    refine Ev.pos (by omega) (Ev.pos (by omega) (Ev.pos (by omega) (Ev.ite (fun hc => Ev.val ?_) (fun hc => ?_))))
    · exact (idx_some l x i (by omega) (by rw [hc]; rfl) hq).symm
    · refine Index_l l x hn d (i + 1) (by omega) (fun j hj => ?_)
      by_cases e : j = i
      · subst e; exact fun h => hc h.symm
      · exact hq j (by omega)
theorem Index_ev (l : List Int) (x : Int) (hn : l.length ≤ 17592186044416) : Ev (fun k => slices_Index_int_int.f k l x) (idx l x) := by
  unfold slices_Index_int_int.f
  exact Index_l l x hn l.length 0 (by omega) (fun j hj => by omega)

theorem Contains_ev (l : List Int) (x : Int) (hn : l.length ≤ 17592186044416) : Ev (fun k => slices_Contains_int_int.f k l x) (l.contains x) := by
  unfold slices_Contains_int_int.f
  exact Ev.bind (Index_ev l x hn) (Ev.val (idx_contains l x))

theorem isOrder_l (l : List Int) (hn : l.length ≤ 17592186044416) : ∀ (d i : Nat), l.length = i + d → Ev (fun k => impl_isOrder.l0 k l l (l.length : Int) i) (allFrom (ordAt l) d i)
  | 0, i, h => by
    refine Ev.step (fun k => by rw [impl_isOrder.l0]) ?_
    exact Ev.neg (by omega) (Ev.val rfl)
  | d + 1, i, h => by
    refine Ev.step (fun k => by rw [impl_isOrder.l0]) ?_
    have e : wrap64 ((i : Int) + 1) = ((i + 1 : Nat) : Int) := by rw [w64 (by omega)]; omega
    simp only [e, rd_nat, Int.toNat_natCast]
    refine Ev.pos (by omega) (Ev.pos (by omega) (Ev.pos (by omega) (Ev.ite (fun hc => Ev.val ?_) (fun hc => Ev.ite (fun hd => Ev.val ?_) (fun hd => Ev.pos (by omega) ?_)))))
    · have : ¬ 1 ≤ nth l i := by omega
      rw [allFrom, ordAt]; simp [this]
    · have : ¬ nth l i ≤ l.length := by omega
      rw [allFrom, ordAt]; simp [this]
    · refine Ev.bind (Contains_ev _ _ (by simp; omega)) ?_
      refine Ev.ite (fun hb => Ev.val ?_) (fun hb => (isOrder_l l hn d (i + 1) (by omega)).to ?_)
      · rw [allFrom, ordAt, hb]; simp
      · rw [Bool.not_eq_true] at hb
        have h1 : 1 ≤ nth l i := by omega
        have h2 : nth l i ≤ l.length := by omega
        rw [allFrom, ordAt, hb]; simp [h1, h2]
theorem isOrder_ev (l : List Int) (hn : l.length ≤ 17592186044416) : Ev (fun k => impl_isOrder.f k l) (isOrd l) := by
  unfold impl_isOrder.f
  refine Ev.ite (fun hc => ?_) (fun hc => ?_)
  · refine Ev.step (fun k => by rw [impl_isOrder.j0]) ?_
    refine Ev.pos rfl (Ev.val ?_)
    have : ¬ 1 ≤ l.length := by omega
    simp [isOrd, this]
  · refine Ev.step (fun k => by rw [impl_isOrder.j0]) ?_
    simp only [decide_eq_true_eq]
    refine Ev.ite (fun hd => Ev.val ?_) (fun hd => (isOrder_l l hn l.length 0 (by omega)).to ?_)
    · have : ¬ l.length ≤ 7 := by omega
      simp [isOrd, this]
    · have h1 : 1 ≤ l.length := by omega
      have h2 : l.length ≤ 7 := by omega
      simp [isOrd, h1, h2]

/-! a check of all orders, by the kernel -/
def isOk : Option Bool → Bool
  | some true => true
  | _ => false
theorem isOk_some {o : Option Bool} (h : isOk o = true) : o = some true := by
  unfold isOk at h
  split at h
  · rfl
  · cases h
def allO (ns : List Int) (p : List Int → Bool) : Nat → List Int → Bool
  | 0, q => p q
  | d + 1, q => ns.all fun c => q.contains c || allO ns p d (c :: q)
theorem isOrd_drop {l : List Int} (h : isOrd l = true) (i : Nat) (hi : i < l.length) : nth l i ∉ l.drop (i + 1) := by
  intro hm
  obtain ⟨j, hj, e⟩ := List.mem_iff_getElem.1 hm
  rw [List.getElem_drop] at e
  simp only [List.length_drop] at hj
  refine (isOrd_at h (i + 1 + j) (by omega)).2.2 ?_
  rw [nth_lt l (i + 1 + j) (by omega), e, nth_lt l i hi, List.mem_take_iff_getElem]
  exact ⟨i, by omega, rfl⟩
theorem allO_mem {l : List Int} (h : isOrd l = true) (ns : List Int) (hns : ∀ x : Int, 1 ≤ x → x ≤ l.length → x ∈ ns) (p : List Int → Bool) : ∀ i, i ≤ l.length → allO ns p i (l.drop i) = true → p l = true
  | 0, _, hp => by simpa [allO] using hp
  | i + 1, hi, hp => by
    rw [allO, List.all_eq_true] at hp
    have ha := isOrd_at h i (by omega)
    have h1 := hp (nth l i) (hns _ ha.1 ha.2.1)
    have h2 : (l.drop (i + 1)).contains (nth l i) = false := by
      have := isOrd_drop h i (by omega)
      simpa using this
    rw [h2, Bool.false_or, ← drop_step l i (by omega)] at h1
    exact allO_mem h ns hns p i (by omega) h1
def intsTo (n : Nat) : List Int := ([1, 2, 3, 4, 5, 6, 7] : List Int).take n
theorem intsTo_mem : ∀ n : Nat, n ≤ 7 → ∀ x : Int, 1 ≤ x → x ≤ n → x ∈ intsTo n := by
  intro n hn x h1 h2
  have hx : x = 1 ∨ x = 2 ∨ x = 3 ∨ x = 4 ∨ x = 5 ∨ x = 6 ∨ x = 7 := by omega
  have hn' : n = 0 ∨ n = 1 ∨ n = 2 ∨ n = 3 ∨ n = 4 ∨ n = 5 ∨ n = 6 ∨ n = 7 := by omega
  rcases hn' with rfl | rfl | rfl | rfl | rfl | rfl | rfl | rfl <;> rcases hx with rfl | rfl | rfl | rfl | rfl | rfl | rfl <;> first | (exfalso; omega) | simp [intsTo]
theorem orders_all {l : List Int} (h : isOrd l = true) (p : List Int → Bool) (hp : ∀ n ∈ [1, 2, 3, 4, 5, 6, 7], allO (intsTo n) p n [] = true) : p l = true := by
  have hl := isOrd_len h
  have hm : l.length ∈ [1, 2, 3, 4, 5, 6, 7] := by
    have : l.length = 1 ∨ l.length = 2 ∨ l.length = 3 ∨ l.length = 4 ∨ l.length = 5 ∨ l.length = 6 ∨ l.length = 7 := by omega
    simp [this]
  refine allO_mem h (intsTo l.length) (fun x h1 h2 => intsTo_mem l.length hl.2 x h1 h2) p l.length (Nat.le_refl _) ?_
  rw [List.drop_length]
  exact hp _ hm

/-! what the laws' own loops make of rows -/
theorem rd_L1_natS (xs : List (List Int)) (i : Nat) : rd_L1 xs (i : Int) = xs.getD i [] := rfl
theorem getD_memS {xs : List (List Int)} {i : Nat} (h : i < xs.length) : xs.getD i [] ∈ xs := by
  rw [List.getD_eq_getElem?_getD, List.getElem?_eq_getElem h]; exact List.getElem_mem h
theorem eqIntSS_l (A : List (List Int)) (hn : A.length ≤ 100000) (hr : ∀ r ∈ A, r.length ≤ 1000) : ∀ d i : Nat, A.length = i + d → Ev (fun k => laws_eqIntSS.l0 k A A (i : Int)) true
  | 0, i, h => by
    refine Ev.step (fun k => by rw [laws_eqIntSS.l0]) ?_
    exact Ev.neg (by omega) (Ev.val rfl)
  | d + 1, i, h => by
    have hm := hr _ (getD_memS (xs := A) (i := i) (by omega))
    refine Ev.step (fun k => by rw [laws_eqIntSS.l0]) ?_
    simp only [wup i (by omega), rd_L1_natS]
    refine Ev.pos (by omega) ?_
    refine Ev.pos (by omega) ?_
    refine Ev.pos (by omega) ?_
    refine Ev.bind (eqIntS_ev _ _ (by omega)) ?_
    exact Ev.pos (by simp) (eqIntSS_l A hn hr d (i + 1) (by omega))
theorem eqIntSS_ev (A : List (List Int)) (hn : A.length ≤ 100000) (hr : ∀ r ∈ A, r.length ≤ 1000) : Ev (fun k => laws_eqIntSS.f k A A) true := by
  unfold laws_eqIntSS.f
  exact Ev.pos rfl (eqIntSS_l A hn hr A.length 0 (by omega))
def marksM : List (List Int) → Int → List (List Int)
  | [], _ => []
  | r :: rs, a => marked a r.length :: marksM rs (a + r.length)
def tot : List (List Int) → Nat
  | [] => 0
  | r :: rs => r.length + tot rs
theorem tot_le : ∀ rs : List (List Int), (∀ r ∈ rs, r.length ≤ 1000) → tot rs ≤ 1000 * rs.length
  | [], _ => by simp [tot]
  | r :: rs, h => by
    have h1 := h r (by simp)
    have h2 := tot_le rs fun x hx => h x (by simp [hx])
    simp only [tot, List.length_cons]
    omega
theorem marksM_length : ∀ (rs : List (List Int)) (a : Int), (marksM rs a).length = rs.length
  | [], _ => rfl
  | r :: rs, a => by simp [marksM, marksM_length rs]
theorem at_front (P rs : List (List Int)) (r : List Int) : (P ++ r :: rs).getD P.length [] = r := by simp
theorem set_front (P rs : List (List Int)) (r y : List Int) : (P ++ r :: rs).set P.length y = (P ++ [y]) ++ rs := by
  rw [List.set_append_right _ _ (Nat.le_refl _)]; simp
theorem markSS_l : ∀ (rs P : List (List Int)) (a : Int), P.length + rs.length ≤ 100000 → (∀ r ∈ rs, r.length ≤ 1000) → 1 ≤ a → a + 1000 * rs.length ≤ 1000000000 → Ev (fun k => laws_markIntSS.l0 k (P ++ rs) a (P.length : Int)) (a + tot rs, P ++ marksM rs a)
  | [], P, a, hn, hr, h1, h2 => by
    refine Ev.step (fun k => by rw [laws_markIntSS.l0]) ?_
    refine Ev.neg (by simp) (Ev.val ?_)
    simp [tot, marksM]
  | r :: rs, P, a, hn, hr, h1, h2 => by
    simp only [List.length_cons] at hn h2
    have hm := hr r (by simp)
    refine Ev.step (fun k => by rw [laws_markIntSS.l0]) ?_
    simp only [wup P.length (by omega), Int.toNat_natCast, at_front]
    refine Ev.pos (by simp; omega) ?_
    refine Ev.pos (by omega) ?_
    refine Ev.bind (markIntS_ev r a (by omega) (by omega) (by omega)) ?_
    simp only [set_front]
    have ih := markSS_l rs (P ++ [marked a r.length]) (a + r.length) (by rw [List.length_append, List.length_singleton]; omega) (fun x hx => hr x (by simp [hx])) (by omega) (by omega)
    rw [List.length_append, List.length_singleton] at ih
    refine Ev.to ih ?_
    simp only [tot, marksM, List.append_assoc, List.singleton_append]
    congr 1
    omega
theorem markSS_ev (R : List (List Int)) (hn : R.length ≤ 100000) (hr : ∀ r ∈ R, r.length ≤ 1000) : Ev (fun k => laws_markIntSS.f k R 1) (1 + (tot R : Int), marksM R 1) := by
  unfold laws_markIntSS.f
  have := markSS_l R [] 1 (by simpa using hn) hr (by omega) (by omega)
  rw [List.nil_append, List.nil_append] at this
  exact this
theorem heldSS_l : ∀ (rs P : List (List Int)) (a : Int), P.length + rs.length ≤ 100000 → (∀ r ∈ rs, r.length ≤ 1000) → 1 ≤ a → a + 1000 * rs.length ≤ 1000000000 → Ev (fun k => laws_heldIntSS.l0 k (P ++ marksM rs a) a (P.length : Int)) (a + tot rs)
  | [], P, a, hn, hr, h1, h2 => by
    refine Ev.step (fun k => by rw [laws_heldIntSS.l0]) ?_
    refine Ev.neg (by simp [marksM]) (Ev.val ?_)
    simp [tot]
  | r :: rs, P, a, hn, hr, h1, h2 => by
    simp only [List.length_cons] at hn h2
    have hm := hr r (by simp)
    refine Ev.step (fun k => by rw [laws_heldIntSS.l0]) ?_
    simp only [wup P.length (by omega), rd_L1_natS, marksM, at_front]
    refine Ev.pos (by simp; omega) ?_
    refine Ev.pos (by omega) ?_
    refine Ev.bind (heldIntS_ev r.length a (by omega) (by omega) (by omega)) ?_
    refine Ev.neg (by omega) ?_
    have ih := heldSS_l rs (P ++ [marked a r.length]) (a + r.length) (by rw [List.length_append, List.length_singleton]; omega) (fun x hx => hr x (by simp [hx])) (by omega) (by omega)
    rw [List.length_append, List.length_singleton, List.append_assoc, List.singleton_append] at ih
    refine Ev.to ih ?_
    simp only [tot]
    omega
theorem heldSS_ev (R : List (List Int)) (hn : R.length ≤ 100000) (hr : ∀ r ∈ R, r.length ≤ 1000) : Ev (fun k => laws_heldIntSS.f k (marksM R 1) 1) (1 + (tot R : Int)) := by
  unfold laws_heldIntSS.f
  have := heldSS_l R [] 1 (by simpa using hn) hr (by omega) (by omega)
  rw [List.nil_append] at this
  exact this
theorem Ev.both {α β : Type} {g : Nat → Option α} {h : Nat → Option β} {a : α} {b : β} (h1 : Ev g a) (h2 : Ev h b) : ∃ K, ∀ k, K ≤ k → g k = some a ∧ h k = some b := by
  obtain ⟨K, h1⟩ := h1
  obtain ⟨L, h2⟩ := h2
  exact ⟨max K L, fun k hk => ⟨h1 k (by omega), h2 k (by omega)⟩⟩

/-! numbers into queues -/
def lastOf (q : List Int) : Int := nth q (q.length - 1)
def putBy (p : List Int → Bool) (qs : List (List Int)) (x : Int) : List (List Int) := if idxF p qs < 0 then qs ++ [[x]] else qs.set (idxF p qs).toNat (qs.getD (idxF p qs).toNat [] ++ [x])
def qS (l : List Int) : List (List Int) := l.foldl (fun qs x => putBy (fun q => decide (¬ lastOf q > x)) qs x) []
def qI (l : List Int) : List (List Int) := l.foldl (fun qs x => putBy (fun q => decide (lastOf q < x)) qs x) []
/-- none is empty; not too many, not too long -/
def Fit (i : Nat) (qs : List (List Int)) : Prop := qs.length ≤ i ∧ ∀ q ∈ qs, 0 < q.length ∧ q.length ≤ i
theorem idxF_lt {p : List Int → Bool} {qs : List (List Int)} (h : ¬ idxF p qs < 0) : (idxF p qs).toNat < qs.length := by
  have := idxF_ge p qs
  omega
theorem putBy_fit {p : List Int → Bool} {i : Nat} {qs : List (List Int)} (x : Int) (h : Fit i qs) : Fit (i + 1) (putBy p qs x) := by
  unfold putBy
  split
  · refine ⟨by simp; exact h.1, fun q hq => ?_⟩
    rw [List.mem_append] at hq
    rcases hq with hq | hq
    · have := h.2 q hq; omega
    · rw [List.mem_singleton] at hq; subst hq; simp
  · rename_i hn
    have hlt := idxF_lt hn
    refine ⟨by rw [List.length_set]; have := h.1; omega, fun q hq => ?_⟩
    rcases List.mem_or_eq_of_mem_set hq with hq | hq
    · have := h.2 q hq; omega
    · have := h.2 (qs.getD (idxF p qs).toNat []) (by rw [List.getD_eq_getElem?_getD, List.getElem?_eq_getElem hlt]; exact List.getElem_mem hlt)
      subst hq
      rw [List.length_append, List.length_singleton]
      omega
theorem rd_L1_nat (xs : List (List Int)) (i : Nat) : rd_L1 xs (i : Int) = xs.getD i [] := rfl
theorem getD_mem {xs : List (List Int)} {i : Nat} (h : i < xs.length) : xs.getD i [] ∈ xs := by
  rw [List.getD_eq_getElem?_getD, List.getElem?_eq_getElem h]; exact List.getElem_mem h
/-- the first place at which p holds -/
theorem idxF_at {p : List Int → Bool} : ∀ (qs : List (List Int)) (j : Nat), j < qs.length → p (qs.getD j []) = true → (∀ i, i < j → p (qs.getD i []) = false) → idxF p qs = j
  | [], j, h, _, _ => by simp at h
  | q :: qs, 0, h, e, _ => by
    have h0 : p q = true := by simpa using e
    simp [idxF, h0]
  | q :: qs, j + 1, h, e, hq => by
    have h0 : p q = false := by simpa using hq 0 (by omega)
    have h1 := idxF_at qs j (by simpa using h) (by simpa using e) fun i hi => by simpa using hq (i + 1) (by omega)
    simp only [idxF, h0, h1]
    rw [if_neg (by simp), if_neg (by omega)]
    omega
theorem idxF_no {p : List Int → Bool} : ∀ (qs : List (List Int)), (∀ i, i < qs.length → p (qs.getD i []) = false) → idxF p qs = -1
  | [], _ => rfl
  | q :: qs, hq => by
    have h0 : p q = false := by simpa using hq 0 (by simp)
    have h1 := idxF_no qs fun i hi => by simpa using hq (i + 1) (by simpa using hi)
    simp [idxF, h0, h1]
theorem l5Queues_l1 (l : List Int) (r : List (List Int)) (i : Nat) (hi : i < l.length) (hl : l.length ≤ 1000) (qs : List (List Int)) (hf : Fit i qs)
    (hr : Ev (fun k => spec_l5Queues.l0 k l (putBy (fun q => decide (¬ lastOf q > nth l i)) qs (nth l i)) ((i + 1 : Nat) : Int)) r) :
    ∀ (d j : Nat), qs.length = j + d → (∀ m, m < j → lastOf (qs.getD m []) > nth l i) → Ev (fun k => spec_l5Queues.l1 k l qs (i : Int) (j : Int)) r
  | 0, j, h, hj => by
    have e : wrap64 ((i : Int) + 1) = ((i + 1 : Nat) : Int) := by rw [w64 (by omega)]; omega
    refine Ev.step (fun k => by rw [spec_l5Queues.l1]) (Ev.neg (by omega) (Ev.pos (by omega) ?_))
    have hq := hf.1
    simp only [e, rd_nat, Option.bind_some, rd_L1_nat, Int.toNat_natCast]
    clear e
    have hjl : j = qs.length := by omega
    subst hjl
    have e1 : (qs ++ [([] : List Int)]).getD qs.length [] = [] := by simp
    have e2 : (qs ++ [([] : List Int)]).set qs.length ([] ++ [nth l i]) = qs ++ [[nth l i]] := by rw [List.set_append_right _ _ (Nat.le_refl _)]; simp
    rw [e1, e2]
    have e3 : putBy (fun q => decide (¬ lastOf q > nth l i)) qs (nth l i) = qs ++ [[nth l i]] := by
      rw [putBy, idxF_no qs (fun m hm => by simpa using hj m hm), if_pos (by omega)]
    rw [e3] at hr
    exact Ev.pos (by omega) (Ev.pos (by omega) (Ev.pos (by rw [List.length_append, List.length_singleton]; omega) (Ev.pos (by omega) (Ev.pos (by omega) (Ev.pos (by simp) hr)))))
  | d + 1, j, h, hj => by
    have hjl : j < qs.length := by omega
    have hq := hf.2 _ (getD_mem hjl)
    have hql := hf.1
    refine Ev.step (fun k => by rw [spec_l5Queues.l1]) (Ev.pos (by omega) (Ev.pos (by omega) ?_))
    have e : wrap64 ((i : Int) + 1) = ((i + 1 : Nat) : Int) := by rw [w64 (by omega)]; omega
    have e1 : wrap64 ((j : Int) + 1) = ((j + 1 : Nat) : Int) := by rw [w64 (by omega)]; omega
    have e2 : wrap64 (((qs.getD j []).length : Int) - 1) = (((qs.getD j []).length - 1 : Nat) : Int) := by rw [w64 (by omega)]; omega
    simp only [rd_L1_nat, e, e1, e2, rd_nat, Int.toNat_natCast]
    clear e e1 e2
    refine Ev.pos (by omega) (Ev.pos (by omega) (Ev.pos (by omega) (Ev.pos (by omega) (Ev.ite (fun hc => ?_) (fun hc => Ev.neg (by omega) (Ev.pos (by omega) ?_))))))
    · exact l5Queues_l1 l r i hi hl qs hf hr d (j + 1) (by omega) (fun m hm => by
        by_cases hmj : m = j
        · subst hmj; exact hc
        · exact hj m (by omega))
    · have e3 : idxF (fun q => decide (¬ lastOf q > nth l i)) qs = (j : Int) := idxF_at qs j hjl (by simpa [lastOf] using hc) (fun m hm => by simpa using hj m hm)
      rw [putBy, e3, if_neg (by omega), Int.toNat_natCast] at hr
      exact hr
theorem l5Queues_l (l : List Int) (hl : l.length ≤ 1000) : ∀ (d i : Nat) (qs : List (List Int)), l.length = i + d → Fit i qs → Ev (fun k => spec_l5Queues.l0 k l qs (i : Int)) ((l.drop i).foldl (fun qs x => putBy (fun q => decide (¬ lastOf q > x)) qs x) qs)
  | 0, i, qs, h, hf => by
    refine Ev.step (fun k => by rw [spec_l5Queues.l0]) (Ev.neg (by omega) (Ev.val ?_))
    rw [List.drop_of_length_le (by omega)]; rfl
  | d + 1, i, qs, h, hf => by
    refine Ev.step (fun k => by rw [spec_l5Queues.l0]) (Ev.pos (by omega) ?_)
    refine l5Queues_l1 l _ i (by omega) hl qs hf ?_ qs.length 0 (by omega) (fun m hm => absurd hm (Nat.not_lt_zero _))
    rw [drop_step l i (by omega), List.foldl_cons]
    exact l5Queues_l l hl d (i + 1) _ (by omega) (putBy_fit _ hf)
theorem l5Queues_ev (l : List Int) (hl : l.length ≤ 1000) : Ev (fun k => spec_l5Queues.f k l) (qS l) := by
  unfold spec_l5Queues.f
  have := l5Queues_l l hl l.length 0 [] (by omega) ⟨by simp, fun q hq => by cases hq⟩
  rw [List.drop_zero] at this
  exact this
theorem queues1_is (q : List Int) (x : Int) (h : 0 < q.length) (h2 : q.length ≤ 1000) : impl_queues_1.f q x = some (decide (lastOf q < x)) := by
  unfold impl_queues_1.f
  have e2 : wrap64 ((q.length : Int) - 1) = ((q.length - 1 : Nat) : Int) := by rw [w64 (by omega)]; omega
  simp only [e2, rd_nat]
  clear e2
  rw [if_pos (by omega), if_pos (by omega)]
  rfl
theorem IndexFuncQ_l (of_ : Nat → List Int → Option Bool) (p : List Int → Bool) (l : List (List Int)) (hn : l.length ≤ 1000) (hof : ∀ k x, x ∈ l → of_ k x = some (p x)) : ∀ (d i : Nat), l.length = i + d → (∀ m, m < i → p (l.getD m []) = false) → Ev (fun k => slices_IndexFunc_int_int.l0 of_ k l (l.length : Int) i) (idxF p l)
  | 0, i, h, hq => by
    refine Ev.step (fun k => by rw [slices_IndexFunc_int_int.l0]) (Ev.neg (by omega) (Ev.val ?_))
    exact (idxF_no l fun m hm => hq m (by omega)).symm
  | d + 1, i, h, hq => by
    refine Ev.step (fun k => by rw [slices_IndexFunc_int_int.l0]) (Ev.pos (by omega) (Ev.pos (by omega) (Ev.pos (by omega) ?_)))
    have e : wrap64 ((i : Int) + 1) = ((i + 1 : Nat) : Int) := by rw [w64 (by omega)]; omega
    have e2 : ∀ k, of_ k (l.getD i []) = some (p (l.getD i [])) := fun k => hof k _ (getD_mem (by omega))
    simp only [e, rd_L1_nat, e2, Option.bind_some]
    clear e
    refine Ev.ite (fun hc => Ev.val ?_) (fun hc => ?_)
    · exact (idxF_at l i (by omega) hc hq).symm
    · rw [Bool.not_eq_true] at hc
      exact IndexFuncQ_l of_ p l hn hof d (i + 1) (by omega) (fun m hm => by
        by_cases hmi : m = i
        · subst hmi; exact hc
        · exact hq m (by omega))
theorem IndexFuncQ_ev (of_ : Nat → List Int → Option Bool) (p : List Int → Bool) (l : List (List Int)) (s : ByteArray) (hn : l.length ≤ 1000) (hof : ∀ k x, x ∈ l → of_ k x = some (p x)) : Ev (fun k => slices_IndexFunc_int_int.f of_ k l s) (idxF p l) := by
  unfold slices_IndexFunc_int_int.f
  exact IndexFuncQ_l of_ p l hn hof l.length 0 (by omega) (fun m hm => absurd hm (Nat.not_lt_zero _))
theorem queues_l (l : List Int) (hl : l.length ≤ 1000) : ∀ (d i : Nat) (qs : List (List Int)), l.length = i + d → Fit i qs → Ev (fun k => impl_queues.l0 k qs l (l.length : Int) (i : Int)) ((l.drop i).foldl (fun qs x => putBy (fun q => decide (lastOf q < x)) qs x) qs)
  | 0, i, qs, h, hf => by
    refine Ev.step (fun k => by rw [impl_queues.l0]) (Ev.neg (by omega) (Ev.val ?_))
    rw [List.drop_of_length_le (by omega)]; rfl
  | d + 1, i, qs, h, hf => by
    have hql := hf.1
    refine Ev.step (fun k => by rw [impl_queues.l0]) (Ev.pos (by omega) (Ev.pos (by omega) (Ev.pos (by omega) ?_)))
    have e : wrap64 ((i : Int) + 1) = ((i + 1 : Nat) : Int) := by rw [w64 (by omega)]; omega
    simp only [e, rd_nat]
    clear e
    refine Ev.bind (IndexFuncQ_ev _ (fun q => decide (lastOf q < nth l i)) qs _ (by omega) (fun k q hq => queues1_is q _ (hf.2 q hq).1 (by have := (hf.2 q hq).2; omega))) ?_
    have ih := queues_l l hl d (i + 1) (putBy (fun q => decide (lastOf q < nth l i)) qs (nth l i)) (by omega) (putBy_fit _ hf)
    rw [drop_step l i (by omega), List.foldl_cons]
    refine Ev.ite (fun hc => Ev.pos (by omega) ?_) (fun hc => ?_)
    · refine Ev.to ?_ rfl
      have e3 : putBy (fun q => decide (lastOf q < nth l i)) qs (nth l i) = qs ++ [[nth l i]] := by rw [putBy, if_pos hc]
      rw [e3] at ih ⊢
      exact ih
    · have hlt := idxF_lt hc
      have hq := hf.2 _ (getD_mem hlt)
      have e3 : putBy (fun q => decide (lastOf q < nth l i)) qs (nth l i) = qs.set (idxF (fun q => decide (lastOf q < nth l i)) qs).toNat (qs.getD (idxF (fun q => decide (lastOf q < nth l i)) qs).toNat [] ++ [nth l i]) := by rw [putBy, if_neg hc]
      rw [e3] at ih ⊢
      have e4 : rd_L1 qs (idxF (fun q => decide (lastOf q < nth l i)) qs) = qs.getD (idxF (fun q => decide (lastOf q < nth l i)) qs).toNat [] := rfl
      rw [e4]
      exact Ev.pos (by omega) (Ev.pos (by omega) (Ev.pos (by omega) ih))
theorem queues_ev (l : List Int) (hl : l.length ≤ 1000) : Ev (fun k => impl_queues.f k l) (qI l) := by
  unfold impl_queues.f
  have := queues_l l hl l.length 0 [] (by omega) ⟨by simp, fun q hq => by cases hq⟩
  rw [List.drop_zero] at this
  exact this
theorem foldPut_fit (p : Int → List Int → Bool) : ∀ (l : List Int) (i : Nat) (qs : List (List Int)), Fit i qs → Fit (i + l.length) (l.foldl (fun qs x => putBy (p x) qs x) qs)
  | [], i, qs, h => h
  | x :: l, i, qs, h => by
    have := foldPut_fit p l (i + 1) _ (putBy_fit (p := p x) x h)
    rw [List.length_cons, show i + (l.length + 1) = i + 1 + l.length by omega]
    exact this
theorem qI_fit (l : List Int) : Fit l.length (qI l) := by
  have := foldPut_fit (fun x q => decide (lastOf q < x)) l 0 [] ⟨by simp, fun q hq => by cases hq⟩
  rw [Nat.zero_add] at this
  exact this
def qOk (l : List Int) : Bool := decide (qS l = qI l)

set_option maxRecDepth 100000 in
set_option maxHeartbeats 100000000 in
theorem q_all_6 : ∀ n ∈ [1, 2, 3, 4, 5, 6], allO (intsTo n) qOk n [] = true := by decide +kernel
set_option maxRecDepth 100000 in
set_option maxHeartbeats 100000000 in
theorem q_all_71 : allO (intsTo 7) qOk 6 [1] = true := by decide +kernel
set_option maxRecDepth 100000 in
set_option maxHeartbeats 100000000 in
theorem q_all_72 : allO (intsTo 7) qOk 6 [2] = true := by decide +kernel
set_option maxRecDepth 100000 in
set_option maxHeartbeats 100000000 in
theorem q_all_73 : allO (intsTo 7) qOk 6 [3] = true := by decide +kernel
set_option maxRecDepth 100000 in
set_option maxHeartbeats 100000000 in
theorem q_all_74 : allO (intsTo 7) qOk 6 [4] = true := by decide +kernel
set_option maxRecDepth 100000 in
set_option maxHeartbeats 100000000 in
theorem q_all_75 : allO (intsTo 7) qOk 6 [5] = true := by decide +kernel
set_option maxRecDepth 100000 in
set_option maxHeartbeats 100000000 in
theorem q_all_76 : allO (intsTo 7) qOk 6 [6] = true := by decide +kernel
set_option maxRecDepth 100000 in
set_option maxHeartbeats 100000000 in
theorem q_all_77 : allO (intsTo 7) qOk 6 [7] = true := by decide +kernel
theorem q_all : ∀ n ∈ [1, 2, 3, 4, 5, 6, 7], allO (intsTo n) qOk n [] = true := by
  intro n hn
  by_cases h7 : n = 7
  · subst h7
    rw [allO]
    simp only [show intsTo 7 = [1, 2, 3, 4, 5, 6, 7] from rfl, List.all_cons, List.all_nil, List.contains_nil, Bool.false_or, Bool.and_true, Bool.and_eq_true]
    exact ⟨q_all_71, q_all_72, q_all_73, q_all_74, q_all_75, q_all_76, q_all_77⟩
  · exact q_all_6 n (by simp at hn ⊢; omega)

theorem bothQueuesOf (l : List Int) (hn : l.length ≤ 17592186044415) : ∃ (R : List (List Int)) (b : Bool), R.length ≤ 100000 ∧ (∀ r ∈ R, r.length ≤ 1000) ∧ Ev (fun k => spec_QueuesOf.f k l) (R, b) ∧ Ev (fun k => impl_QueuesOf.f k l) (R, b) := by
  unfold spec_QueuesOf.f impl_QueuesOf.f
  by_cases hc : isOrd l = true
  · have hl := isOrd_len hc
    have e : qS l = qI l := by simpa [qOk] using orders_all hc _ q_all
    have hf := qI_fit l
    refine ⟨qI l, true, by have := hf.1; omega, fun r hr => by have := hf.2 r hr; omega, ?_, ?_⟩
    · refine Ev.bind (l2Order_ev l (by omega)) (Ev.pos hc ?_)
      exact Ev.bind (l5Queues_ev l (by omega)) (Ev.val (by rw [e]))
    · refine Ev.bind (isOrder_ev l (by omega)) (Ev.pos hc ?_)
      exact Ev.bind (queues_ev l (by omega)) (Ev.val rfl)
  · refine ⟨[], false, by simp, by simp, ?_, ?_⟩
    · exact Ev.bind (l2Order_ev l (by omega)) (Ev.neg hc (Ev.val rfl))
    · exact Ev.bind (isOrder_ev l (by omega)) (Ev.neg hc (Ev.val rfl))

theorem FnExactQueuesOf : laws_FnExactQueuesOf.Pure := by
  intro l hm hr hw hn
  obtain ⟨R, b, hR, hrow, h1, h2⟩ := bothQueuesOf l (by omega)
  obtain ⟨K1, g1⟩ := Ev.both h1 h2
  obtain ⟨K2, g2⟩ := Ev.both (toIntS_ev l (by omega)) (eqIntS_ev l l (by omega))
  obtain ⟨K3, g3⟩ := Ev.both (eqIntSS_ev R hR hrow) (markIntS_ev l 1 (by omega) (by omega) (by omega))
  obtain ⟨K4, g4⟩ := Ev.both (markSS_ev R hR hrow) (heldSS_ev R hR hrow)
  have e1 := g1 (K1 + K2 + K3 + K4) (by omega)
  have e2 := g2 (K1 + K2 + K3 + K4) (by omega)
  have e3 := g3 (K1 + K2 + K3 + K4) (by omega)
  have e4 := g4 (K1 + K2 + K3 + K4) (by omega)
  refine ⟨K1 + K2 + K3 + K4, R, b, _, _, _, _, ⟨e2.1, e1.1, e1.2, e3.1, by have := e2.2; simpa using this, e3.2, by omega, e4.1, e4.2, by omega⟩⟩

end Go.Proofs.Ytnfcopikfbnheaa.Pure
