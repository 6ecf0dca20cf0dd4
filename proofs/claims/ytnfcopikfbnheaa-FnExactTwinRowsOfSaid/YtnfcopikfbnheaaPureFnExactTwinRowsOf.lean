/- The program's TwinRowsOf returns what the reference's returns, for every list, in memory of its own. -/
import Derived.Test.YtnfcopikfbnheaaPFnExactTwinRowsOfx7
import Derived.Test.YtnfcopikfbnheaaK
set_option linter.unusedVariables false
set_option linter.unusedSimpArgs false
namespace Go.Proofs.Ytnfcopikfbnheaa.Pure
open Go.RowKit Go.Proofs.Ytnfcopikfbnheaa.PFnExactTwinRowsOf Go.Proofs.YtnfcopikfbnheaaW.PrintWords Go.Proofs.YtnfcopikfbnheaaW.PrintLast Go.Proofs.YtnfcopikfbnheaaW.PrintMore

theorem toIntS_l (x0 : List Int) (hn : x0.length ≤ 17592186044416) : ∀ (d i : Nat) (x3 : List Int), x3.length = x0.length → x3.take i = x0.take i → x0.length = i + d → Ev (fun k => laws_toIntS.l0 k x0 x3 i) x0
  | 0, i, x3, h1, h2, h3 => by
    refine Ev.step (fun k => by rw [laws_toIntS.l0]) ?_
    refine Ev.neg (by omega) (Ev.val ?_)
    rw [List.take_of_length_le (by omega), List.take_of_length_le (by omega)] at h2
    exact h2
  | d + 1, i, x3, h1, h2, h3 => by
    refine Ev.step (fun k => by rw [laws_toIntS.l0]) ?_
    refine Ev.pos (by omega) (Ev.pos (by omega) (Ev.pos (by omega) ?_))
    have e : wrap64 ((i : Int) + 1) = ((i + 1 : Nat) : Int) := by rw [w64 (by omega)]; omega
    simp only [e, Int.toNat_natCast]
    exact toIntS_l x0 hn d (i + 1) _ (by simpa using h1) (by rw [take_set_succ _ _ _ (by omega), h2, take_step _ _ (by omega), rd_nat]) (by omega)
theorem toIntS_ev (l : List Int) (hn : l.length ≤ 17592186044416) : Ev (fun k => laws_toIntS.f k l) l := by
  unfold laws_toIntS.f
  refine Ev.pos (by omega) (Ev.pos (by omega) ?_)
  exact toIntS_l l hn l.length 0 _ (by simp) (by simp) (by omega)

theorem eqIntS_l (a b : List Int) (hn : a.length ≤ 17592186044416) (hl : a.length = b.length) : ∀ (d i : Nat), a.length = i + d → Ev (fun k => laws_eqIntS.l0 k a b i) (decide (a.drop i = b.drop i))
  | 0, i, h => by
    refine Ev.step (fun k => by rw [laws_eqIntS.l0]) ?_
    refine Ev.neg (by omega) (Ev.val ?_)
    rw [List.drop_of_length_le (by omega), List.drop_of_length_le (by omega)]
    simp
  | d + 1, i, h => by
    refine Ev.step (fun k => by rw [laws_eqIntS.l0]) ?_
    refine Ev.pos (by omega) (Ev.pos (by omega) (Ev.pos (by omega) ?_))
    have e : wrap64 ((i : Int) + 1) = ((i + 1 : Nat) : Int) := by rw [w64 (by omega)]; omega
    simp only [e]
    rw [drop_step a i (by omega), drop_step b i (by omega)]
    refine Ev.ite (fun hc => ?_) (fun hc => Ev.val ?_)
    · have hc' : nth a i = nth b i := hc
      refine (eqIntS_l a b hn hl d (i + 1) (by omega)).to ?_
      rw [hc']
      simp
    · have hc' : ¬ nth a i = nth b i := hc
      simp [hc']
theorem eqIntS_ev (a b : List Int) (hn : a.length ≤ 17592186044416) : Ev (fun k => laws_eqIntS.f k a b) (decide (a = b)) := by
  unfold laws_eqIntS.f
  refine Ev.ite (fun hc => ?_) (fun hc => Ev.val ?_)
  · exact (eqIntS_l a b hn (by omega) a.length 0 (by omega)).to (by simp)
  · have : ¬ a = b := fun h => hc (by rw [h])
    simp [this]

theorem markIntS_l : ∀ (d i : Nat) (x0 : List Int) (x1 : Int), x0.length = i + d → x0.length ≤ 17592186044416 → -1000000000000000000 ≤ x1 → x1 + d ≤ 1000000000000000000 → Ev (fun k => laws_markIntS.l0 k x0 x1 i) (x1 + d, x0.take i ++ marked x1 d)
  | 0, i, x0, x1, h, hn, h1, h2 => by
    refine Ev.step (fun k => by rw [laws_markIntS.l0]) ?_
    refine Ev.neg (by omega) (Ev.val ?_)
    rw [List.take_of_length_le (by omega)]
    simp [marked]
  | d + 1, i, x0, x1, h, hn, h1, h2 => by
    refine Ev.step (fun k => by rw [laws_markIntS.l0]) ?_
    refine Ev.pos (by omega) (Ev.pos (by omega) ?_)
    have e : wrap64 ((i : Int) + 1) = ((i + 1 : Nat) : Int) := by rw [w64 (by omega)]; omega
    have e1 : wrap64 (x1 + 1) = x1 + 1 := w64 (by omega)
    simp only [e, e1, Int.toNat_natCast]
    refine (markIntS_l d (i + 1) (x0.set i x1) (x1 + 1) (by simpa using (by omega)) (by simpa using hn) (by omega) (by omega)).to ?_
    rw [take_set_succ _ _ _ (by omega)]
    simp [marked]
    omega
theorem markIntS_ev (l : List Int) (a : Int) (hn : l.length ≤ 17592186044416) (h1 : -1000000000000000 ≤ a) (h2 : a ≤ 1000000000000000) : Ev (fun k => laws_markIntS.f k l a) (a + l.length, marked a l.length) := by
  unfold laws_markIntS.f
  exact (markIntS_l l.length 0 l a (by omega) hn (by omega) (by omega)).to (by simp)

theorem heldIntS_l (n : Nat) (a : Int) (hn : n ≤ 17592186044416) (h1 : -1000000000000000 ≤ a) (h2 : a ≤ 1000000000000000) : ∀ (d i : Nat), n = i + d → Ev (fun k => laws_heldIntS.l0 k (marked a n) (a + i) i) (a + n)
  | 0, i, h => by
    refine Ev.step (fun k => by rw [laws_heldIntS.l0]) ?_
    refine Ev.neg (by rw [marked_length]; omega) (Ev.val ?_)
    omega
  | d + 1, i, h => by
    refine Ev.step (fun k => by rw [laws_heldIntS.l0]) ?_
    refine Ev.pos (by rw [marked_length]; omega) (Ev.pos (by omega) (Ev.pos (by rw [rd_nat, marked_nth n a i (by omega)]) ?_))
    have e : wrap64 ((i : Int) + 1) = ((i + 1 : Nat) : Int) := by rw [w64 (by omega)]; omega
    have e1 : wrap64 (a + i + 1) = a + ((i + 1 : Nat) : Int) := by rw [w64 (by omega)]; omega
    simp only [e, e1]
    exact heldIntS_l n a hn h1 h2 d (i + 1) (by omega)
theorem heldIntS_ev (n : Nat) (a : Int) (hn : n ≤ 17592186044416) (h1 : -1000000000000000 ≤ a) (h2 : a ≤ 1000000000000000) : Ev (fun k => laws_heldIntS.f k (marked a n) a) (a + n) := by
  unfold laws_heldIntS.f
  have := heldIntS_l n a hn h1 h2 n 0 (by omega)
  rw [show a + ((0 : Nat) : Int) = a by omega] at this
  exact this

theorem l1In_is (a b c : Int) : spec_l1In.f a b c = some (decide (b ≤ a ∧ a ≤ c)) := by
  unfold spec_l1In.f
  by_cases h : a ≥ b
  · rw [if_pos h]; simp [h]
  · rw [if_neg h]; simp; omega

theorem l1Has_l (l : List Int) (x : Int) (hn : l.length ≤ 17592186044416) : ∀ (d i : Nat), l.length = i + d → Ev (fun k => spec_l1Has.l0 k l x i) ((l.drop i).contains x)
  | 0, i, h => by
    refine Ev.step (fun k => by rw [spec_l1Has.l0]) ?_
    refine Ev.neg (by omega) (Ev.val ?_)
    rw [List.drop_of_length_le (by omega)]
    simp
  | d + 1, i, h => by
    refine Ev.step (fun k => by rw [spec_l1Has.l0]) ?_
    have e : wrap64 ((i : Int) + 1) = ((i + 1 : Nat) : Int) := by rw [w64 (by omega)]; omega
    simp only [e]
    rw [drop_step l i (by omega)]
    refine Ev.pos (by omega) (Ev.pos (by omega) (Ev.ite (fun hc => Ev.val ?_) (fun hc => ?_)))
    · have hc' : nth l i = x := hc
      rw [hc']; simp
    · have hc' : ¬ nth l i = x := hc
      refine (l1Has_l l x hn d (i + 1) (by omega)).to ?_
      have : ¬ x = nth l i := fun h => hc' h.symm
      rw [List.contains_cons]
      simp [this]
theorem l1Has_ev (l : List Int) (x : Int) (hn : l.length ≤ 17592186044416) : Ev (fun k => spec_l1Has.f k l x) (l.contains x) := by
  unfold spec_l1Has.f
  exact (l1Has_l l x hn l.length 0 (by omega)).to (by simp)

theorem l2Order_l (l : List Int) (hn : l.length ≤ 17592186044416) : ∀ (d i : Nat), l.length = i + d → Ev (fun k => spec_l2Order.l0 k l i) (allFrom (ordAt l) d i)
  | 0, i, h => by
    refine Ev.step (fun k => by rw [spec_l2Order.l0]) ?_
    exact Ev.neg (by omega) (Ev.val rfl)
  | d + 1, i, h => by
    refine Ev.step (fun k => by rw [spec_l2Order.l0]) ?_
    have e : wrap64 ((i : Int) + 1) = ((i + 1 : Nat) : Int) := by rw [w64 (by omega)]; omega
    simp only [e, l1In_is, Option.bind_some, rd_nat, Int.toNat_natCast, decide_eq_true_eq]
    refine Ev.pos (by omega) (Ev.pos (by omega) (Ev.ite (fun hc => Ev.pos (by omega) ?_) (fun hc => Ev.val ?_)))
    · refine Ev.bind (l1Has_ev _ _ (by simp; omega)) ?_
      refine Ev.ite (fun hb => Ev.val ?_) (fun hb => (l2Order_l l hn d (i + 1) (by omega)).to ?_)
      · rw [allFrom, ordAt, hb]; simp
      · rw [Bool.not_eq_true] at hb
        rw [allFrom, ordAt, hb]; simp [hc]
    · rw [allFrom, ordAt]
      by_cases h1 : 1 ≤ nth l i
      · have : ¬ nth l i ≤ l.length := fun h2 => hc ⟨h1, h2⟩
        simp [this]
      · simp [h1]
theorem l2Order_ev (l : List Int) (hn : l.length ≤ 17592186044416) : Ev (fun k => spec_l2Order.f k l) (isOrd l) := by
  unfold spec_l2Order.f
  simp only [l1In_is, Option.bind_some, decide_eq_true_eq]
  refine Ev.ite (fun hc => (l2Order_l l hn l.length 0 (by omega)).to ?_) (fun hc => Ev.val ?_)
  · have h1 : 1 ≤ l.length := by omega
    have h2 : l.length ≤ 7 := by omega
    simp [isOrd, h1, h2]
  · rw [isOrd]
    by_cases h1 : 1 ≤ l.length
    · have : ¬ l.length ≤ 7 := by omega
      simp [this]
    · simp [h1]

theorem Index_l (l : List Int) (x : Int) (hn : l.length ≤ 17592186044416) : ∀ (d i : Nat), l.length = i + d → (∀ j, j < i → nth l j ≠ x) → Ev (fun k => slices_Index_int_int.l0 k l x (l.length : Int) i) (idx l x)
  | 0, i, h, hq => by
    refine Ev.step (fun k => by rw [slices_Index_int_int.l0]) ?_
    refine Ev.neg (by omega) (Ev.val ?_)
    exact (idx_none l x fun j hj => hq j (by omega)).symm
  | d + 1, i, h, hq => by
    refine Ev.step (fun k => by rw [slices_Index_int_int.l0]) ?_
    have e : wrap64 ((i : Int) + 1) = ((i + 1 : Nat) : Int) := by rw [w64 (by omega)]; omega
    simp only [e]
    refine Ev.pos (by omega) (Ev.pos (by omega) (Ev.pos (by omega) (Ev.ite (fun hc => Ev.val ?_) (fun hc => ?_))))
    · exact (idx_some l x i (by omega) (by rw [hc]; rfl) hq).symm
    · refine Index_l l x hn d (i + 1) (by omega) (fun j hj => ?_)
      by_cases e : j = i
      · subst e; exact fun h => hc h.symm
      · exact hq j (by omega)
theorem Index_ev (l : List Int) (x : Int) (hn : l.length ≤ 17592186044416) : Ev (fun k => slices_Index_int_int.f k l x) (idx l x) := by
  unfold slices_Index_int_int.f
  exact Index_l l x hn l.length 0 (by omega) (fun j hj => by omega)

theorem Contains_ev (l : List Int) (x : Int) (hn : l.length ≤ 17592186044416) : Ev (fun k => slices_Contains_int_int.f k l x) (l.contains x) := by
  unfold slices_Contains_int_int.f
  exact Ev.bind (Index_ev l x hn) (Ev.val (idx_contains l x))

theorem isOrder_l (l : List Int) (hn : l.length ≤ 17592186044416) : ∀ (d i : Nat), l.length = i + d → Ev (fun k => impl_isOrder.l0 k l l (l.length : Int) i) (allFrom (ordAt l) d i)
  | 0, i, h => by
    refine Ev.step (fun k => by rw [impl_isOrder.l0]) ?_
    exact Ev.neg (by omega) (Ev.val rfl)
  | d + 1, i, h => by
    refine Ev.step (fun k => by rw [impl_isOrder.l0]) ?_
    have e : wrap64 ((i : Int) + 1) = ((i + 1 : Nat) : Int) := by rw [w64 (by omega)]; omega
    simp only [e, rd_nat, Int.toNat_natCast]
    refine Ev.pos (by omega) (Ev.pos (by omega) (Ev.pos (by omega) (Ev.ite (fun hc => Ev.val ?_) (fun hc => Ev.ite (fun hd => Ev.val ?_) (fun hd => Ev.pos (by omega) ?_)))))
    · have : ¬ 1 ≤ nth l i := by omega
      rw [allFrom, ordAt]; simp [this]
    · have : ¬ nth l i ≤ l.length := by omega
      rw [allFrom, ordAt]; simp [this]
    · refine Ev.bind (Contains_ev _ _ (by simp; omega)) ?_
      refine Ev.ite (fun hb => Ev.val ?_) (fun hb => (isOrder_l l hn d (i + 1) (by omega)).to ?_)
      · rw [allFrom, ordAt, hb]; simp
      · rw [Bool.not_eq_true] at hb
        have h1 : 1 ≤ nth l i := by omega
        have h2 : nth l i ≤ l.length := by omega
        rw [allFrom, ordAt, hb]; simp [h1, h2]
theorem isOrder_ev (l : List Int) (hn : l.length ≤ 17592186044416) : Ev (fun k => impl_isOrder.f k l) (isOrd l) := by
  unfold impl_isOrder.f
  refine Ev.ite (fun hc => ?_) (fun hc => ?_)
  · refine Ev.step (fun k => by rw [impl_isOrder.j0]) ?_
    refine Ev.pos rfl (Ev.val ?_)
    have : ¬ 1 ≤ l.length := by omega
    simp [isOrd, this]
  · refine Ev.step (fun k => by rw [impl_isOrder.j0]) ?_
    simp only [decide_eq_true_eq]
    refine Ev.ite (fun hd => Ev.val ?_) (fun hd => (isOrder_l l hn l.length 0 (by omega)).to ?_)
    · have : ¬ l.length ≤ 7 := by omega
      simp [isOrd, this]
    · have h1 : 1 ≤ l.length := by omega
      have h2 : l.length ≤ 7 := by omega
      simp [isOrd, h1, h2]

/-! a check of all orders, by the kernel -/
def isOk : Option Bool → Bool
  | some true => true
  | _ => false
theorem isOk_some {o : Option Bool} (h : isOk o = true) : o = some true := by
  unfold isOk at h
  split at h
  · rfl
  · cases h
def allO (ns : List Int) (p : List Int → Bool) : Nat → List Int → Bool
  | 0, q => p q
  | d + 1, q => ns.all fun c => q.contains c || allO ns p d (c :: q)
theorem isOrd_drop {l : List Int} (h : isOrd l = true) (i : Nat) (hi : i < l.length) : nth l i ∉ l.drop (i + 1) := by
  intro hm
  obtain ⟨j, hj, e⟩ := List.mem_iff_getElem.1 hm
  rw [List.getElem_drop] at e
  simp only [List.length_drop] at hj
  refine (isOrd_at h (i + 1 + j) (by omega)).2.2 ?_
  rw [nth_lt l (i + 1 + j) (by omega), e, nth_lt l i hi, List.mem_take_iff_getElem]
  exact ⟨i, by omega, rfl⟩
theorem allO_mem {l : List Int} (h : isOrd l = true) (ns : List Int) (hns : ∀ x : Int, 1 ≤ x → x ≤ l.length → x ∈ ns) (p : List Int → Bool) : ∀ i, i ≤ l.length → allO ns p i (l.drop i) = true → p l = true
  | 0, _, hp => by simpa [allO] using hp
  | i + 1, hi, hp => by
    rw [allO, List.all_eq_true] at hp
    have ha := isOrd_at h i (by omega)
    have h1 := hp (nth l i) (hns _ ha.1 ha.2.1)
    have h2 : (l.drop (i + 1)).contains (nth l i) = false := by
      have := isOrd_drop h i (by omega)
      simpa using this
    rw [h2, Bool.false_or, ← drop_step l i (by omega)] at h1
    exact allO_mem h ns hns p i (by omega) h1
def intsTo (n : Nat) : List Int := ([1, 2, 3, 4, 5, 6, 7] : List Int).take n
theorem intsTo_mem : ∀ n : Nat, n ≤ 7 → ∀ x : Int, 1 ≤ x → x ≤ n → x ∈ intsTo n := by
  intro n hn x h1 h2
  have hx : x = 1 ∨ x = 2 ∨ x = 3 ∨ x = 4 ∨ x = 5 ∨ x = 6 ∨ x = 7 := by omega
  have hn' : n = 0 ∨ n = 1 ∨ n = 2 ∨ n = 3 ∨ n = 4 ∨ n = 5 ∨ n = 6 ∨ n = 7 := by omega
  rcases hn' with rfl | rfl | rfl | rfl | rfl | rfl | rfl | rfl <;> rcases hx with rfl | rfl | rfl | rfl | rfl | rfl | rfl <;> first | (exfalso; omega) | simp [intsTo]
theorem orders_all {l : List Int} (h : isOrd l = true) (p : List Int → Bool) (hp : ∀ n ∈ [1, 2, 3, 4, 5, 6, 7], allO (intsTo n) p n [] = true) : p l = true := by
  have hl := isOrd_len h
  have hm : l.length ∈ [1, 2, 3, 4, 5, 6, 7] := by
    have : l.length = 1 ∨ l.length = 2 ∨ l.length = 3 ∨ l.length = 4 ∨ l.length = 5 ∨ l.length = 6 ∨ l.length = 7 := by omega
    simp [this]
  refine allO_mem h (intsTo l.length) (fun x h1 h2 => intsTo_mem l.length hl.2 x h1 h2) p l.length (Nat.le_refl _) ?_
  rw [List.drop_length]
  exact hp _ hm

/-! what the laws' own loops make of rows -/
theorem rd_L1_natS (xs : List (List Int)) (i : Nat) : rd_L1 xs (i : Int) = xs.getD i [] := rfl
theorem getD_memS {xs : List (List Int)} {i : Nat} (h : i < xs.length) : xs.getD i [] ∈ xs := by
  rw [List.getD_eq_getElem?_getD, List.getElem?_eq_getElem h]; exact List.getElem_mem h
theorem eqIntSS_l (A : List (List Int)) (hn : A.length ≤ 100000) (hr : ∀ r ∈ A, r.length ≤ 1000) : ∀ d i : Nat, A.length = i + d → Ev (fun k => laws_eqIntSS.l0 k A A (i : Int)) true
  | 0, i, h => by
    refine Ev.step (fun k => by rw [laws_eqIntSS.l0]) ?_
    exact Ev.neg (by omega) (Ev.val rfl)
  | d + 1, i, h => by
    have hm := hr _ (getD_memS (xs := A) (i := i) (by omega))
    refine Ev.step (fun k => by rw [laws_eqIntSS.l0]) ?_
    simp only [wup i (by omega), rd_L1_natS]
    refine Ev.pos (by omega) ?_
    refine Ev.pos (by omega) ?_
    refine Ev.pos (by omega) ?_
    refine Ev.bind (eqIntS_ev _ _ (by omega)) ?_
    exact Ev.pos (by simp) (eqIntSS_l A hn hr d (i + 1) (by omega))
theorem eqIntSS_ev (A : List (List Int)) (hn : A.length ≤ 100000) (hr : ∀ r ∈ A, r.length ≤ 1000) : Ev (fun k => laws_eqIntSS.f k A A) true := by
  unfold laws_eqIntSS.f
  exact Ev.pos rfl (eqIntSS_l A hn hr A.length 0 (by omega))
def marksM : List (List Int) → Int → List (List Int)
  | [], _ => []
  | r :: rs, a => marked a r.length :: marksM rs (a + r.length)
def tot : List (List Int) → Nat
  | [] => 0
  | r :: rs => r.length + tot rs
theorem tot_le : ∀ rs : List (List Int), (∀ r ∈ rs, r.length ≤ 1000) → tot rs ≤ 1000 * rs.length
  | [], _ => by simp [tot]
  | r :: rs, h => by
    have h1 := h r (by simp)
    have h2 := tot_le rs fun x hx => h x (by simp [hx])
    simp only [tot, List.length_cons]
    omega
theorem marksM_length : ∀ (rs : List (List Int)) (a : Int), (marksM rs a).length = rs.length
  | [], _ => rfl
  | r :: rs, a => by simp [marksM, marksM_length rs]
theorem at_front (P rs : List (List Int)) (r : List Int) : (P ++ r :: rs).getD P.length [] = r := by simp
theorem set_front (P rs : List (List Int)) (r y : List Int) : (P ++ r :: rs).set P.length y = (P ++ [y]) ++ rs := by
  rw [List.set_append_right _ _ (Nat.le_refl _)]; simp
theorem markSS_l : ∀ (rs P : List (List Int)) (a : Int), P.length + rs.length ≤ 100000 → (∀ r ∈ rs, r.length ≤ 1000) → 1 ≤ a → a + 1000 * rs.length ≤ 1000000000 → Ev (fun k => laws_markIntSS.l0 k (P ++ rs) a (P.length : Int)) (a + tot rs, P ++ marksM rs a)
  | [], P, a, hn, hr, h1, h2 => by
    refine Ev.step (fun k => by rw [laws_markIntSS.l0]) ?_
    refine Ev.neg (by simp) (Ev.val ?_)
    simp [tot, marksM]
  | r :: rs, P, a, hn, hr, h1, h2 => by
    simp only [List.length_cons] at hn h2
    have hm := hr r (by simp)
    refine Ev.step (fun k => by rw [laws_markIntSS.l0]) ?_
    simp only [wup P.length (by omega), Int.toNat_natCast, at_front]
    refine Ev.pos (by simp; omega) ?_
    refine Ev.pos (by omega) ?_
    refine Ev.bind (markIntS_ev r a (by omega) (by omega) (by omega)) ?_
    simp only [set_front]
    have ih := markSS_l rs (P ++ [marked a r.length]) (a + r.length) (by rw [List.length_append, List.length_singleton]; omega) (fun x hx => hr x (by simp [hx])) (by omega) (by omega)
    rw [List.length_append, List.length_singleton] at ih
    refine Ev.to ih ?_
    simp only [tot, marksM, List.append_assoc, List.singleton_append]
    congr 1
    omega
theorem markSS_ev (R : List (List Int)) (hn : R.length ≤ 100000) (hr : ∀ r ∈ R, r.length ≤ 1000) : Ev (fun k => laws_markIntSS.f k R 1) (1 + (tot R : Int), marksM R 1) := by
  unfold laws_markIntSS.f
  have := markSS_l R [] 1 (by simpa using hn) hr (by omega) (by omega)
  rw [List.nil_append, List.nil_append] at this
  exact this
theorem heldSS_l : ∀ (rs P : List (List Int)) (a : Int), P.length + rs.length ≤ 100000 → (∀ r ∈ rs, r.length ≤ 1000) → 1 ≤ a → a + 1000 * rs.length ≤ 1000000000 → Ev (fun k => laws_heldIntSS.l0 k (P ++ marksM rs a) a (P.length : Int)) (a + tot rs)
  | [], P, a, hn, hr, h1, h2 => by
    refine Ev.step (fun k => by rw [laws_heldIntSS.l0]) ?_
    refine Ev.neg (by simp [marksM]) (Ev.val ?_)
    simp [tot]
  | r :: rs, P, a, hn, hr, h1, h2 => by
    simp only [List.length_cons] at hn h2
    have hm := hr r (by simp)
    refine Ev.step (fun k => by rw [laws_heldIntSS.l0]) ?_
    simp only [wup P.length (by omega), rd_L1_natS, marksM, at_front]
    refine Ev.pos (by simp; omega) ?_
    refine Ev.pos (by omega) ?_
    refine Ev.bind (heldIntS_ev r.length a (by omega) (by omega) (by omega)) ?_
    refine Ev.neg (by omega) ?_
    have ih := heldSS_l rs (P ++ [marked a r.length]) (a + r.length) (by rw [List.length_append, List.length_singleton]; omega) (fun x hx => hr x (by simp [hx])) (by omega) (by omega)
    rw [List.length_append, List.length_singleton, List.append_assoc, List.singleton_append] at ih
    refine Ev.to ih ?_
    simp only [tot]
    omega
theorem heldSS_ev (R : List (List Int)) (hn : R.length ≤ 100000) (hr : ∀ r ∈ R, r.length ≤ 1000) : Ev (fun k => laws_heldIntSS.f k (marksM R 1) 1) (1 + (tot R : Int)) := by
  unfold laws_heldIntSS.f
  have := heldSS_l R [] 1 (by simpa using hn) hr (by omega) (by omega)
  rw [List.nil_append] at this
  exact this
theorem Ev.both {α β : Type} {g : Nat → Option α} {h : Nat → Option β} {a : α} {b : β} (h1 : Ev g a) (h2 : Ev h b) : ∃ K, ∀ k, K ≤ k → g k = some a ∧ h k = some b := by
  obtain ⟨K, h1⟩ := h1
  obtain ⟨L, h2⟩ := h2
  exact ⟨max K L, fun k hk => ⟨h1 k (by omega), h2 k (by omega)⟩⟩

theorem l1Own_is (l : List Int) (h : l.length < 17592186044416) : spec_l1Own.f l = some l := by
  unfold spec_l1Own.f
  simp [h]

theorem IndexFunc_l (of_ : Nat → Int → Option Bool) (p : Int → Bool) (l : List Int) (hn : l.length ≤ 17592186044416) (hof : ∀ k x, x ∈ l → of_ k x = some (p x)) : ∀ (d i : Nat), l.length = i + d → Ev (fun k => slices_IndexFunc_int_int.l0 of_ k l (l.length : Int) i) (if idxF p (l.drop i) < 0 then -1 else idxF p (l.drop i) + i)
  | 0, i, h => by
    refine Ev.step (fun k => by rw [slices_IndexFunc_int_int.l0]) ?_
    refine Ev.neg (by omega) (Ev.val ?_)
    rw [List.drop_of_length_le (by omega)]; rfl
  | d + 1, i, h => by
    refine Ev.step (fun k => by rw [slices_IndexFunc_int_int.l0]) ?_
    have e : wrap64 ((i : Int) + 1) = ((i + 1 : Nat) : Int) := by rw [w64 (by omega)]; omega
    have hm : nth l i ∈ l := by rw [nth_lt l i (by omega)]; exact List.getElem_mem _
    have hq : ∀ k, of_ k (nth l i) = some (p (nth l i)) := fun k => hof k _ hm
    simp only [e, rd_nat, hq, Option.bind_some]
    rw [drop_step l i (by omega)]
    have hg := idxF_ge p (l.drop (i + 1))
    refine Ev.pos (by omega) (Ev.pos (by omega) (Ev.pos (by omega) (Ev.ite (fun hc => Ev.val ?_) (fun hc => ?_))))
    · simp [idxF, hc]
    · refine (IndexFunc_l of_ p l hn hof d (i + 1) (by omega)).to ?_
      simp only [idxF, if_neg hc]
      split
      · simp
      · rw [if_neg (by omega)]; omega

/-! numbers into rows -/
def nolist : List (List Int) := []
/-- n put into the rows from row j on; at: the place in a row -/
def insM (at_ : Int → List Int → Int) : Nat → Nat → List (List Int) → Int → List (List Int) × Int
  | 0, _, xs, n => (xs ++ [[n]], (xs.length : Int))
  | d + 1, j, xs, n => if at_ n (xs.getD j []) < 0 then (xs.set j (xs.getD j [] ++ [n]), (j : Int)) else insM at_ d (j + 1) (xs.set j ((xs.getD j []).set (at_ n (xs.getD j [])).toNat n)) (rd (xs.getD j []) (at_ n (xs.getD j [])))
def atI (n : Int) (row : List Int) : Int := idxF (fun m => decide (m > n)) row
def atS (n : Int) (row : List Int) : Int := idxF (fun m => decide (¬ m < n)) row
def smallB (xs : List (List Int)) : Bool := decide (xs.length ≤ 100) && xs.all fun r => decide (r.length ≤ 100)
theorem smallB_is {xs : List (List Int)} (h : smallB xs = true) : xs.length ≤ 100 ∧ ∀ r ∈ xs, r.length ≤ 100 := by
  simp only [smallB, Bool.and_eq_true, decide_eq_true_eq, List.all_eq_true] at h
  exact h
theorem getD_small {xs : List (List Int)} {m : Nat} (h : ∀ r ∈ xs, r.length ≤ m) (j : Nat) : (xs.getD j []).length ≤ m := by
  rw [List.getD_eq_getElem?_getD]
  cases e : xs[j]? with
  | none => simp
  | some r => exact h r (List.mem_of_getElem? e)
theorem set_small {xs : List (List Int)} {m : Nat} (h : ∀ r ∈ xs, r.length ≤ m) (j : Nat) (y : List Int) (hy : y.length ≤ m) : ∀ r ∈ xs.set j y, r.length ≤ m := by
  intro r hr
  rcases List.mem_or_eq_of_mem_set hr with hr | hr
  · exact h r hr
  · rw [hr]; exact hy
theorem insGo_ev : ∀ (d j : Nat) (xs : List (List Int)) (n : Int), xs.length ≤ 100 → (∀ r ∈ xs, r.length ≤ 100) → Ev (fun k => insGo k d j xs n) (insM atI d j xs n)
  | 0, j, xs, n, h1, h2 => by
    simp only [insGo, insM]
    exact Ev.pos (by omega) (Ev.val rfl)
  | d + 1, j, xs, n, h1, h2 => by
    have hr := getD_small h2 j
    have hI : Ev (fun k => slices_IndexFunc_int_int.f (fun _ x0_ => impl_insert_1.f x0_ n) k (xs.getD j []) ⟨#[]⟩) (atI n (xs.getD j [])) := by
      unfold slices_IndexFunc_int_int.f
      refine (IndexFunc_l (fun _ x0_ => impl_insert_1.f x0_ n) (fun m => decide (m > n)) (xs.getD j []) (by omega) (fun k x _ => rfl) (xs.getD j []).length 0 (by omega)).to ?_
      rw [List.drop_zero]
      have hg := idxF_ge (fun m => decide (m > n)) (xs.getD j [])
      unfold atI
      split
      · omega
      · simp
    simp only [insGo, insM]
    have hg := idxF_ge (fun m => decide (m > n)) (xs.getD j [])
    have hg2 : atI n (xs.getD j []) < ((xs.getD j []).length : Int) := hg.2
    refine Ev.bind hI (Ev.ite (fun hc => ?_) (fun hc => ?_))
    · rw [if_pos hc]
      exact Ev.pos (by omega) (Ev.val rfl)
    · rw [if_neg hc]
      exact Ev.pos hg2 (insGo_ev d (j + 1) _ _ (by rw [List.length_set]; exact h1) (set_small h2 j _ (by rw [List.length_set]; exact hr)))
theorem insert_ev (xs : List (List Int)) (n : Int) (h : smallB xs = true) : Ev (fun k => impl_insert.f k xs n) (insM atI xs.length 0 xs n) := by
  obtain ⟨h1, h2⟩ := smallB_is h
  unfold impl_insert.f
  exact Ev.pos (by omega) (insGo_ev _ 0 xs n h1 h2)
theorem rd_L1_natR (xs : List (List Int)) (i : Nat) : rd_L1 xs (i : Int) = xs.getD i [] := rfl
/-- the first place at which p holds, from i on -/
def fromF (p : Int → Bool) (row : List Int) (i : Nat) : Int := if idxF p (row.drop i) < 0 then -1 else idxF p (row.drop i) + i
theorem l5Insert_l12 : ∀ (d j : Nat) (xs : List (List Int)) (n : Int), j + d = xs.length → xs.length ≤ 100 → (∀ r ∈ xs, r.length ≤ 100) → Ev (fun k => spec_l5Insert.l1 k n xs (j : Int)) (insM atS d j xs n)
  | 0, j, xs, n, hj, h1, h2 => by
    refine Ev.step (fun k => by rw [spec_l5Insert.l1]) ?_
    refine Ev.pos (by omega) (Ev.pos (by omega) (Ev.val ?_))
    rw [insM]
    simp
    omega
  | d + 1, j, xs, n, hj, h1, h2 => by
    have hr := getD_small h2 j
    have e : wrap64 ((j : Int) + 1) = ((j + 1 : Nat) : Int) := wup j (by omega)
    have hin : ∀ (c i : Nat), (xs.getD j []).length = i + c → (∀ m, m < i → nth (xs.getD j []) m < n) → Ev (fun k => spec_l5Insert.l2 k n xs (j : Int) (i : Int)) (insM atS (d + 1) j xs n) := by
      intro c
      induction c with
      | zero =>
        intro i hi hlt
        refine Ev.step (fun k => by rw [spec_l5Insert.l2]) ?_
        simp only [rd_L1_natR, Int.toNat_natCast]
        refine Ev.pos (by omega) (Ev.pos (by omega) (Ev.neg (by omega) (Ev.pos (by omega) (Ev.pos (by omega) (Ev.val ?_)))))
        have hno : atS n (xs.getD j []) = -1 := idxF_miss _ _ fun m hm => by
          have := hlt m (by omega)
          have h3 : (xs.getD j []).getD m 0 < n := this
          simp only [decide_eq_false_iff_not, Decidable.not_not]
          exact h3
        rw [insM, hno, if_pos (by omega)]
      | succ c ih =>
        intro i hi hlt
        refine Ev.step (fun k => by rw [spec_l5Insert.l2]) ?_
        have ei : wrap64 ((i : Int) + 1) = ((i + 1 : Nat) : Int) := wup i (by omega)
        simp only [rd_L1_natR, rd_nat, e, ei, Int.toNat_natCast]
        refine Ev.pos (by omega) (Ev.pos (by omega) (Ev.pos (by omega) (Ev.pos (by omega) (Ev.ite (fun hc => ?_) (fun hc => ?_)))))
        · refine ih (i + 1) (by omega) (fun m hm => ?_)
          by_cases e1 : m = i
          · subst e1; exact hc
          · exact hlt m (by omega)
        · refine Ev.neg (by omega) ?_
          have hat : atS n (xs.getD j []) = (i : Int) := idxF_hitN _ _ i (by omega) (by
            have h3 : ¬ (xs.getD j []).getD i 0 < n := hc
            simp only [decide_eq_true_eq]
            exact h3) fun m hm => by
            have := hlt m (by omega)
            have h3 : (xs.getD j []).getD m 0 < n := this
            simp only [decide_eq_false_iff_not, Decidable.not_not]
            exact h3
          rw [insM, hat, if_neg (by omega), Int.toNat_natCast, rd_nat]
          exact l5Insert_l12 d (j + 1) _ _ (by rw [List.length_set]; omega) (by rw [List.length_set]; exact h1) (set_small h2 j _ (by rw [List.length_set]; exact hr))
    refine Ev.step (fun k => by rw [spec_l5Insert.l1]) ?_
    exact Ev.neg (by omega) (hin (xs.getD j []).length 0 (by omega) (fun m hm => by omega))
theorem l5Insert_l0 (xs : List (List Int)) (n : Int) (h1 : xs.length ≤ 100) (h2 : ∀ r ∈ xs, r.length ≤ 100) : ∀ d i : Nat, i + d = xs.length → Ev (fun k => spec_l5Insert.l0 k xs n (xs.take i) (i : Int)) (insM atS xs.length 0 xs n)
  | 0, i, hi => by
    refine Ev.step (fun k => by rw [spec_l5Insert.l0]) ?_
    refine Ev.neg (by omega) ?_
    rw [List.take_of_length_le (by omega)]
    exact l5Insert_l12 xs.length 0 xs n (by omega) h1 h2
  | d + 1, i, hi => by
    have hr := getD_small h2 i
    have e : wrap64 ((i : Int) + 1) = ((i + 1 : Nat) : Int) := wup i (by omega)
    have hlen : (xs.take i).length = i := by rw [List.length_take]; omega
    refine Ev.step (fun k => by rw [spec_l5Insert.l0]) ?_
    simp only [rd_L1_natR, e, l1Own_is _ (show (xs.getD i []).length < 17592186044416 by omega), Option.bind_some]
    refine Ev.pos (by omega) (Ev.pos (by omega) (Ev.pos (by omega) ?_))
    have ht : xs.take i ++ [xs.getD i []] = xs.take (i + 1) := by
      rw [List.take_succ_eq_append_getElem (show i < xs.length by omega), List.getD_eq_getElem?_getD, List.getElem?_eq_getElem (show i < xs.length by omega)]
      rfl
    rw [ht]
    exact l5Insert_l0 xs n h1 h2 d (i + 1) (by omega)
theorem l5Insert_ev (xs : List (List Int)) (n : Int) (h : smallB xs = true) : Ev (fun k => spec_l5Insert.f k xs n) (insM atS xs.length 0 xs n) := by
  obtain ⟨h1, h2⟩ := smallB_is h
  unfold spec_l5Insert.f
  exact l5Insert_l0 xs n h1 h2 xs.length 0 (by omega)
/-- rows and twin rows, if they fit -/
def goM (at_ : Int → List Int → Int) (o : List Int) : Nat → Nat → List (List Int) → List (List Int) → Option (List (List Int) × List (List Int))
  | 0, _, xs, ys => some (xs, ys)
  | d + 1, i, xs, ys => if smallB xs = true then (if (ys.length < 1000000 ∧ (∀ y ∈ ys, y.length < 1000000)) ∧ (0 ≤ (insM at_ xs.length 0 xs (nth o i)).2 ∧ (insM at_ xs.length 0 xs (nth o i)).2 ≤ (ys.length : Int)) then goM at_ o d (i + 1) (insM at_ xs.length 0 xs (nth o i)).1 (if (insM at_ xs.length 0 xs (nth o i)).2 = (ys.length : Int) then ys ++ [[(i : Int) + 1]] else ys.set (insM at_ xs.length 0 xs (nth o i)).2.toNat (ys.getD (insM at_ xs.length 0 xs (nth o i)).2.toNat [] ++ [(i : Int) + 1])) else none) else none
theorem rowsGo_ev (o : List Int) : ∀ (d i : Nat) (xs ys : List (List Int)) (r : List (List Int) × List (List Int)), goM atI o d i xs ys = some r → Ev (fun k => rowsGo k o d i xs ys) r
  | 0, i, xs, ys, r, h => by
    obtain rfl := Option.some.inj h
    exact Ev.val rfl
  | d + 1, i, xs, ys, r, h => by
    rw [goM] at h
    by_cases h1 : smallB xs = true
    · rw [if_pos h1] at h
      split at h
      · rename_i h2
        simp only [rowsGo, rd_nat]
        exact Ev.bind (insert_ev xs (nth o i) h1) (Ev.pos h2 (rowsGo_ev o d (i + 1) _ _ r h))
      · cases h
    · rw [if_neg h1] at h; cases h
theorem l5RowsGo_ev (o : List Int) : ∀ (d i : Nat) (xs ys : List (List Int)) (r : List (List Int) × List (List Int)), goM atS o d i xs ys = some r → Ev (fun k => l5RowsGo k o d i xs ys) r
  | 0, i, xs, ys, r, h => by
    obtain rfl := Option.some.inj h
    exact Ev.val rfl
  | d + 1, i, xs, ys, r, h => by
    rw [goM] at h
    by_cases h1 : smallB xs = true
    · rw [if_pos h1] at h
      split at h
      · rename_i h2
        simp only [l5RowsGo, rd_nat]
        exact Ev.bind (l5Insert_ev xs (nth o i) h1) (Ev.pos h2 (l5RowsGo_ev o d (i + 1) _ _ r h))
      · cases h
    · rw [if_neg h1] at h; cases h
def rwOk (o : List Int) : Bool := match goM atI o o.length 0 [] [], goM atS o o.length 0 [] [] with
  | some a, some b => decide (a = b) && (smallB a.1 && smallB a.2)
  | _, _ => false

set_option maxRecDepth 100000 in
set_option maxHeartbeats 100000000 in
theorem rw_all_6 : ∀ n ∈ [1, 2, 3, 4, 5, 6], allO (intsTo n) rwOk n [] = true := by decide +kernel
set_option maxRecDepth 100000 in
set_option maxHeartbeats 100000000 in
theorem rw_all_71 : allO (intsTo 7) rwOk 6 [1] = true := by decide +kernel
set_option maxRecDepth 100000 in
set_option maxHeartbeats 100000000 in
theorem rw_all_72 : allO (intsTo 7) rwOk 6 [2] = true := by decide +kernel
set_option maxRecDepth 100000 in
set_option maxHeartbeats 100000000 in
theorem rw_all_73 : allO (intsTo 7) rwOk 6 [3] = true := by decide +kernel
set_option maxRecDepth 100000 in
set_option maxHeartbeats 100000000 in
theorem rw_all_74 : allO (intsTo 7) rwOk 6 [4] = true := by decide +kernel
set_option maxRecDepth 100000 in
set_option maxHeartbeats 100000000 in
theorem rw_all_75 : allO (intsTo 7) rwOk 6 [5] = true := by decide +kernel
set_option maxRecDepth 100000 in
set_option maxHeartbeats 100000000 in
theorem rw_all_76 : allO (intsTo 7) rwOk 6 [6] = true := by decide +kernel
set_option maxRecDepth 100000 in
set_option maxHeartbeats 100000000 in
theorem rw_all_77 : allO (intsTo 7) rwOk 6 [7] = true := by decide +kernel
theorem rw_all : ∀ n ∈ [1, 2, 3, 4, 5, 6, 7], allO (intsTo n) rwOk n [] = true := by
  intro n hn
  by_cases h7 : n = 7
  · subst h7
    rw [allO]
    simp only [show intsTo 7 = [1, 2, 3, 4, 5, 6, 7] from rfl, List.all_cons, List.all_nil, List.contains_nil, Bool.false_or, Bool.and_true, Bool.and_eq_true]
    exact ⟨rw_all_71, rw_all_72, rw_all_73, rw_all_74, rw_all_75, rw_all_76, rw_all_77⟩
  · exact rw_all_6 n (by simp at hn ⊢; omega)

theorem rows_both {o : List Int} (ho : isOrd o = true) : ∃ r : List (List Int) × List (List Int), smallB r.1 = true ∧ smallB r.2 = true ∧ Ev (fun k => spec_l5Rows.f k o) r ∧ Ev (fun k => impl_rowsOf.f k o) r := by
  have hl := isOrd_len ho
  have h := orders_all ho _ rw_all
  unfold rwOk at h
  split at h
  · rename_i a b ha hb
    simp only [Bool.and_eq_true, decide_eq_true_eq] at h
    obtain ⟨rfl, h1, h2⟩ := h
    refine ⟨a, h1, h2, ?_, ?_⟩
    · unfold spec_l5Rows.f
      exact Ev.pos (by omega) (l5RowsGo_ev o _ _ _ _ _ hb)
    · unfold impl_rowsOf.f
      exact Ev.pos (by omega) (rowsGo_ev o _ _ _ _ _ ha)
  · cases h
theorem bothTwinRowsOf (l : List Int) (hn : l.length ≤ 17592186044415) : ∃ (R : List (List Int)) (b : Bool), R.length ≤ 100000 ∧ (∀ r ∈ R, r.length ≤ 1000) ∧ Ev (fun k => spec_TwinRowsOf.f k l) (R, b) ∧ Ev (fun k => impl_TwinRowsOf.f k l) (R, b) := by
  unfold spec_TwinRowsOf.f impl_TwinRowsOf.f
  by_cases hc : isOrd l = true
  · obtain ⟨r, s1, s2, h1, h2⟩ := rows_both hc
    have g := smallB_is s2
    refine ⟨r.2, true, by omega, fun x hx => by have := g.2 x hx; omega, ?_, ?_⟩
    · exact Ev.bind (l2Order_ev l (by omega)) (Ev.pos hc (Ev.bind h1 (Ev.val rfl)))
    · exact Ev.bind (isOrder_ev l (by omega)) (Ev.pos hc (Ev.bind h2 (Ev.val rfl)))
  · refine ⟨[], false, by simp, by simp, ?_, ?_⟩
    · exact Ev.bind (l2Order_ev l (by omega)) (Ev.neg hc (Ev.val rfl))
    · exact Ev.bind (isOrder_ev l (by omega)) (Ev.neg hc (Ev.val rfl))

theorem FnExactTwinRowsOf : laws_FnExactTwinRowsOf.Pure := by
  intro l hm hr hw hn
  obtain ⟨R, b, hR, hrow, h1, h2⟩ := bothTwinRowsOf l (by omega)
  obtain ⟨K1, g1⟩ := Ev.both h1 h2
  obtain ⟨K2, g2⟩ := Ev.both (toIntS_ev l (by omega)) (eqIntS_ev l l (by omega))
  obtain ⟨K3, g3⟩ := Ev.both (eqIntSS_ev R hR hrow) (markIntS_ev l 1 (by omega) (by omega) (by omega))
  obtain ⟨K4, g4⟩ := Ev.both (markSS_ev R hR hrow) (heldSS_ev R hR hrow)
  have e1 := g1 (K1 + K2 + K3 + K4) (by omega)
  have e2 := g2 (K1 + K2 + K3 + K4) (by omega)
  have e3 := g3 (K1 + K2 + K3 + K4) (by omega)
  have e4 := g4 (K1 + K2 + K3 + K4) (by omega)
  refine ⟨K1 + K2 + K3 + K4, R, b, _, _, _, _, ⟨e2.1, e1.1, e1.2, e3.1, by have := e2.2; simpa using this, e3.2, by omega, e4.1, e4.2, by omega⟩⟩

end Go.Proofs.Ytnfcopikfbnheaa.Pure
