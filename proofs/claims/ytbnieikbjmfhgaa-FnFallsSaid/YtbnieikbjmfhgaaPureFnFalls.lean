/- An order is layered exactly if its fall sweep is sorted, falls descend, and fall sweeps sort in as many as are told. -/
import Derived.Test.YtbnieikbjmfhgaaPFnFallsx22
import Derived.Test.YtbnieikbjmfhgaaK
import Derived.Test.YtbnieikbjmfhgaaTFnFalls0
import Derived.Test.YtbnieikbjmfhgaaTFnFalls1
import Derived.Test.YtbnieikbjmfhgaaTFnFalls2
import Derived.Test.YtbnieikbjmfhgaaTFnFalls3
import Derived.Test.YtbnieikbjmfhgaaTFnFalls4
import Derived.Test.YtbnieikbjmfhgaaTFnFalls5
import Derived.Test.YtbnieikbjmfhgaaTFnFalls6
import Derived.Test.YtbnieikbjmfhgaaTFnFalls7
set_option linter.unusedVariables false
set_option linter.unusedSimpArgs false
namespace Go.Proofs.Ytbnieikbjmfhgaa.Pure
open Go.RowKit Go.Proofs.Ytbnieikbjmfhgaa.PFnFalls Go.Proofs.YtbnieikbjmfhgaaW.PrintWords Go.Proofs.YtbnieikbjmfhgaaW.PrintLast Go.Proofs.YtbnieikbjmfhgaaW.PrintMore
theorem fa_all : ∀ n ∈ [1, 2, 3, 4, 5, 6, 7], allO (intsTo n) faOk n [] = true := by
  intro n hn
  by_cases h7 : n = 7
  · subst h7
    rw [allO]
    simp only [show intsTo 7 = [1, 2, 3, 4, 5, 6, 7] from rfl, List.all_cons, List.all_nil, List.contains_nil, Bool.false_or, Bool.and_true, Bool.and_eq_true]
    exact ⟨fa_all_71, fa_all_72, fa_all_73, fa_all_74, fa_all_75, fa_all_76, fa_all_77⟩
  · exact fa_all_6 n (by simp at hn ⊢; omega)
theorem swp_all : ∀ n ∈ [1, 2, 3, 4, 5, 6, 7], allO (intsTo n) swpOk n [] = true := fun n hn => allO_imp (fun l h => by simp only [faOk, Bool.and_eq_true] at h; exact h.1) _ n [] (fa_all n hn)
theorem rk_all : ∀ n ∈ [1, 2, 3, 4, 5, 6, 7], allO (intsTo n) rkOk n [] = true := fun n hn => allO_imp (fun l h => by simp only [faOk, Bool.and_eq_true] at h; exact h.2.1) _ n [] (fa_all n hn)
theorem fl_of {l : List Int} (h : isOrd l = true) : flOk l = true := by
  have := orders_all h _ fa_all
  simp only [faOk, Bool.and_eq_true] at this
  exact this.2.2
theorem swp_of {l : List Int} (h : isOrd l = true) : isOrd (swp l) = true ∧ (swp l).length = l.length ∧ (sortedB l (l.length - 1) = decide (l = marked 1 l.length)) ∧ (sortedB l (l.length - 1) = true ∨ val8 (swp l) 0 < val8 l 0) := by
  have := orders_all h _ swp_all
  simp only [swpOk, Bool.and_eq_true, Bool.or_eq_true, beq_iff_eq] at this
  refine ⟨this.1.1, this.1.2, this.2.1, this.2.2.imp id fun h => ?_⟩
  simpa [Nat.blt_eq] using h
def swps : Nat → List Int → Int → Int
  | 0, _, m => m
  | d + 1, l, m => if sortedB l (l.length - 1) = true then m else swps d (swp l) (wrap64 (m + 1))
theorem specSweeps_l (n : Nat) (hn : n ≤ 7) : ∀ (d : Nat) (l0 l : List Int) (m : Int), l0.length = n → isOrd l = true → l.length = n → val8 l 0 < d → Ev (fun k => spec_l6Sweeps.l0 k l0 m l) (swps d l m)
  | 0, _, _, _, _, _, _, h => absurd h (Nat.not_lt_zero _)
  | d + 1, l0, l, m, h0, ho, hl, hd => by
    obtain ⟨a1, a2, a3, a4⟩ := swp_of ho
    refine Ev.step (fun k => by rw [spec_l6Sweeps.l0]) ?_
    rw [h0]
    refine Ev.bind (l2Sorted_ev n (by omega)) (Ev.bind (l1Same_ev _ _ (by omega)) ?_)
    rw [swps, a3, hl]
    refine Ev.ite (fun hc => Ev.val ?_) (fun hc => ?_)
    · rw [if_pos hc]
    · rw [if_neg hc]
      rw [a3, hl] at a4
      exact Ev.bind (l6Sweep_ev ho) (specSweeps_l n hn d l0 (swp l) _ h0 a1 (by omega) (a4.elim (fun a4 => absurd a4 hc) (fun a4 => by omega)))
theorem implSweeps_l (n : Nat) (hn : n ≤ 7) : ∀ (d : Nat) (l : List Int) (m : Int), isOrd l = true → l.length = n → val8 l 0 < d → Ev (fun k => impl_fallSweeps.l0 k l m) (swps d l m)
  | 0, _, _, _, _, h => absurd h (Nat.not_lt_zero _)
  | d + 1, l, m, ho, hl, hd => by
    obtain ⟨a1, a2, a3, a4⟩ := swp_of ho
    have hlen := isOrd_len ho
    refine Ev.step (fun k => by rw [impl_fallSweeps.l0]) ?_
    refine Ev.bind (isSorted_ev l (by omega) (by omega)) ?_
    rw [swps]
    refine Ev.ite (fun hc => Ev.val ?_) (fun hc => ?_)
    · rw [if_pos hc]
    · rw [if_neg hc]
      exact Ev.bind (fallSweep_ev ho) (implSweeps_l n hn d (swp l) _ a1 (by omega) (a4.elim (fun a4 => absurd a4 hc) (fun a4 => by omega)))
def resCountFallSweeps (l : List Int) : Int := if isOrd l then swps (val8 l 0 + 1) l 0 else 0
theorem specCountFallSweeps_ev (l : List Int) (hn : l.length ≤ 17592186044415) : Ev (fun k => spec_CountFallSweeps.f k l) (resCountFallSweeps l, isOrd l) := by
  unfold spec_CountFallSweeps.f
  refine Ev.bind (l2Order_ev l (by omega)) (Ev.ite (fun hc => ?_) (fun hc => Ev.val ?_))
  · have hlen := isOrd_len hc
    unfold spec_l6Sweeps.f
    simp only [l1Own_is l (by omega), Option.bind_some]
    refine Ev.bind (specSweeps_l l.length hlen.2 (val8 l 0 + 1) l l 0 rfl hc rfl (by omega)) (Ev.val ?_)
    simp [resCountFallSweeps, hc]
  · rw [Bool.not_eq_true] at hc; simp [resCountFallSweeps, hc]
theorem implCountFallSweeps_ev (l : List Int) (hn : l.length ≤ 17592186044415) : Ev (fun k => impl_CountFallSweeps.f k l) (resCountFallSweeps l, isOrd l) := by
  unfold impl_CountFallSweeps.f
  refine Ev.bind (isOrder_ev l (by omega)) (Ev.ite (fun hc => ?_) (fun hc => Ev.val ?_))
  · have hlen := isOrd_len hc
    unfold impl_fallSweeps.f
    refine Ev.bind (implSweeps_l l.length hlen.2 (val8 l 0 + 1) l 0 hc rfl (by omega)) (Ev.val ?_)
    simp [resCountFallSweeps, hc]
  · rw [Bool.not_eq_true] at hc; simp [resCountFallSweeps, hc]
def resIsLayered (l : List Int) : Bool := if isOrd l then (cutsR [] (cutsM 7 l (marked 1 l.length))).2 else false
theorem twin_marked {l : List Int} (h : isOrd l = true) : Twin l (marked 1 l.length) := by
  have := isOrd_len h
  exact Twin.ord h (marked_ord _ this.1 this.2) (by rw [marked_length])
theorem specIsLayered_ev (l : List Int) (hn : l.length ≤ 17592186044415) : Ev (fun k => spec_IsLayered.f k l) (resIsLayered l, isOrd l) := by
  unfold spec_IsLayered.f
  refine Ev.bind (l2Order_ev l (by omega)) (Ev.ite (fun hc => ?_) (fun hc => Ev.val ?_))
  · have := isOrd_len hc
    refine Ev.bind (l2Sorted_ev l.length (by omega)) (Ev.bind (l6To_ev l _ hc (twin_marked hc)) (Ev.val ?_))
    simp [resIsLayered, hc]
  · rw [Bool.not_eq_true] at hc; simp [resIsLayered, hc]
theorem implIsLayered_ev (l : List Int) (hn : l.length ≤ 17592186044415) : Ev (fun k => impl_IsLayered.f k l) (resIsLayered l, isOrd l) := by
  unfold impl_IsLayered.f
  refine Ev.bind (isOrder_ev l (by omega)) (Ev.ite (fun hc => ?_) (fun hc => Ev.val ?_))
  · have := isOrd_len hc
    refine Ev.bind (sorted_ev l.length (by omega)) (Ev.bind (cutsTo_ev l _ hc (twin_marked hc)) (Ev.val ?_))
    simp [resIsLayered, hc]
  · rw [Bool.not_eq_true] at hc; simp [resIsLayered, hc]
def rk (l : List Int) : Nat := ((spec_l2Rank.f 200 l).getD 0).toNat
theorem rk_is {l : List Int} (h : isOrd l = true) : spec_l2Rank.f 200 l = some (rk l : Int) ∧ rk l < facN l.length ∧ atM l.length (marked 1 l.length) (rk l) = l := by
  have hh := orders_all h _ rk_all
  unfold rkOk at hh
  cases e : spec_l2Rank.f 200 l with
  | none => rw [e] at hh; cases hh
  | some r =>
    rw [e] at hh
    simp only [Bool.and_eq_true, decide_eq_true_eq, beq_iff_eq] at hh
    have er : rk l = r.toNat := by rw [rk, e]; rfl
    rw [er]
    exact ⟨by rw [Int.toNat_of_nonneg hh.1], by omega, hh.2.2⟩
theorem rk_inj {l m : List Int} (hl : isOrd l = true) (hm : isOrd m = true) (e : l.length = m.length) (h : rk l = rk m) : l = m := by
  rw [← (rk_is hl).2.2, ← (rk_is hm).2.2, e, h]
def outC (l c : List Int) (T : List (List Int)) : List (List Int) := T.map fun s => runL (runL l c) s
def outsC (l : List Int) (T U : List (List Int)) : List (List Int) := U.flatMap fun c => outC l c T
theorem outsC_cons (l : List Int) (T U : List (List Int)) (c : List Int) : outsC l T (c :: U) = outC l c T ++ outsC l T U := by
  rw [outsC, List.flatMap_cons]; rfl
theorem cutsT_mem {n : Nat} (h1 : 1 ≤ n) (h7 : n ≤ 7) {c : List Int} (hc : c ∈ cutsT n) : isCuts (n : Int) c = true := by
  obtain ⟨t1, t2, t3⟩ := cutsT_at n h1 h7
  obtain ⟨i, hi, e⟩ := List.mem_iff_getElem.1 hc
  have h5 := (t3 i hi).2
  rw [List.getD_eq_getElem?_getD, List.getElem?_eq_getElem hi, Option.getD_some, e] at h5
  exact h5
theorem outsC_ord {l : List Int} (hl : isOrd l = true) (U : List (List Int)) (hU : ∀ c ∈ U, c ∈ cutsT l.length) (x : List Int) (hx : x ∈ outsC l (cutsT l.length) U) : isOrd x = true ∧ x.length = l.length := by
  have hn := isOrd_len hl
  obtain ⟨c, hc, hx⟩ := List.mem_flatMap.1 hx
  obtain ⟨s, hs, rfl⟩ := List.mem_map.1 hx
  have h1 := runL_ord hl (cutsT_mem hn.1 hn.2 (hU c hc))
  have h2 := runL_ord h1.1 (by rw [h1.2]; exact cutsT_mem hn.1 hn.2 hs)
  exact ⟨h2.1, h2.2.trans h1.2⟩
theorem outsC_len (l : List Int) (T : List (List Int)) (m : Nat) (hT : T.length ≤ m) : ∀ U : List (List Int), (outsC l T U).length ≤ m * U.length
  | [] => by simp [outsC]
  | c :: U => by
    have := outsC_len l T m hT U
    rw [outsC_cons, List.length_append, outC, List.length_map, List.length_cons, Nat.mul_succ]
    omega
def isD (outs : List (List Int)) (D : Nat) : Prop := ∃ acc : List (List Int), acc.Nodup ∧ (∀ x, x ∈ acc ↔ x ∈ outs) ∧ D = acc.length
theorem isD_one {outs : List (List Int)} {D E : Nat} (h1 : isD outs D) (h2 : isD outs E) : D = E := by
  obtain ⟨a, na, ma, rfl⟩ := h1
  obtain ⟨b, nb, mb, rfl⟩ := h2
  exact ((List.perm_ext_iff_of_nodup na nb).2 fun x => (ma x).trans (mb x).symm).length_eq
structure MarkI (n : Nat) (seen : List Bool) (many : Int) (acc : List (List Int)) (B : Nat) : Prop where
  len : seen.length = facN n
  nd : acc.Nodup
  cnt : many = (acc.length : Int)
  bd : acc.length ≤ B
  ord : ∀ x ∈ acc, isOrd x = true ∧ x.length = n
  iff : ∀ o : List Int, isOrd o = true → o.length = n → (seen.getD (rk o) false = true ↔ o ∈ acc)
theorem MarkI.step {n : Nat} {seen : List Bool} {many : Int} {acc : List (List Int)} {B : Nat} (h : MarkI n seen many acc B) (o : List Int) (ho : isOrd o = true) (hl : o.length = n) (hB : B ≤ 100000) (hs : ¬ seen.getD (rk o) false = true) :
    MarkI n (seen.set (rk o) true) (wrap64 (many + 1)) (acc ++ [o]) (B + 1) := by
  have hno : o ∉ acc := fun hm => hs ((h.iff o ho hl).2 hm)
  have hb := h.bd
  have hr := (rk_is ho).2.1
  rw [hl, ← h.len] at hr
  refine ⟨by rw [List.length_set]; exact h.len, ?_, by rw [h.cnt, wup _ (by omega), List.length_append]; rfl, by rw [List.length_append, List.length_singleton]; omega, ?_, ?_⟩
  · rw [List.nodup_append]
    refine ⟨h.nd, by simp, fun a ha b hb e => ?_⟩
    rw [List.mem_singleton] at hb
    subst hb; subst e; exact hno ha
  · intro x hx
    rcases List.mem_append.1 hx with hx | hx
    · exact h.ord x hx
    · rw [List.mem_singleton.1 hx]; exact ⟨ho, hl⟩
  · intro q hq hql
    rw [List.mem_append, List.mem_singleton, ← h.iff q hq hql, List.getD_eq_getElem?_getD, List.getD_eq_getElem?_getD]
    by_cases e : rk o = rk q
    · have : o = q := rk_inj ho hq (by omega) e
      subst this
      rw [List.getElem?_set_self hr]
      simp
    · rw [List.getElem?_set_ne e]
      constructor
      · exact .inl
      · rintro (h1 | h1)
        · exact h1
        · subst h1; exact absurd rfl e
theorem specC_in {l m : List Int} (hl : isOrd l = true) (hm : isOrd m = true) (hml : m.length = l.length) (i : Nat) (hi : i < (cutsT l.length).length) (R : Int × Bool) : ∀ (d j : Nat) (seen : List Bool) (many : Int) (acc : List (List Int)), (cutsT l.length).length = j + d → MarkI l.length seen many acc (64 * i + j) →
    (∀ seen' many' acc', MarkI l.length seen' many' acc' (64 * (i + 1)) → (∀ x, x ∈ acc' ↔ x ∈ acc ∨ x ∈ ((cutsT l.length).drop j).map (runL m)) → Ev (fun k => spec_CountTwoCuts.l0 k l seen' many' (l.length : Int) ((i + 1 : Nat) : Int)) R) →
      Ev (fun k => spec_CountTwoCuts.l1 k l seen many (l.length : Int) (i : Int) m (j : Int)) R
  | 0, j, seen, many, acc, h, hI, hR => by
    have hn := isOrd_len hl
    obtain ⟨t1, t2, t3⟩ := cutsT_at l.length hn.1 hn.2
    have hp := pow_le l.length hn.2
    rw [← t2] at hp
    refine Ev.step (fun k => by rw [spec_CountTwoCuts.l1]) ?_
    have e := shl_is l.length hn.1 hn.2
    rw [← t2] at e
    simp only [wdn l.length (by omega) (by omega), e, wup i (by omega)]
    clear e t2
    refine Ev.pos (by omega) ?_
    refine Ev.neg (by omega) ?_
    refine hR seen many acc { hI with bd := by have := hI.bd; omega } fun x => ?_
    rw [List.drop_of_length_le (by omega)]
    simp
  | d + 1, j, seen, many, acc, h, hI, hR => by
    have hn := isOrd_len hl
    obtain ⟨t1, t2, t3⟩ := cutsT_at l.length hn.1 hn.2
    have hp := pow_le l.length hn.2
    obtain ⟨t4, t5⟩ := t3 j (by omega)
    have ho := runL_ord hm (by rw [hml]; exact t5)
    have hol : (runL m ((cutsT l.length).getD j [])).length = l.length := ho.2.trans hml
    have hrk := rk_is ho.1
    rw [hol, ← hI.len] at hrk
    rw [← t2] at hp
    refine Ev.step (fun k => by rw [spec_CountTwoCuts.l1]) ?_
    have e := shl_is l.length hn.1 hn.2
    rw [← t2] at e
    simp only [wdn l.length (by omega) (by omega), e, wup j (by omega)]
    clear e t2
    refine Ev.pos (by omega) ?_
    refine Ev.pos (by omega) ?_
    refine Ev.bind (Ev.of (fun k => spec_l6At.mono _ _ k) t4) ?_
    refine Ev.bind (l6Run_ev m _ (by omega) (by rw [hml]; exact t5)) ?_
    refine Ev.bind (Ev.of (fun k => spec_l2Rank.mono _ k) hrk.1) ?_
    refine Ev.pos (by omega) ?_
    refine Ev.pos (by omega) ?_
    have hdrop : (cutsT l.length).drop j = (cutsT l.length).getD j [] :: (cutsT l.length).drop (j + 1) := drop_stepL _ j (by omega)
    refine Ev.ite (fun hc => ?_) (fun hc => ?_)
    · have hin : runL m ((cutsT l.length).getD j []) ∈ acc := (hI.iff _ ho.1 hol).1 hc
      refine specC_in hl hm hml i hi R d (j + 1) seen many acc (by omega) { hI with bd := by have := hI.bd; omega } fun s' m' a' hI' hx => hR s' m' a' hI' fun x => ?_
      rw [hx x, hdrop, List.map_cons, List.mem_cons]
      constructor
      · rintro (h1 | h1)
        · exact .inl h1
        · exact .inr (.inr h1)
      · rintro (h1 | h1 | h1)
        · exact .inl h1
        · rw [h1]; exact .inl hin
        · exact .inr h1
    · have hS := hI.step _ ho.1 hol (by omega) hc
      rw [Int.toNat_natCast]
      refine specC_in hl hm hml i hi R d (j + 1) _ _ _ (by omega) hS fun s' m' a' hI' hx => hR s' m' a' hI' fun x => ?_
      rw [hx x, hdrop, List.map_cons, List.mem_cons, List.mem_append, List.mem_singleton, or_assoc]
theorem specC_out {l : List Int} (hl : isOrd l = true) (D : Nat) : ∀ (d i : Nat) (seen : List Bool) (many : Int) (acc : List (List Int)), (cutsT l.length).length = i + d → MarkI l.length seen many acc (64 * i) →
    (∀ acc' : List (List Int), acc'.Nodup → (∀ x, x ∈ acc' ↔ x ∈ acc ∨ x ∈ outsC l (cutsT l.length) ((cutsT l.length).drop i)) → acc'.length = D) →
      Ev (fun k => spec_CountTwoCuts.l0 k l seen many (l.length : Int) (i : Int)) ((D : Int), true)
  | 0, i, seen, many, acc, h, hI, hD => by
    have hn := isOrd_len hl
    obtain ⟨t1, t2, t3⟩ := cutsT_at l.length hn.1 hn.2
    refine Ev.step (fun k => by rw [spec_CountTwoCuts.l0]) ?_
    have e := shl_is l.length hn.1 hn.2
    rw [← t2] at e
    simp only [wdn l.length (by omega) (by omega), e]
    clear e t2
    refine Ev.pos (by omega) ?_
    refine Ev.neg (by omega) (Ev.val ?_)
    rw [hI.cnt, hD acc hI.nd fun x => by rw [List.drop_of_length_le (by omega)]; simp [outsC]]
  | d + 1, i, seen, many, acc, h, hI, hD => by
    have hn := isOrd_len hl
    obtain ⟨t1, t2, t3⟩ := cutsT_at l.length hn.1 hn.2
    obtain ⟨t4, t5⟩ := t3 i (by omega)
    have ho := runL_ord hl t5
    refine Ev.step (fun k => by rw [spec_CountTwoCuts.l0]) ?_
    have e := shl_is l.length hn.1 hn.2
    rw [← t2] at e
    simp only [wdn l.length (by omega) (by omega), e]
    clear e t2
    refine Ev.pos (by omega) ?_
    refine Ev.pos (by omega) ?_
    refine Ev.bind (Ev.of (fun k => spec_l6At.mono _ _ k) t4) ?_
    refine Ev.bind (l6Run_ev l _ (by omega) t5) ?_
    refine specC_in hl ho.1 ho.2 i (by omega) _ (cutsT l.length).length 0 seen many acc (by omega) hI fun s' m' a' hI' hx => ?_
    refine specC_out hl D d (i + 1) s' m' a' (by omega) hI' fun acc' hn' hx' => hD acc' hn' fun x => ?_
    rw [hx' x, hx x, drop_stepL _ i (by omega), outsC_cons, List.mem_append, List.drop_zero, or_assoc]
    rfl
theorem cmpCompareC (a b : Int) : cmp_Compare_int.f a b = some (if a < b then -1 else if a > b then 1 else 0) := by
  unfold cmp_Compare_int.f cmp_isNaN_int.f
  simp
  split
  · rfl
  · split <;> rfl
theorem CompareC_l (a b : List Int) (hab : a.length = b.length) (hn : a.length ≤ 1000) : ∀ d i : Nat, a.length = i + d → Ev (fun k => slices_Compare_int_int.l0 k a b a (a.length : Int) (i : Int)) (cmpL (a.drop i) (b.drop i))
  | 0, i, h => by
    refine Ev.step (fun k => by rw [slices_Compare_int_int.l0]) (Ev.neg (by omega) (Ev.neg (by omega) (Ev.val ?_)))
    rw [List.drop_eq_nil_of_le (by omega)]; simp [cmpL]
  | d + 1, i, h => by
    have e : wrap64 ((i : Int) + 1) = ((i + 1 : Nat) : Int) := by rw [w64 (by omega)]; omega
    refine Ev.step (fun k => by rw [slices_Compare_int_int.l0]) ?_
    simp only [e, rd_nat, cmpCompareC, Option.bind_some]
    rw [drop_step a i (by omega), drop_step b i (by omega), cmpL]
    refine Ev.pos (by omega) (Ev.pos (by omega) (Ev.pos (by omega) (Ev.neg (by omega) (Ev.pos (by omega) ?_))))
    by_cases c : nth a i = nth b i
    · rw [if_pos c]
      exact Ev.pos (by rw [if_neg (by omega), if_neg (by omega)]) (CompareC_l a b hab hn d (i + 1) (by omega))
    · rw [if_neg c]
      by_cases c2 : nth a i < nth b i
      · rw [if_pos c2]; exact Ev.neg (by decide) (Ev.val (by rw [if_pos c2]))
      · rw [if_neg c2, if_pos (show nth a i > nth b i by omega)]; exact Ev.neg (by decide) (Ev.val (by rw [if_neg c2]))
theorem compareOrders_ev (a b : List Int) (hab : a.length = b.length) (hn : a.length ≤ 1000) : Ev (fun k => impl_compareOrders.f k a b) (cmpO a b) := by
  unfold impl_compareOrders.f
  rw [cmpO, if_pos hab]
  refine Ev.pos (by omega) (Ev.bind (a := cmpL a b) ?_ (Ev.val rfl))
  unfold slices_Compare_int_int.f
  exact CompareC_l a b hab hn a.length 0 (by omega)
theorem evAllC {g : Nat → List Int → Prop} : ∀ qs : List (List Int), (∀ q ∈ qs, ∃ K, ∀ k, K ≤ k → g k q) → ∃ K, ∀ k, K ≤ k → ∀ q ∈ qs, g k q
  | [], _ => ⟨0, fun _ _ q hq => by cases hq⟩
  | q :: qs, h => by
    obtain ⟨K, hK⟩ := h q (by simp)
    obtain ⟨L, hL⟩ := evAllC qs fun x hx => h x (by simp [hx])
    refine ⟨K + L, fun k hk x hx => ?_⟩
    rcases List.mem_cons.1 hx with rfl | hx
    · exact hK k (by omega)
    · exact hL k (by omega) x hx
theorem tidied_ev (l : List (List Int)) (h0 : 0 < l.length) (h1 : l.length ≤ 1000000) (n : Nat) (hn : n ≤ 1000) (hl : ∀ x ∈ l, x.length = n) : Ev (fun k => impl_tidied.f k l) (compL (sortL l)) := by
  obtain ⟨K, hK⟩ := evAllC (g := fun k x => ∀ y ∈ l, impl_compareOrders.f k x y = some (cmpO x y) ∧ slices_Equal_int_int.f k x y = some (decide (x = y))) l fun x hx => by
    refine evAllC (g := fun k y => impl_compareOrders.f k x y = some (cmpO x y) ∧ slices_Equal_int_int.f k x y = some (decide (x = y))) l fun y hy => ?_
    have e1 := hl x hx
    have e2 := hl y hy
    obtain ⟨K1, g1⟩ := compareOrders_ev x y (by omega) (by omega)
    obtain ⟨K2, g2⟩ := Equal_ev x y (by omega)
    exact ⟨K1 + K2, fun k hk => ⟨g1 k (by omega), g2 k (by omega)⟩⟩
  refine ⟨K, fun k hk => ?_⟩
  simp only [impl_tidied.f]
  rw [if_pos ⟨h0, h1, (tidyOk_iff _ _).2 fun x hx y hy => hK k hk x hx y hy⟩]
theorem cK_pair (L : List (List Int)) : (cK L L.length).Pairwise (· < ·) := (List.pairwise_lt_range).filter _
theorem getD_at {xs : List (List Int)} {i : Nat} (h : i < xs.length) : xs.getD i [] = xs[i] := by
  rw [List.getD_eq_getElem?_getD, List.getElem?_eq_getElem h]; rfl
theorem cK_find (L : List (List Int)) : ∀ j, j < L.length → ∃ i ∈ cK L L.length, L.getD i [] = L.getD j []
  | 0, h => ⟨0, List.mem_filter.2 ⟨List.mem_range.2 h, rfl⟩, rfl⟩
  | j + 1, h => by
    by_cases hk : cKeep L (j + 1) = true
    · exact ⟨j + 1, List.mem_filter.2 ⟨List.mem_range.2 h, hk⟩, rfl⟩
    · obtain ⟨i, h1, h2⟩ := cK_find L j (by omega)
      refine ⟨i, h1, h2.trans ?_⟩
      simp [cKeep] at hk
      simpa using hk.symm
theorem compL_isD (l : List (List Int)) : isD l (compL (sortL l)).length := by
  have hs : (sortL l).Pairwise fun x y => leO x y = true := List.pairwise_mergeSort leO_trans leO_total l
  have hp := sortL_perm l
  generalize sortL l = L at hs hp ⊢
  refine ⟨compL L, ?_, fun x => ?_, rfl⟩
  · unfold compL
    refine List.pairwise_map.2 ((cK_pair L).imp_of_mem fun {i j} hi hj hij e => ?_)
    have hi' := cK_lt hi
    have hj' := cK_lt hj
    have hkj := (List.mem_filter.1 hj).2
    have hne : L.getD j [] ≠ L.getD (j - 1) [] := by
      intro h
      simp only [cKeep, h] at hkj
      simp at hkj
      omega
    rw [List.pairwise_iff_getElem] at hs
    rw [getD_at hi', getD_at hj'] at e
    rw [getD_at hj', getD_at (show j - 1 < L.length by omega)] at hne
    by_cases h1 : i = j - 1
    · subst h1; exact hne e.symm
    · have a1 := hs i (j - 1) hi' (by omega) (by omega)
      have a2 := hs (j - 1) j (by omega) hj' (by omega)
      rw [← e] at a2 hne
      exact hne (leO_anti _ _ a1 a2)
  · rw [← hp.mem_iff, compL, List.mem_map]
    constructor
    · rintro ⟨i, hi, rfl⟩
      have := cK_lt hi
      rw [getD_at this]; exact List.getElem_mem this
    · intro hx
      obtain ⟨j, hj, rfl⟩ := List.mem_iff_getElem.1 hx
      obtain ⟨i, h1, h2⟩ := cK_find L j hj
      exact ⟨i, h1, by rw [h2, getD_at hj]⟩
theorem implC_in {l c : List Int} (hl : isOrd l = true) (hc : c ∈ cutsT l.length) (i : Nat) (hi : i < (cutsT l.length).length) (R : Int × Bool) : ∀ (d j : Nat) (acc : List (List Int)), (cutsT l.length).length = j + d → acc.length ≤ 64 * i + j →
    Ev (fun k => impl_CountTwoCuts.l0 k l (acc ++ outC l c ((cutsT l.length).drop j)) (cutsT l.length) (cutsT l.length) ((cutsT l.length).length : Int) ((i + 1 : Nat) : Int)) R →
      Ev (fun k => impl_CountTwoCuts.l1 k l acc (cutsT l.length) c (cutsT l.length) ((cutsT l.length).length : Int) (i : Int) (cutsT l.length) ((cutsT l.length).length : Int) (j : Int)) R
  | 0, j, acc, h, hb, hR => by
    have hn := isOrd_len hl
    have hp := pow_le l.length hn.2
    obtain ⟨t1, t2, t3⟩ := cutsT_at l.length hn.1 hn.2
    rw [← t2] at hp
    clear t2
    refine Ev.step (fun k => by rw [impl_CountTwoCuts.l1]) ?_
    simp only [wup i (by omega)]
    refine Ev.neg (by omega) ?_
    rw [List.drop_of_length_le (by omega)] at hR
    simpa [outC] using hR
  | d + 1, j, acc, h, hb, hR => by
    have hn := isOrd_len hl
    have hp := pow_le l.length hn.2
    obtain ⟨t1, t2, t3⟩ := cutsT_at l.length hn.1 hn.2
    obtain ⟨t4, t5⟩ := t3 j (by omega)
    have t6 := cutsT_mem hn.1 hn.2 hc
    have ho := runL_ord hl t6
    rw [← t2] at hp
    clear t2
    refine Ev.step (fun k => by rw [impl_CountTwoCuts.l1]) ?_
    simp only [wup j (by omega), rd_L1_natL]
    refine Ev.pos (by omega) ?_
    refine Ev.pos (by omega) ?_
    refine Ev.pos (by omega) ?_
    refine Ev.bind (runCuts_ev l _ (by omega) t6) ?_
    refine Ev.bind (runCuts_ev _ _ (by omega) (by rw [ho.2]; exact t5)) ?_
    refine Ev.pos (by omega) ?_
    refine implC_in hl hc i hi R d (j + 1) _ (by omega) (by rw [List.length_append, List.length_singleton]; omega) ?_
    rw [drop_stepL _ j (by omega), outC, List.map_cons] at hR
    rw [List.append_assoc]
    exact hR
theorem implC_out {l : List Int} (hl : isOrd l = true) (R : Int × Bool) : ∀ (d i : Nat) (acc : List (List Int)), (cutsT l.length).length = i + d → acc.length ≤ 64 * i →
    (∀ r, Ev (fun k => impl_tidied.f k (acc ++ outsC l (cutsT l.length) ((cutsT l.length).drop i))) r → R = ((r.length : Int), true)) → (∃ r, Ev (fun k => impl_tidied.f k (acc ++ outsC l (cutsT l.length) ((cutsT l.length).drop i))) r) →
      Ev (fun k => impl_CountTwoCuts.l0 k l acc (cutsT l.length) (cutsT l.length) ((cutsT l.length).length : Int) (i : Int)) R
  | 0, i, acc, h, hb, hR, hE => by
    obtain ⟨r, hr⟩ := hE
    have e := hR r hr
    rw [List.drop_of_length_le (by omega), outsC, List.flatMap_nil, List.append_nil] at hr
    refine Ev.step (fun k => by rw [impl_CountTwoCuts.l0]) ?_
    refine Ev.neg (by omega) ?_
    exact Ev.bind hr (Ev.val e.symm)
  | d + 1, i, acc, h, hb, hR, hE => by
    have hn := isOrd_len hl
    have hp := pow_le l.length hn.2
    obtain ⟨t1, t2, t3⟩ := cutsT_at l.length hn.1 hn.2
    rw [← t2] at hp
    clear t2
    rw [drop_stepL _ i (by omega), outsC_cons, ← List.append_assoc] at hR hE
    refine Ev.step (fun k => by rw [impl_CountTwoCuts.l0]) ?_
    simp only [rd_L1_natL]
    refine Ev.pos (by omega) ?_
    refine Ev.pos (by omega) ?_
    refine Ev.pos (by omega) ?_
    refine implC_in hl (getD_memL (by omega)) i (by omega) R (cutsT l.length).length 0 acc (by omega) hb ?_
    refine implC_out hl R d (i + 1) _ (by omega) ?_ hR hE
    rw [List.length_append, outC, List.length_map, List.length_drop]
    omega
theorem ev_one {α : Type} {g : Nat → Option α} {a b : α} (h1 : Ev g a) (h2 : Ev g b) : a = b := by
  obtain ⟨K, h1⟩ := h1
  obtain ⟨L, h2⟩ := h2
  exact Option.some.inj ((h1 (K + L) (by omega)).symm.trans (h2 (K + L) (by omega)))
def resC (l : List Int) : Int × Bool := if isOrd l = true then (((compL (sortL (outsC l (cutsT l.length) (cutsT l.length)))).length : Int), true) else (0, false)
theorem specCountTwoCuts_ev (l : List Int) (hn : l.length ≤ 17592186044415) : Ev (fun k => spec_CountTwoCuts.f k l) (resC l) := by
  unfold spec_CountTwoCuts.f resC
  refine Ev.bind (l2Order_ev l (by omega)) (Ev.ite (fun hc => ?_) (fun hc => Ev.val ?_))
  · rw [if_pos hc]
    have h7 := isOrd_len hc
    have hf := facN_le l.length
    refine Ev.bind (l2WaysT l.length h7.2) ?_
    refine Ev.pos (by omega) ?_
    refine Ev.pos (by omega) ?_
    rw [Int.toNat_natCast]
    refine specC_out hc _ (cutsT l.length).length 0 _ 0 [] (by omega) ⟨by rw [List.length_replicate], List.nodup_nil, rfl, Nat.le_refl _, fun x hx => (by cases hx), fun o _ _ => ?_⟩ fun acc' hn' hx' => ?_
    · rw [List.getD_eq_getElem?_getD, List.getElem?_replicate]
      constructor
      · intro h; split at h <;> cases h
      · intro h; cases h
    · refine isD_one ⟨acc', hn', fun x => ?_, rfl⟩ (compL_isD _)
      rw [hx' x, List.drop_zero]
      simp
  · rw [if_neg hc]
theorem implCountTwoCuts_ev (l : List Int) (hn : l.length ≤ 17592186044415) : Ev (fun k => impl_CountTwoCuts.f k l) (resC l) := by
  unfold impl_CountTwoCuts.f resC
  refine Ev.bind (isOrder_ev l (by omega)) (Ev.ite (fun hc => ?_) (fun hc => Ev.val ?_))
  · rw [if_pos hc]
    have h7 := isOrd_len hc
    have hp := pow_le l.length h7.2
    obtain ⟨t1, t2, t3⟩ := cutsT_at l.length h7.1 h7.2
    have hpos : 0 < (cutsT l.length).length := by rw [t2]; exact Nat.two_pow_pos _
    rw [← t2] at hp
    refine Ev.bind (Ev.of (fun k => impl_allCuts.mono _ k) t1) ?_
    have hlen := outsC_len l (cutsT l.length) 64 hp (cutsT l.length)
    have hT := tidied_ev (outsC l (cutsT l.length) (cutsT l.length)) (by
      obtain ⟨c, U, hU⟩ : ∃ c U, cutsT l.length = c :: U := by
        cases h : cutsT l.length with
        | nil => rw [h] at hpos; simp at hpos
        | cons c U => exact ⟨c, U, rfl⟩
      have h2 : outsC l (cutsT l.length) (c :: U) = outC l c (cutsT l.length) ++ outsC l (cutsT l.length) U := outsC_cons _ _ _ _
      rw [← hU] at h2
      rw [h2, List.length_append, outC, List.length_map]
      omega) (by omega) l.length (by omega) (fun x hx => (outsC_ord hc _ (fun c hc => hc) x hx).2)
    refine implC_out hc _ (cutsT l.length).length 0 [] (by omega) (by simp) (fun r hr => ?_) ⟨_, by rw [List.nil_append, List.drop_zero]; exact hT⟩
    rw [List.nil_append, List.drop_zero] at hr
    rw [ev_one hr hT]
  · rw [if_neg hc]
def bestT (F : List Int → Int) (xs : List (List Int)) : Nat → Int → List Int → Int → List Int × Int
  | 0, _, b, m => (b, m)
  | d + 1, i, b, m => if F (rowOf xs i) > m then bestT F xs d (i + 1) (rowOf xs i) (F (rowOf xs i)) else bestT F xs d (i + 1) b m
theorem rowOf_mem {xs : List (List Int)} {i : Int} (h0 : 0 ≤ i) (h : i < (xs.length : Int)) : rowOf xs i ∈ xs := by
  unfold rowOf
  rw [List.getD_eq_getElem?_getD, List.getElem?_eq_getElem (by omega)]; exact List.getElem_mem _
theorem bestL_ev (of_ : Nat → List Int → Option Int) (F : List Int → Int) (xs : List (List Int)) (hF : ∀ x ∈ xs, Ev (fun k => of_ k x) (F x)) : ∀ (d : Nat) (i : Int) (b : List Int) (m : Int), 0 ≤ i → i + (d : Int) = (xs.length : Int) → Ev (fun k => bestL (of_ k) xs d i b m) (bestT F xs d i b m)
  | 0, i, b, m, _, _ => Ev.val rfl
  | d + 1, i, b, m, h0, h => by
    unfold bestL
    rw [bestT]
    refine Ev.bind (hF _ (rowOf_mem h0 (by omega))) (Ev.ite (fun hc => ?_) (fun hc => ?_))
    · rw [if_pos hc]; exact bestL_ev of_ F xs hF d (i + 1) _ _ (by omega) (by omega)
    · rw [if_neg hc]; exact bestL_ev of_ F xs hF d (i + 1) _ _ (by omega) (by omega)
theorem bestT_mem (F : List Int → Int) (xs : List (List Int)) : ∀ (d : Nat) (i : Int) (b : List Int) (m : Int), 0 ≤ i → i + (d : Int) = (xs.length : Int) → (bestT F xs d i b m).1 = b ∨ (bestT F xs d i b m).1 ∈ xs
  | 0, i, b, m, _, _ => .inl rfl
  | d + 1, i, b, m, h0, h => by
    rw [bestT]
    split
    · rcases bestT_mem F xs d (i + 1) (rowOf xs i) (F (rowOf xs i)) (by omega) (by omega) with h1 | h1
      · right; rw [h1]; exact rowOf_mem h0 (by omega)
      · exact .inr h1
    · exact bestT_mem F xs d (i + 1) b m (by omega) (by omega)
def swpsI (l : List Int) : Int := swps (val8 l 0 + 1) l 0
theorem specSweepsI_ev {l : List Int} (hc : isOrd l = true) : Ev (fun k => spec_l6Sweeps.f k l) (swpsI l) := by
  have hlen := isOrd_len hc
  unfold spec_l6Sweeps.f
  simp only [l1Own_is l (by omega), Option.bind_some]
  exact specSweeps_l l.length hlen.2 (val8 l 0 + 1) l l 0 rfl hc rfl (by omega)
theorem implSweepsI_ev {l : List Int} (hc : isOrd l = true) : Ev (fun k => impl_fallSweeps.f k l) (swpsI l) := by
  have hlen := isOrd_len hc
  unfold impl_fallSweeps.f
  exact implSweeps_l l.length hlen.2 (val8 l 0 + 1) l 0 hc rfl (by omega)
def sweptTo (l t : List Int) : Bool := decide (runL t (fallsOf t) = l)
theorem specFS_l (l : List Int) (h1 : 1 ≤ l.length) (h7 : l.length ≤ 7) :
    ∀ (d i : Nat) (acc : List (List Int)), (ordsM l.length).length = i + d → acc.length ≤ i → Ev (fun k => spec_FallSweptFrom.l0 k l acc (ordsM l.length) (i : Int)) (acc ++ ((ordsM l.length).drop i).filter (sweptTo l), true)
  | 0, i, acc, h, ha => by
    refine Ev.step (fun k => by rw [spec_FallSweptFrom.l0]) ?_
    refine Ev.neg (by omega) (Ev.val ?_)
    rw [List.drop_of_length_le (by omega)]; simp
  | d + 1, i, acc, h, ha => by
    have hlen := facN_le l.length
    have hol := ordsM_length l.length
    have hi : i < (ordsM l.length).length := by omega
    have hxo := ordsM_ord l.length h1 h7 _ (getD_memK hi)
    rw [drop_stepK _ i hi]
    refine Ev.step (fun k => by rw [spec_FallSweptFrom.l0]) ?_
    simp only [wup i (by omega), rd_L1_natK]
    generalize (ordsM l.length).getD i [] = x at hxo ⊢
    have hxl := isOrd_len hxo
    have hrl := runL_length (fallsOf x) x
    refine Ev.pos (by omega) (Ev.pos (by omega) (Ev.bind (l6Sweep_ev hxo) (Ev.bind (l1Same_ev _ _ (by omega)) ?_)))
    rw [List.filter_cons]
    refine Ev.ite (fun hc => ?_) (fun hc => ?_)
    · have hc' : sweptTo l x = true := hc
      rw [if_pos hc']
      refine Ev.pos (by omega) (Ev.to (specFS_l l h1 h7 d (i + 1) (acc ++ [x]) (by omega) (by rw [List.length_append, List.length_singleton]; omega)) ?_)
      rw [List.append_assoc]; rfl
    · have hc' : ¬ sweptTo l x = true := hc
      rw [if_neg hc']
      exact specFS_l l h1 h7 d (i + 1) acc (by omega) (by omega)
theorem rInts_l (a b : List Int) (hn : a.length ≤ 17592186044416) (hl : a.length = b.length) : ∀ (d i : Nat), a.length = i + d → Ev (fun k => laws_rInts.l0 k a b i) (decide (a.drop i = b.drop i))
  | 0, i, h => by
    refine Ev.step (fun k => by rw [laws_rInts.l0]) ?_
    refine Ev.neg (by omega) (Ev.val ?_)
    rw [List.drop_of_length_le (by omega), List.drop_of_length_le (by omega)]
    simp
  | d + 1, i, h => by
    refine Ev.step (fun k => by rw [laws_rInts.l0]) ?_
    refine Ev.pos (by omega) (Ev.pos (by omega) (Ev.pos (by omega) ?_))
    have e : wrap64 ((i : Int) + 1) = ((i + 1 : Nat) : Int) := by rw [w64 (by omega)]; omega
    simp only [e]
    rw [drop_step a i (by omega), drop_step b i (by omega)]
    refine Ev.ite (fun hc => ?_) (fun hc => Ev.val ?_)
    · have hc' : nth a i = nth b i := hc
      refine (rInts_l a b hn hl d (i + 1) (by omega)).to ?_
      rw [hc']
      simp
    · have hc' : ¬ nth a i = nth b i := hc
      simp [hc']
theorem rInts_ev (a b : List Int) (hn : a.length ≤ 17592186044416) : Ev (fun k => laws_rInts.f k a b) (decide (a = b)) := by
  unfold laws_rInts.f
  refine Ev.ite (fun hc => ?_) (fun hc => Ev.val ?_)
  · exact (rInts_l a b hn (by omega) a.length 0 (by omega)).to (by simp)
  · have : ¬ a = b := fun h => hc (by rw [h])
    simp [this]
theorem cutsJ_ok {s : List Int} (hs : CodeB s) (x : List Int) (hx : x.length ≤ 90) (p st : Int) (hp : 0 ≤ p ∧ p ≤ 5000) : ∃ (r : List Int) (p' st' : Int), Ev (fun k => spec_l1Cur_cuts.j0 k x s p st) (r, p', st') ∧ r.length ≤ 100 ∧ 0 ≤ p' ∧ p' ≤ p + 5 := by
  obtain ⟨y, p1, st1, h1, _, _, g1⟩ := pick_ok hs p st 24 ⟨hp.1, by omega⟩ (by omega)
  by_cases hy : (y == 0) = true
  · obtain ⟨z, p2, st2, h2, _, g2⟩ := among_ok hs p1 st1 [1, 0, -1, 8, 4611686018427387904] ⟨g1.1, by omega⟩ (by simp)
    refine ⟨x ++ [z], p2, st2, Ev.step (fun k => by rw [spec_l1Cur_cuts.j0]) ?_, by simp; omega, g2.1, by omega⟩
    unfold spec_l1Cur_one.f
    simp only [h1, h2, Option.bind_some]
    exact Ev.pos hy (Ev.pos (by omega) (Ev.val rfl))
  · refine ⟨x, p1, st1, Ev.step (fun k => by rw [spec_l1Cur_cuts.j0]) ?_, by omega, g1.1, by omega⟩
    unfold spec_l1Cur_one.f
    simp only [h1, Option.bind_some]
    exact Ev.neg hy (Ev.val rfl)
theorem cuts_ok {s : List Int} (hs : CodeB s) (n p st : Int) (hp : 0 ≤ p ∧ p ≤ 4000) : ∃ (r : List Int) (p' st' : Int), Ev (fun k => spec_l1Cur_cuts.f k s p st n) (r, p', st') ∧ r.length ≤ 100 ∧ 0 ≤ p' ∧ p' ≤ p + 10 := by
  unfold spec_l1Cur_cuts.f
  simp only [l1In_is, Option.bind_some, decide_eq_true_eq]
  by_cases hn : 1 ≤ n ∧ n ≤ 7
  · obtain ⟨m, rfl⟩ := Int.eq_ofNat_of_zero_le (show 0 ≤ n by omega)
    obtain ⟨t1, t2, t3⟩ := cutsT_at m (by omega) (by omega)
    have hpw := pow_le m (by omega)
    have e := shl_is m (by omega) (by omega)
    obtain ⟨y, p1, st1, h1, hy, hy2, g1⟩ := pick_ok hs p st ((2 ^ (m - 1) : Nat) : Int) ⟨hp.1, by omega⟩ (by omega)
    obtain ⟨j, rfl⟩ := Int.eq_ofNat_of_zero_le hy
    have hpos : 0 < 2 ^ (m - 1) := Nat.two_pow_pos _
    obtain ⟨t4, t5⟩ := t3 j (by omega)
    have hlen := isCuts_len (by omega) t5
    obtain ⟨r, p', st', hr, g2, g3⟩ := cutsJ_ok hs ((cutsT m).getD j []) (by omega) p1 st1 ⟨g1.1, by omega⟩
    refine ⟨r, p', st', Ev.pos hn ?_, g2, g3.1, by omega⟩
    simp only [wdn m (by omega) (by omega), e, h1, Option.bind_some]
    exact Ev.pos (by omega) (Ev.bind (Ev.of (fun k => spec_l6At.mono _ _ k) t4) hr)
  · obtain ⟨r, p', st', hr, g2, g3⟩ := cutsJ_ok hs [] (by simp) p st ⟨hp.1, by omega⟩
    exact ⟨r, p', st', Ev.neg hn hr, g2, g3.1, by omega⟩
theorem rLists_l (A : List (List Int)) (hn : A.length ≤ 100000) (hr : ∀ r ∈ A, r.length ≤ 1000) : ∀ d i : Nat, A.length = i + d → Ev (fun k => laws_rLists.l0 k A A (i : Int)) true
  | 0, i, h => by
    refine Ev.step (fun k => by rw [laws_rLists.l0]) ?_
    exact Ev.neg (by omega) (Ev.val rfl)
  | d + 1, i, h => by
    have hm := hr _ (getD_memK (xs := A) (i := i) (by omega))
    refine Ev.step (fun k => by rw [laws_rLists.l0]) ?_
    simp only [wup i (by omega), rd_L1_natK]
    refine Ev.pos (by omega) (Ev.pos (by omega) (Ev.pos (by omega) ?_))
    refine Ev.bind (rInts_ev _ _ (by omega)) ?_
    exact Ev.pos (by simp) (rLists_l A hn hr d (i + 1) (by omega))
theorem rLists_ev (A : List (List Int)) (hn : A.length ≤ 100000) (hr : ∀ r ∈ A, r.length ≤ 1000) : Ev (fun k => laws_rLists.f k A A) true := by
  unfold laws_rLists.f
  exact Ev.pos rfl (rLists_l A hn hr A.length 0 (by omega))
theorem rSorted_l (l : List Int) (hn : l.length ≤ 1000) : ∀ d i : Nat, l.length = i + d → Ev (fun k => laws_rSorted.l0 k l (i : Int)) (decide (l.drop i = marked ((i : Int) + 1) d))
  | 0, i, h => by
    refine Ev.step (fun k => by rw [laws_rSorted.l0]) (Ev.neg (by omega) (Ev.val ?_))
    rw [List.drop_of_length_le (by omega)]; simp [marked]
  | d + 1, i, h => by
    refine Ev.step (fun k => by rw [laws_rSorted.l0]) ?_
    have e : wrap64 ((i : Int) + 1) = ((i + 1 : Nat) : Int) := by rw [w64 (by omega)]; omega
    have e2 : ((i + 1 : Nat) : Int) = (i : Int) + 1 := by omega
    simp only [e, rd_nat]
    clear e
    refine Ev.pos (by omega) (Ev.pos (by omega) ?_)
    rw [drop_step l i (by omega), marked]
    refine Ev.ite (fun hc => ?_) (fun hc => Ev.val ?_)
    · refine (rSorted_l l hn d (i + 1) (by omega)).to ?_
      rw [hc, e2]; simp
    · rw [e2] at hc
      simp [hc]
theorem rSorted_ev (l : List Int) (hn : l.length ≤ 1000) : Ev (fun k => laws_rSorted.f k l) (decide (l = marked 1 l.length)) := by
  unfold laws_rSorted.f
  exact (rSorted_l l hn l.length 0 (by omega)).to (by simp)
theorem DrawCountFallSweeps_ok {s : List Int} (hs : CodeB s) : ∃ o : List Int, spec_DrawCountFallSweeps.f s = some o ∧ o.length ≤ 8 := by
  unfold spec_DrawCountFallSweeps.f spec_DrawIsOrder.f
  obtain ⟨o, p1, st1, h1, ho, g1⟩ := order_ok hs 0 0 (by omega)
  exact ⟨o, by simp [h1], ho⟩
theorem DrawIsLayered_ok {s : List Int} (hs : CodeB s) : ∃ o : List Int, Ev (fun k => spec_DrawIsLayered.f k s) o ∧ o.length ≤ 8 := by
  unfold spec_DrawIsLayered.f
  obtain ⟨o, p1, st1, h1, ho, g1⟩ := order_ok hs 0 0 (by omega)
  obtain ⟨cu, p2, st2, h2, hl2, g2⟩ := cuts_ok hs (o.length : Int) p1 st1 ⟨g1.1, by omega⟩
  simp only [h1, Option.bind_some]
  cases hb : isOrd o with
  | false => exact ⟨o, Ev.bind h2 (Ev.bind (l2Order_ev o (by omega)) (Ev.neg (by rw [hb]; simp) (Ev.val rfl))), ho⟩
  | true =>
    cases hc : isCuts (o.length : Int) cu with
    | false => exact ⟨o, Ev.bind h2 (Ev.bind (l2Order_ev o (by omega)) (Ev.pos hb (Ev.bind (l6Cuts_ev _ cu (by omega)) (Ev.neg (by rw [hc]; simp) (Ev.val rfl))))), ho⟩
    | true =>
      obtain ⟨y, p3, st3, h3, _, _, g3⟩ := pick_ok hs p2 st2 2 ⟨g2.1, by omega⟩ (by omega)
      have hml := marked_length o.length 1
      by_cases hy : (y == 0) = true
      · have hl := runL_length cu (marked 1 o.length)
        refine ⟨runL (marked 1 o.length) cu, Ev.bind h2 (Ev.bind (l2Order_ev o (by omega)) (Ev.pos hb (Ev.bind (l6Cuts_ev _ cu (by omega)) (Ev.pos hc ?_)))), by omega⟩
        unfold spec_l1Cur_one.f
        simp only [h3, Option.bind_some]
        exact Ev.pos hy (Ev.bind (l2Sorted_ev o.length (by omega)) (Ev.bind (l6Run_ev (marked 1 o.length) cu (by omega) (by rw [hml]; exact hc)) (Ev.val rfl)))
      · refine ⟨o, Ev.bind h2 (Ev.bind (l2Order_ev o (by omega)) (Ev.pos hb (Ev.bind (l6Cuts_ev _ cu (by omega)) (Ev.pos hc ?_)))), ho⟩
        unfold spec_l1Cur_one.f
        simp only [h3, Option.bind_some]
        exact Ev.neg hy (Ev.val rfl)
theorem DrawCountTwoCuts_ok {s : List Int} (hs : CodeB s) : ∃ o : List Int, spec_DrawCountTwoCuts.f s = some o ∧ o.length ≤ 8 := by
  unfold spec_DrawCountTwoCuts.f
  obtain ⟨o, p1, st1, h1, ho, g1⟩ := order_ok hs 0 0 (by omega)
  obtain ⟨y, p3, st3, h3, _, _, g3⟩ := pick_ok hs p1 st1 8 ⟨g1.1, by omega⟩ (by omega)
  simp only [h1, Option.bind_some, spec_l1Cur_one.f, h3]
  by_cases hl : (o.length : Int) > 5
  · rw [if_pos hl]
    by_cases hy : (y == 0) = true
    · rw [if_pos hy]; exact ⟨o, rfl, ho⟩
    · rw [if_neg hy]; exact ⟨_, rfl, by simp⟩
  · rw [if_neg hl]; exact ⟨o, rfl, ho⟩
theorem DrawMostFallSweeps_ok {s : List Int} (hs : CodeB s) : ∃ n : Int, spec_DrawMostFallSweeps.f s = some n := by
  unfold spec_DrawMostFallSweeps.f
  obtain ⟨n, p1, st1, h1, _, g1⟩ := among_ok hs 0 0 [3, 4, 2, 1, 5, 0, 7, 3, 4, 6] (by omega) (by simp)
  exact ⟨n, by rw [h1]; rfl⟩
theorem drawn_sweep {s : List Int} (hs : CodeB s) (o : List Int) (ho : o.length ≤ 8) (p st : Int) (hp : 0 ≤ p ∧ p ≤ 1000) :
    ∃ z : List Int, Ev (fun k => (spec_l2Order.f k o).bind fun tb13 => (if tb13 = true then (spec_l1Cur_one.f s p st 2).bind fun tb15 => (if tb15.1 = true then (spec_l6Sweep.f k o).bind fun tl19 => some (tl19) else some o) else some o)) z ∧ z.length ≤ 8 := by
  cases hb : isOrd o with
  | false => exact ⟨o, Ev.bind (l2Order_ev o (by omega)) (Ev.neg (by rw [hb]; simp) (Ev.val rfl)), ho⟩
  | true =>
    obtain ⟨y, p3, st3, h3, _, _, g3⟩ := pick_ok hs p st 2 ⟨hp.1, by omega⟩ (by omega)
    unfold spec_l1Cur_one.f
    simp only [h3, Option.bind_some]
    by_cases hy : (y == 0) = true
    · have hl := runL_length (fallsOf o) o
      exact ⟨runL o (fallsOf o), Ev.bind (l2Order_ev o (by omega)) (Ev.pos hb (Ev.pos hy (Ev.bind (l6Sweep_ev hb) (Ev.val rfl)))), by omega⟩
    · exact ⟨o, Ev.bind (l2Order_ev o (by omega)) (Ev.pos hb (Ev.neg hy (Ev.val rfl))), ho⟩
theorem DrawFallSweptFrom_ok {s : List Int} (hs : CodeB s) : ∃ o : List Int, Ev (fun k => spec_DrawFallSweptFrom.f k s) o ∧ o.length ≤ 8 := by
  unfold spec_DrawFallSweptFrom.f
  obtain ⟨o, p1, st1, h1, ho, g1⟩ := order_ok hs 0 0 (by omega)
  simp only [h1, Option.bind_some]
  by_cases hl : (o.length : Int) > 5
  · obtain ⟨z, hz, hz2⟩ := drawn_sweep hs [1, 3, 2, 4] (by simp) p1 st1 ⟨g1.1, by omega⟩
    exact ⟨z, Ev.pos hl hz, hz2⟩
  · obtain ⟨z, hz, hz2⟩ := drawn_sweep hs o ho p1 st1 ⟨g1.1, by omega⟩
    exact ⟨z, Ev.neg hl hz, hz2⟩
theorem okFB_of (x : List Int) : ∀ (fs : List Int) (a : Nat), okFB x fs a = true → okFalls x fs a
  | [], _, _ => trivial
  | f :: t, a, h => by
    simp only [okFB, Bool.and_eq_true, Bool.or_eq_true, decide_eq_true_eq, List.all_eq_true, List.mem_range, beq_iff_eq, Nat.ble_eq] at h
    obtain ⟨h1, h2, h3, h4, h5⟩ := h
    obtain ⟨m, rfl⟩ := Int.eq_ofNat_of_zero_le (show 0 ≤ f by omega)
    rw [Int.toNat_natCast] at h2 h3 h4 h5
    refine ⟨m, rfl, by omega, h2, fun j hj hj2 => ?_, fun h => ?_, okFB_of x t _ h5⟩
    · have h6 := h3 (j - a) (by omega)
      rw [rd_nat, rd_nat]
      have e : a + (j - a) = j := by omega
      rw [e] at h6
      rcases h6 with h6 | h6
      · omega
      · exact h6
    · rw [rd_nat, rd_nat]
      rcases h4 with h4 | h4
      · omega
      · exact h4
theorem swOk_of : ∀ (e : Nat) (l : List Int) (c : Nat), isOrd l = true → cntB e l = some c → ∃ K, ∀ k, K ≤ k → swOk k c l
  | 0, l, c, _, h => by cases h
  | e + 1, l, c, ho, h => by
    have hl := isOrd_len ho
    obtain ⟨a1, a2, a3, a4⟩ := swp_of ho
    obtain ⟨K1, g1⟩ := rSorted_ev l (by omega)
    rw [cntB] at h
    by_cases hs : sortedB l (l.length - 1) = true
    · rw [if_pos hs] at h
      cases h
      rw [a3] at hs
      exact ⟨K1, fun k hk => by rw [swOk]; exact (g1 k hk).trans (by rw [hs])⟩
    · rw [if_neg hs] at h
      cases e2 : cntB e (swp l) with
      | none => rw [e2] at h; cases h
      | some c2 =>
        rw [e2] at h
        cases h
        obtain ⟨K2, g2⟩ := swOk_of e (swp l) c2 a1 e2
        obtain ⟨K3, g3⟩ := implFallSweep_ev l (by omega)
        have e4 : resFallSweep l = swp l := by unfold resFallSweep swp; rw [if_pos ho]
        rw [e4, ho] at g3
        rw [a3] at hs
        exact ⟨K1 + K2 + K3, fun k hk => by
          rw [swOk]
          exact ⟨(g1 k (by omega)).trans (by rw [Bool.not_eq_true] at hs; rw [hs]), swp l, g3 k (by omega), g2 k (by omega)⟩⟩
theorem cnt_swps : ∀ (e : Nat) (l : List Int) (d c m : Nat), isOrd l = true → val8 l 0 < d → cntB e l = some c → m + c ≤ 1000 → swps d l (m : Int) = ((m + c : Nat) : Int)
  | 0, l, d, c, m, _, _, h, _ => by cases h
  | e + 1, l, 0, c, m, _, hd, _, _ => absurd hd (Nat.not_lt_zero _)
  | e + 1, l, d + 1, c, m, ho, hd, h, hm => by
    obtain ⟨a1, a2, a3, a4⟩ := swp_of ho
    rw [cntB] at h
    rw [swps]
    by_cases hs : sortedB l (l.length - 1) = true
    · rw [if_pos hs] at h ⊢
      cases h
      rfl
    · rw [if_neg hs] at h ⊢
      cases e2 : cntB e (swp l) with
      | none => rw [e2] at h; cases h
      | some c2 =>
        rw [e2] at h
        cases h
        have hm2 : m + (c2 + 1) ≤ 1000 := hm
        show _ = ((m + (c2 + 1) : Nat) : Int)
        rw [wup m (by omega)]
        rw [cnt_swps e (swp l) d c2 (m + 1) a1 (by have := a4.resolve_left hs; omega) e2 (by omega)]
        omega
theorem many_of {l : List Int} (ho : isOrd l = true) : ∃ c : Nat, cntB 8 l = some c ∧ c < l.length ∧ swpsI l = (c : Int) := by
  have h := fl_of ho
  have hl := isOrd_len ho
  simp only [flOk, Bool.and_eq_true] at h
  cases e : cntB 8 l with
  | none => rw [e] at h; exact absurd h.1 (by simp)
  | some c =>
    rw [e] at h
    have hc : c < l.length := by have := h.1; simpa [Nat.blt_eq] using this
    refine ⟨c, rfl, hc, ?_⟩
    have := cnt_swps 8 l (val8 l 0 + 1) c 0 ho (by omega) e (by omega)
    rw [swpsI]
    simpa using this
theorem lay_of {l : List Int} (ho : isOrd l = true) : resIsLayered l = decide (swp l = marked 1 l.length) ∧ okFB l (fallsOf l) 0 = true := by
  have h := fl_of ho
  simp only [flOk, Bool.and_eq_true, beq_iff_eq] at h
  exact ⟨by rw [resIsLayered, if_pos ho]; exact h.2.1, h.2.2⟩
theorem ords_mem {l : List Int} (ho : isOrd l = true) : l ∈ ordsM l.length := by
  obtain ⟨_, h1, h2⟩ := rk_is ho
  exact List.mem_map.2 ⟨rk l, List.mem_range.2 h1, h2⟩
theorem bestT_max (F : List Int → Int) (xs : List (List Int)) : ∀ (d : Nat) (i : Int) (b : List Int) (m : Int), 0 ≤ i → i + (d : Int) = (xs.length : Int) → m ≤ (bestT F xs d i b m).2 ∧ ∀ j : Int, i ≤ j → j < (xs.length : Int) → F (rowOf xs j) ≤ (bestT F xs d i b m).2
  | 0, i, b, m, h0, h => ⟨by simp [bestT], fun j h1 h2 => absurd h2 (by omega)⟩
  | d + 1, i, b, m, h0, h => by
    rw [bestT]
    by_cases hc : F (rowOf xs i) > m
    · rw [if_pos hc]
      obtain ⟨g1, g2⟩ := bestT_max F xs d (i + 1) (rowOf xs i) (F (rowOf xs i)) (by omega) (by omega)
      refine ⟨by omega, fun j h1 h2 => ?_⟩
      by_cases e : j = i
      · subst e; exact g1
      · exact g2 j (by omega) h2
    · rw [if_neg hc]
      obtain ⟨g1, g2⟩ := bestT_max F xs d (i + 1) b m (by omega) (by omega)
      refine ⟨g1, fun j h1 h2 => ?_⟩
      by_cases e : j = i
      · subst e; omega
      · exact g2 j (by omega) h2
theorem bestT_arg (F : List Int → Int) (xs : List (List Int)) : ∀ (d : Nat) (i : Int) (b : List Int) (m : Int), (F (bestT F xs d i b m).1 = (bestT F xs d i b m).2 ∧ (0 ≤ i → i + (d : Int) = (xs.length : Int) → (bestT F xs d i b m).1 ∈ xs)) ∨ ((bestT F xs d i b m).1 = b ∧ (bestT F xs d i b m).2 = m)
  | 0, i, b, m => .inr ⟨rfl, rfl⟩
  | d + 1, i, b, m => by
    rw [bestT]
    by_cases hc : F (rowOf xs i) > m
    · rw [if_pos hc]
      rcases bestT_arg F xs d (i + 1) (rowOf xs i) (F (rowOf xs i)) with h | h
      · exact .inl ⟨h.1, fun h0 h1 => h.2 (by omega) (by omega)⟩
      · rw [h.1, h.2]; exact .inl ⟨rfl, fun h0 h1 => rowOf_mem h0 (by omega)⟩
    · rw [if_neg hc]
      rcases bestT_arg F xs d (i + 1) b m with h | h
      · exact .inl ⟨h.1, fun h0 h1 => h.2 (by omega) (by omega)⟩
      · exact .inr h
theorem MostF_ev (n : Int) : ∃ (b : List Int) (m : Int) (o : Bool), b.length ≤ 1000 ∧ Ev (fun q => spec_MostFallSweeps.f q n) (m, b, o) ∧ Ev (fun q => impl_MostFallSweeps.f q n) (m, b, o) ∧ (o = true → isOrd b = true ∧ swpsI b = m ∧ ∀ l : List Int, isOrd l = true → (l.length : Int) = n → swpsI l ≤ m) := by
  unfold spec_MostFallSweeps.f impl_MostFallSweeps.f
  simp only [l1In_is, Option.bind_some, decide_eq_true_eq]
  by_cases hn : 1 ≤ n ∧ n ≤ 6
  · obtain ⟨m, rfl⟩ := Int.eq_ofNat_of_zero_le (show 0 ≤ n by omega)
    have hlen := facN_le m
    have hpos := facN_pos m
    have hol := ordsM_length m
    have hm : ∀ l ∈ ordsM m, isOrd l = true := fun l hl => ordsM_ord m (by omega) (by omega) l hl
    obtain ⟨g1, g2⟩ := bestT_max swpsI (ordsM m) (ordsM m).length 0 [] (-1) (by omega) (by omega)
    have hmax : ∀ l : List Int, isOrd l = true → (l.length : Int) = (m : Int) → swpsI l ≤ (bestT swpsI (ordsM m) (ordsM m).length 0 [] (-1)).2 := fun l ho hl => by
      have h1 := ords_mem ho
      rw [show l.length = m by omega] at h1
      obtain ⟨j, hj, e⟩ := List.mem_iff_getElem.1 h1
      have h2 := g2 (j : Int) (by omega) (by omega)
      rw [rowOf, Int.toNat_natCast, List.getD_eq_getElem?_getD, List.getElem?_eq_getElem hj, Option.getD_some, e] at h2
      exact h2
    have h0 := hm _ (rowOf_mem (xs := ordsM m) (i := 0) (by omega) (by omega))
    have h0l := ordsM_len m _ (rowOf_mem (xs := ordsM m) (i := 0) (by omega) (by omega))
    have h0m := hmax _ h0 (by omega)
    obtain ⟨c0, _, _, e0⟩ := many_of h0
    refine ⟨(bestT swpsI (ordsM m) (ordsM m).length 0 [] (-1)).1, (bestT swpsI (ordsM m) (ordsM m).length 0 [] (-1)).2, true, ?_, ?_, ?_, fun _ => ?_⟩
    · rcases bestT_mem swpsI (ordsM m) (ordsM m).length 0 [] (-1) (by omega) (by omega) with h | h
      · rw [h]; simp
      · have := isOrd_len (hm _ h); omega
    · exact Ev.pos hn (Ev.bind (l2Orders_ev m (by omega)) (Ev.pos (by omega) (Ev.bind (bestL_ev spec_l6Sweeps.f swpsI (ordsM m) (fun x hx => specSweepsI_ev (hm x hx)) (ordsM m).length 0 [] (-1) (by omega) (by omega)) (Ev.val rfl))))
    · exact Ev.pos hn (Ev.bind (allOrders_ev m (by omega)) (Ev.pos (by omega) (Ev.bind (bestL_ev impl_fallSweeps.f swpsI (ordsM m) (fun x hx => implSweepsI_ev (hm x hx)) (ordsM m).length 0 [] (-1) (by omega) (by omega)) (Ev.val rfl))))
    · rcases bestT_arg swpsI (ordsM m) (ordsM m).length 0 [] (-1) with h | h
      · exact ⟨hm _ (h.2 (by omega) (by omega)), h.1, hmax⟩
      · rw [h.2] at h0m; omega
  · exact ⟨[], 0, false, by simp, Ev.neg hn (Ev.val rfl), Ev.neg hn (Ev.val rfl), fun h => by cases h⟩
theorem FromF_ev (l : List Int) (hn : l.length ≤ 1000) : ∃ (R : List (List Int)) (b : Bool), R.length ≤ 100000 ∧ (∀ r ∈ R, r.length ≤ 1000) ∧ Ev (fun k => spec_FallSweptFrom.f k l) (R, b) ∧ Ev (fun k => impl_FallSweptFrom.f k l) (R, b) ∧ ∀ r ∈ R, isOrd r = true ∧ swp r = l := by
  unfold spec_FallSweptFrom.f impl_FallSweptFrom.f
  by_cases hc : isOrd l = true
  · have hl := isOrd_len hc
    have hlen := facN_le l.length
    have hol := ordsM_length l.length
    have hfl := List.length_filter_le (sweptTo l) (ordsM l.length)
    refine ⟨(ordsM l.length).filter (sweptTo l), true, by omega, fun r hr => by have := ordsM_len _ r (List.mem_filter.1 hr).1; omega, ?_, ?_, fun r hr => ?_⟩
    · refine Ev.bind (Ev.now _) (Ev.bind (l2Order_ev l (by omega)) (Ev.pos hc (Ev.bind (l2Orders_ev l.length hl.2) ?_)))
      exact Ev.to (specFS_l l hl.1 hl.2 (ordsM l.length).length 0 [] (by omega) (by simp)) (by simp)
    · refine Ev.bind (isOrder_ev l (by omega)) (Ev.pos hc ?_)
      refine Ev.bind (allOrders_ev l.length hl.2) (Ev.bind (a := (ordsM l.length).filter (sweptTo l)) ?_ (Ev.val rfl))
      refine Ev.to (keepO_ev (fun k x => impl_FallSweptFrom_1.f k x l) (fun x => !sweptTo l x) _ fun x hx => ?_) (by simp)
      have hxo := ordsM_ord l.length hl.1 hl.2 x hx
      have hxl := isOrd_len hxo
      have hrl := runL_length (fallsOf x) x
      unfold impl_FallSweptFrom_1.f
      exact Ev.bind (fallSweep_ev hxo) (Ev.bind (Equal_ev _ _ (by omega)) (Ev.val rfl))
    · have h := List.mem_filter.1 hr
      exact ⟨ordsM_ord _ hl.1 hl.2 r h.1, of_decide_eq_true h.2⟩
  · refine ⟨[], false, by simp, by simp, ?_, ?_, by simp⟩
    · exact Ev.bind (Ev.now _) (Ev.bind (l2Order_ev l (by omega)) (Ev.neg hc (Ev.val rfl)))
    · exact Ev.bind (isOrder_ev l (by omega)) (Ev.neg hc (Ev.val rfl))
theorem FnFalls : laws_FnFalls.Pure := by
  intro l0 hm hr hw hv
  have hlen : l0.length ≤ 65536 := by
    unfold laws_rBig.f at hv
    have := of_decide_eq_false (Option.some.inj hv)
    omega
  have hs : CodeB l0 := ⟨by omega, fun x hx => by
    have := hw x hx
    have e0 : IntKind.u8.min = 0 := by decide
    have e1 : IntKind.u8.max = 255 := by decide
    simp [Lit.wf, e0, e1] at this
    omega⟩
  obtain ⟨o, g0, ho⟩ := DrawCountFallSweeps_ok hs
  obtain ⟨x, ⟨K1, g1⟩, hx⟩ := DrawIsLayered_ok hs
  obtain ⟨y, g2, hy⟩ := DrawCountTwoCuts_ok hs
  obtain ⟨n, g3⟩ := DrawMostFallSweeps_ok hs
  obtain ⟨z, ⟨K4, g4⟩, hz⟩ := DrawFallSweptFrom_ok hs
  obtain ⟨K5, g5⟩ := implCountFallSweeps_ev o (by omega)
  obtain ⟨K6, g6⟩ := specCountFallSweeps_ev o (by omega)
  obtain ⟨K7, g7⟩ := implIsLayered_ev x (by omega)
  obtain ⟨K8, g8⟩ := specIsLayered_ev x (by omega)
  obtain ⟨K9, g9⟩ := isOrder_ev x (by omega)
  obtain ⟨K10, g10⟩ := implFallsOf_ev x (by omega)
  obtain ⟨K11, g11⟩ := specFallsOf_ev x (by omega)
  have hfl := resFallsOf_length x
  have hsl := resFallSweep_length x
  obtain ⟨K12, g12⟩ := rInts_ev (resFallsOf x) (resFallsOf x) (by omega)
  obtain ⟨K13, g13⟩ := implFallSweep_ev x (by omega)
  obtain ⟨K14, g14⟩ := specFallSweep_ev x (by omega)
  obtain ⟨K15, g15⟩ := rInts_ev (resFallSweep x) (resFallSweep x) (by omega)
  obtain ⟨K16, g16⟩ := implCountTwoCuts_ev y (by omega)
  obtain ⟨K17, g17⟩ := specCountTwoCuts_ev y (by omega)
  obtain ⟨b, m, five, hb, ⟨K18, g18⟩, ⟨K19, g19⟩, hfive⟩ := MostF_ev n
  obtain ⟨K20, g20⟩ := rInts_ev b b (by omega)
  obtain ⟨R, six, hR, hR2, ⟨K21, g21⟩, ⟨K22, g22⟩, hR3⟩ := FromF_ev z (by omega)
  obtain ⟨K23, g23⟩ := rLists_ev R hR hR2
  obtain ⟨K24, g24⟩ := rInts_ev z z (by omega)
  obtain ⟨K25, g25⟩ := rSorted_ev (resFallSweep x) (by omega)
  obtain ⟨K26, g26⟩ := implCountFallSweeps_ev b (by omega)
  have h27 : ∃ K, ∀ k, K ≤ k → ∀ q ∈ R, impl_FallSweep.f k q = some (z, true) := by
    have : ∀ Q : List (List Int), (∀ q ∈ Q, q ∈ R) → ∃ K, ∀ k, K ≤ k → ∀ q ∈ Q, impl_FallSweep.f k q = some (z, true) := by
      intro Q
      induction Q with
      | nil => exact fun _ => ⟨0, fun _ _ q hq => by simp at hq⟩
      | cons q Q ih =>
        intro hQ
        obtain ⟨K, g⟩ := ih fun q hq => hQ q (by simp [hq])
        have hq := hR3 q (hQ q (by simp))
        have hq2 := isOrd_len hq.1
        obtain ⟨K2, g2⟩ := implFallSweep_ev q (by omega)
        have e4 : resFallSweep q = z := by rw [← hq.2]; unfold resFallSweep swp; rw [if_pos hq.1]
        rw [e4, hq.1] at g2
        refine ⟨K + K2, fun k hk p hp => ?_⟩
        rcases List.mem_cons.1 hp with rfl | hp
        · exact g2 k (by omega)
        · exact g k (by omega) p hp
    exact this R fun q hq => hq
  obtain ⟨K27, g27⟩ := h27
  have h28 : ∃ K, ∀ k, K ≤ k → isOrd o = true → ∃ mm : Nat, resCountFallSweeps o = (mm : Int) ∧ mm ≤ 1000000 ∧ swOk k mm o := by
    cases hc : isOrd o with
    | false => exact ⟨0, fun _ _ h => by cases h⟩
    | true =>
      obtain ⟨c, e1, e2, e3⟩ := many_of hc
      obtain ⟨K, g⟩ := swOk_of 8 o c hc e1
      refine ⟨K, fun k hk _ => ⟨c, ?_, by omega, g k hk⟩⟩
      rw [← e3, resCountFallSweeps, if_pos hc, swpsI]
  obtain ⟨K28, g28⟩ := h28
  refine ⟨K1 + K4 + K5 + K6 + K7 + K8 + K9 + K10 + K11 + K12 + K13 + K14 + K15 + K16 + K17 + K18 + K19 + K20 + K21 + K22 + K23 + K24 + K25 + K26 + K27 + K28, o, resCountFallSweeps o, isOrd o, x, resIsLayered x, isOrd x, resFallsOf x, resFallSweep x, y, (resC y).1, (resC y).2, n, m, b, five, z, R, six, ?_⟩
  have is1 : ∀ k, impl_IsOrder.f k x = impl_isOrder.f k x := fun k => by unfold impl_IsOrder.f; cases impl_isOrder.f k x <;> rfl
  exact {
    f51 := hv
    f53 := g0
    f56 := g5 _ (by omega)
    f61 := g6 _ (by omega)
    f82 := g1 _ (by omega)
    f85 := g7 _ (by omega)
    f90 := g8 _ (by omega)
    f104 := (is1 _).trans (g9 _ (by omega))
    f109 := g10 _ (by omega)
    f114 := g11 _ (by omega)
    f128 := (g12 _ (by omega)).trans (by simp)
    f133 := g13 _ (by omega)
    f138 := g14 _ (by omega)
    f152 := (g15 _ (by omega)).trans (by simp)
    f165 := g2
    f168 := g16 _ (by omega)
    f173 := g17 _ (by omega)
    f185 := g3
    f188 := g19 _ (by omega)
    f194 := g18 _ (by omega)
    f209 := (g20 _ (by omega)).trans (by simp)
    f213 := g4 _ (by omega)
    f216 := g22 _ (by omega)
    f221 := g21 _ (by omega)
    f230 := g23 _ (by omega)
    manyL := fun h => by
      obtain ⟨c, e1, e2, e3⟩ := many_of h
      have e4 : resCountFallSweeps o = swpsI o := by rw [resCountFallSweeps, if_pos h, swpsI]
      rw [e4, e3]
      exact decide_eq_false (by omega)
    srt := fun h => by
      refine (g25 _ (by omega)).trans ?_
      have e4 : resFallSweep x = swp x := by unfold resFallSweep swp; rw [if_pos h]
      rw [e4, (lay_of h).1, (swp_of h).2.1]
    lenR := by omega
    each := g27 _ (by omega)
    zz := (g24 _ (by omega)).trans (by simp)
    cfs := fun h => by
      obtain ⟨h1, h2, h3⟩ := hfive h
      refine (g26 _ (by omega)).trans ?_
      rw [h1, resCountFallSweeps, if_pos h1, ← h2, swpsI]
    mst := fun h h2 h3 => by
      have h4 := (hfive h).2.2 o h2 (by simpa using h3)
      rw [resCountFallSweeps, if_pos h2]
      rw [swpsI] at h4
      exact decide_eq_false (by omega)
    flw := fun h => by
      rw [resFallsOf, if_pos h]
      exact okFB_of x _ 0 (lay_of h).2
    lenF := by omega
    lenX := by omega
    swp := g28 _ (by omega) }
end Go.Proofs.Ytbnieikbjmfhgaa.Pure
