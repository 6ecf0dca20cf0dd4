/- The first sharing fits with the fewest stacks, greedy ones fit, and sharings are there where stacks are enough. -/
import Derived.Test.YtmgekfoiamjijaaPFnStacksx16
import Derived.Test.YtmgekfoiamjijaaK
import Derived.Test.YtmgekfoiamjijaaTFnStacks0
import Derived.Test.YtmgekfoiamjijaaTFnStacks1
import Derived.Test.YtmgekfoiamjijaaTFnStacks2
import Derived.Test.YtmgekfoiamjijaaTFnStacks3
import Derived.Test.YtmgekfoiamjijaaTFnStacks4
import Derived.Test.YtmgekfoiamjijaaTFnStacks5
import Derived.Test.YtmgekfoiamjijaaTFnStacks6
import Derived.Test.YtmgekfoiamjijaaTFnStacks7
set_option linter.unusedVariables false
set_option linter.unusedSimpArgs false
namespace Go.Proofs.Ytmgekfoiamjijaa.Pure
open Go.RowKit Go.Proofs.Ytmgekfoiamjijaa.PFnStacks Go.Proofs.YtmgekfoiamjijaaW.PrintWords Go.Proofs.YtmgekfoiamjijaaW.PrintLast Go.Proofs.YtmgekfoiamjijaaW.PrintMore
theorem st_all : ∀ n ∈ [1, 2, 3, 4, 5, 6, 7], allO (intsTo n) stOk n [] = true := by
  intro n hn
  by_cases h7 : n = 7
  · subst h7
    rw [allO]
    simp only [show intsTo 7 = [1, 2, 3, 4, 5, 6, 7] from rfl, List.all_cons, List.all_nil, List.contains_nil, Bool.false_or, Bool.and_true, Bool.and_eq_true]
    exact ⟨st_all_71, st_all_72, st_all_73, st_all_74, st_all_75, st_all_76, st_all_77⟩
  · exact st_all_6 n (by simp at hn ⊢; omega)
theorem bestT_val (F : List Int → Int) (xs : List (List Int)) : ∀ (d : Nat) (i : Int) (b : List Int) (m : Int), 0 ≤ i → i + (d : Int) = (xs.length : Int) → ((bestT F xs d i b m).1 = b ∧ (bestT F xs d i b m).2 = m) ∨ ((bestT F xs d i b m).1 ∈ xs ∧ (bestT F xs d i b m).2 = F (bestT F xs d i b m).1)
  | 0, i, b, m, _, _ => .inl ⟨rfl, rfl⟩
  | d + 1, i, b, m, h0, h => by
    rw [bestT]
    split
    · rcases bestT_val F xs d (i + 1) (rowOf xs i) (F (rowOf xs i)) (by omega) (by omega) with h1 | h1
      · right; rw [h1.1, h1.2]; exact ⟨rowOf_mem h0 (by omega), rfl⟩
      · exact .inr h1
    · exact bestT_val F xs d (i + 1) b m (by omega) (by omega)
theorem bestT_own (F : List Int → Int) (xs : List (List Int)) (d : Nat) (i : Int) (b : List Int) (m : Int) (h0 : 0 ≤ i) (h : i + ((d + 1 : Nat) : Int) = (xs.length : Int)) (hg : F (rowOf xs i) > m) : (bestT F xs (d + 1) i b m).1 ∈ xs ∧ (bestT F xs (d + 1) i b m).2 = F (bestT F xs (d + 1) i b m).1 := by
  rw [bestT, if_pos hg]
  rcases bestT_val F xs d (i + 1) (rowOf xs i) (F (rowOf xs i)) (by omega) (by omega) with h1 | h1
  · rw [h1.1, h1.2]; exact ⟨rowOf_mem h0 (by omega), rfl⟩
  · exact h1
theorem Hardest_all (n : Int) : ∃ (b : List Int) (m : Int) (o : Bool), b.length ≤ 1000 ∧ Ev (fun q => spec_HardestOrder.f q n) (b, m, o) ∧ Ev (fun q => impl_HardestOrder.f q n) (b, m, o) ∧ (o = true → isOrd b = true ∧ m = fewI b ∧ (b.length : Int) = n) := by
  unfold spec_HardestOrder.f impl_HardestOrder.f
  simp only [l3Size_is, isSize_is, Option.bind_some, decide_eq_true_eq]
  by_cases hn : 1 ≤ n ∧ n ≤ 7
  · obtain ⟨m, rfl⟩ := Int.eq_ofNat_of_zero_le (show 0 ≤ n by omega)
    have hlen := facN_le m
    have hpos := facN_pos m
    have hol := ordsM_length m
    have hm : ∀ l ∈ ordsM m, isOrd l = true := fun l hl => ordsM_ord m (by omega) (by omega) l hl
    have hml : ∀ l ∈ ordsM m, l.length = m := fun l hl => ordsM_len m l hl
    obtain ⟨d, hd⟩ : ∃ d, (ordsM m).length = d + 1 := ⟨(ordsM m).length - 1, by omega⟩
    have h0 : fewI (rowOf (ordsM m) 0) > 0 := by
      have ho := hm _ (rowOf_mem (xs := ordsM m) (i := 0) (by omega) (by omega))
      have := few_ok _ (hasL_7 (isOrd_len ho).2) 6 1 (by omega)
      unfold fewI
      omega
    have hown := bestT_own fewI (ordsM m) d 0 [] 0 (by omega) (by omega) h0
    rw [← hd] at hown
    refine ⟨(bestT fewI (ordsM m) (ordsM m).length 0 [] 0).1, (bestT fewI (ordsM m) (ordsM m).length 0 [] 0).2, true, ?_, ?_, ?_, fun _ => ⟨hm _ hown.1, hown.2, by rw [hml _ hown.1]⟩⟩
    · have := hml _ hown.1; omega
    · refine Ev.pos hn (Ev.bind (l2Orders_ev m (by omega)) (Ev.pos ⟨by omega, by omega⟩ (Ev.bind (bestL_ev spec_l7Fewest.f fewI (ordsM m) (fun x hx => l7Fewest_ev x (hm x hx)) (ordsM m).length 0 (rowOf (ordsM m) 0) 0 (by omega) (by omega)) (Ev.val ?_))))
      rw [hd, bestT_start fewI (ordsM m) d 0 (rowOf (ordsM m) 0) [] 0 h0]
    · exact Ev.pos hn (Ev.bind (allOrders_ev m (by omega)) (Ev.pos (by omega) (Ev.bind (bestL_ev impl_fewestStacks.f fewI (ordsM m) (fun x hx => fewestStacks_ev x (hm x hx)) (ordsM m).length 0 [] 0 (by omega) (by omega)) (Ev.val rfl))))
  · exact ⟨[], 0, false, by simp, Ev.neg hn (Ev.val rfl), Ev.neg hn (Ev.val rfl), fun h => by cases h⟩
def CB (n k : Int) : Int × Bool := if (1 ≤ n ∧ n ≤ 7) ∧ (1 ≤ k ∧ k ≤ 4) then (cntB k.toNat (ordsM n.toNat) 0, true) else (0, false)
theorem CB_ev (n k : Int) : Ev (fun q => spec_CountBeside.f q n k) (CB n k) ∧ Ev (fun q => impl_CountBeside.f q n k) (CB n k) := by
  unfold spec_CountBeside.f impl_CountBeside.f
  simp only [l3Size_is, isSize_is, isStacks_is, l1In_is, Option.bind_some]
  by_cases hn : 1 ≤ n ∧ n ≤ 7
  · by_cases hk : 1 ≤ k ∧ k ≤ 4
    · obtain ⟨m, rfl⟩ := Int.eq_ofNat_of_zero_le (show 0 ≤ n by omega)
      obtain ⟨k, rfl⟩ := Int.eq_ofNat_of_zero_le (show 0 ≤ k by omega)
      have hk1 : 1 ≤ k := by omega
      have hk4 : k ≤ 4 := by omega
      have hlen := facN_le m
      have hol := ordsM_length m
      have hm : ∀ l ∈ ordsM m, isOrd l = true := fun l hl => ordsM_ord m (by omega) (by omega) l hl
      have e : CB (m : Int) (k : Int) = (cntB k (ordsM m) 0, true) := by unfold CB; rw [if_pos ⟨hn, hk⟩]; simp
      rw [e]
      refine ⟨?_, ?_⟩
      · refine Ev.pos (by simpa using hn) ?_
        refine Ev.step (fun q => by rw [spec_CountBeside.j0]) ?_
        refine Ev.neg (by simpa using hk) ?_
        refine Ev.bind (l2Orders_ev m (by omega)) ?_
        have := specCQ_l k hk1 hk4 (ordsM m) (by omega) hm (ordsM m).length 0 0 (by omega)
        rw [List.drop_zero] at this
        exact this
      · refine Ev.pos (by simpa using hn) ?_
        refine Ev.step (fun q => by rw [impl_CountBeside.j0]) ?_
        refine Ev.neg (by simpa using hk) ?_
        refine Ev.bind (allOrders_ev m (by omega)) ?_
        have := implCQ_l k hk1 hk4 (ordsM m) (by omega) hm (ordsM m).length 0 0 (by omega)
        rw [List.drop_zero] at this
        exact this
    · have e : CB n k = (0, false) := by unfold CB; rw [if_neg (fun h => hk h.2)]
      rw [e]
      refine ⟨?_, ?_⟩
      · refine Ev.pos (by simpa using hn) ?_
        refine Ev.step (fun q => by rw [spec_CountBeside.j0]) ?_
        exact Ev.pos (by simp; omega) (Ev.val rfl)
      · refine Ev.pos (by simpa using hn) ?_
        refine Ev.step (fun q => by rw [impl_CountBeside.j0]) ?_
        exact Ev.pos (by simp; omega) (Ev.val rfl)
  · have e : CB n k = (0, false) := by unfold CB; rw [if_neg (fun h => hn h.1)]
    rw [e]
    refine ⟨?_, ?_⟩
    · refine Ev.neg (by simpa using hn) ?_
      refine Ev.step (fun q => by rw [spec_CountBeside.j0]) ?_
      exact Ev.pos rfl (Ev.val rfl)
    · refine Ev.neg (by simpa using hn) ?_
      refine Ev.step (fun q => by rw [impl_CountBeside.j0]) ?_
      exact Ev.pos rfl (Ev.val rfl)
theorem cntB_mono {a b : Nat} (hab : a ≤ b) : ∀ (ls : List (List Int)) (m m' : Int), 0 ≤ m → m ≤ m' → m' + ls.length ≤ 1000000 → cntB a ls m ≤ cntB b ls m'
  | [], m, m', _, h, _ => h
  | l :: ls, m, m', h0, h, hb => by
    rw [List.length_cons] at hb
    show cntB a ls (if hasL l a = true then wrap64 (m + 1) else m) ≤ cntB b ls (if hasL l b = true then wrap64 (m' + 1) else m')
    rw [w64 (n := m + 1) (by omega), w64 (n := m' + 1) (by omega)]
    by_cases ha : hasL l a = true
    · rw [if_pos ha, if_pos (hasL_mono hab ha)]; exact cntB_mono hab ls _ _ (by omega) (by omega) (by omega)
    · rw [if_neg ha]
      split
      · exact cntB_mono hab ls _ _ h0 (by omega) (by omega)
      · exact cntB_mono hab ls _ _ h0 h (by omega)
theorem CB_less (n k : Int) (h : (CB n k).2 = true) (hk : 1 < k) : CB n (wrap64 (k - 1)) = ((CB n (wrap64 (k - 1))).1, true) ∧ (CB n (wrap64 (k - 1))).1 ≤ (CB n k).1 := by
  unfold CB at h
  by_cases hc : (1 ≤ n ∧ n ≤ 7) ∧ (1 ≤ k ∧ k ≤ 4)
  · rw [w64 (by omega)]
    have hc' : (1 ≤ n ∧ n ≤ 7) ∧ (1 ≤ k - 1 ∧ k - 1 ≤ 4) := by omega
    unfold CB
    rw [if_pos hc, if_pos hc']
    have h1 := facN_le n.toNat
    have h2 := ordsM_length n.toNat
    exact ⟨rfl, cntB_mono (by omega) _ 0 0 (by omega) (by omega) (by omega)⟩
  · rw [if_neg hc] at h; cases h
theorem hiM_is : ∀ (l : List Int) (m : Int), hiM l m = hiN l m
  | [], _ => rfl
  | x :: t, m => by rw [hiM, hiN]; exact hiM_is t _
theorem st_one {l : List Int} (h : isOrd l = true) (h4 : few l 6 1 ≤ 4) : isShar l (resFirstSharing l) = true ∧ fits l (resFirstSharing l) = true ∧ hiM (resFirstSharing l) 0 = ((few l 6 1 : Nat) : Int) - 1 := by
  have := orders_all h _ st_all
  have e : resFirstSharing l = (leaves l (few l 6 1) l.length []).headD [] := by unfold resFirstSharing; rw [if_pos h, if_pos h4]
  rw [e, hiM_is]
  simp only [stOk, stOk1, stOk2, decide_eq_true h4, Bool.and_eq_true, Bool.or_eq_true, Bool.not_true, Bool.false_eq_true, false_or, decide_eq_true_eq] at this
  exact this.1
theorem st_two {l : List Int} (h : isOrd l = true) (hg : okGreedySharing l = true) : isShar l (resGreedySharing l) = true ∧ fits l (resGreedySharing l) = true ∧ 0 < (resGreedySharing l).length ∧ nth (resGreedySharing l) 0 = 0 := by
  have := orders_all h _ st_all
  have e : resGreedySharing l = (greedy l l.length []).1 := by unfold resGreedySharing; rw [if_pos h]
  have e2 : (greedy l l.length []).2 = true := by unfold okGreedySharing at hg; rw [if_pos h] at hg; exact hg
  rw [e]
  simp only [stOk, stOk1, stOk2, e2, Bool.and_eq_true, Bool.or_eq_true, Bool.not_true, Bool.false_eq_true, false_or, decide_eq_true_eq] at this
  exact this.2
theorem FnStacks : laws_FnStacks.Pure := by
  intro l0 hm hr hw hv
  have hlen : l0.length ≤ 65536 := by
    unfold laws_vBig.f at hv
    have := of_decide_eq_false (Option.some.inj hv)
    omega
  have hs : CodeB l0 := ⟨by omega, fun x hx => by
    have := hw x hx
    have e0 : IntKind.u8.min = 0 := by decide
    have e1 : IntKind.u8.max = 255 := by decide
    simp [Lit.wf, e0, e1] at this
    omega⟩
  obtain ⟨o, kk, hdr, ho8⟩ := DrawCountSharings_ok hs
  obtain ⟨c1, hc1, hl1, hb1⟩ := vCut_ok hs 1 (by omega)
  obtain ⟨c2, hc2, hl2, hb2⟩ := vCut_ok hs 2 (by omega)
  obtain ⟨hn, hdh⟩ := DrawHardestOrder_ok (s := c1) ⟨by omega, hb1⟩
  obtain ⟨bx, by_, hdb⟩ := DrawCountBeside_ok (s := c2) ⟨by omega, hb2⟩
  obtain ⟨hard, top, ho, hhl, ⟨K9, g9⟩, ⟨K10, g10⟩, hhp⟩ := Hardest_all hn
  have hfl := resFirstSharing_length o
  have hgl := resGreedySharing_length o
  obtain ⟨K1, g1⟩ := implFewestStacks_ev o (by omega)
  obtain ⟨K2, g2⟩ := specFewestStacks_ev o (by omega)
  obtain ⟨K3, g3⟩ := implFirstSharing_ev o (by omega)
  obtain ⟨K4, g4⟩ := specFirstSharing_ev o (by omega)
  obtain ⟨K5, g5⟩ := implGreedySharing_ev o (by omega)
  obtain ⟨K6, g6⟩ := specGreedySharing_ev o (by omega)
  obtain ⟨K7, g7⟩ := implCountSharings_ev o (by omega) kk
  obtain ⟨K8, g8⟩ := specCountSharings_ev o (by omega) kk
  obtain ⟨⟨K12, g12⟩, ⟨K11, g11⟩⟩ := CB_ev bx by_
  obtain ⟨K13, g13⟩ := vInts_ev (resFirstSharing o) (resFirstSharing o) (by omega)
  obtain ⟨K14, g14⟩ := vInts_ev (resGreedySharing o) (resGreedySharing o) (by omega)
  obtain ⟨K15, g15⟩ := vInts_ev hard hard (by omega)
  obtain ⟨K16, g16⟩ := implFits_ev o (resFirstSharing o) (by omega) (by omega)
  obtain ⟨K17, g17⟩ := implFits_ev o (resGreedySharing o) (by omega) (by omega)
  obtain ⟨K18, g18⟩ := implFewestStacks_ev hard (by omega)
  obtain ⟨_, ⟨K19, g19⟩⟩ := CB_ev bx (wrap64 (by_ - 1))
  have ho7 : okFirstSharing o = true → isOrd o = true ∧ few o 6 1 ≤ 4 := fun h => by
    simp only [okFirstSharing, Bool.and_eq_true, decide_eq_true_eq] at h; exact h
  have hg7 : okGreedySharing o = true → isOrd o = true := fun h => by
    unfold okGreedySharing at h
    by_cases c : isOrd o = true
    · exact c
    · rw [if_neg c] at h; cases h
  have hc7 : (resCountSharings o kk).2 = true → isOrd o = true ∧ (1 ≤ kk ∧ kk ≤ 4) := fun h => by
    unfold resCountSharings at h
    by_cases c : isOrd o = true
    · rw [if_pos c] at h
      by_cases d : 1 ≤ kk ∧ kk ≤ 4
      · exact ⟨c, d⟩
      · rw [if_neg d] at h; cases h
    · rw [if_neg c] at h; cases h
  have hf1 : isOrd o = true → resFewestStacks o = (((few o 6 1 : Nat) : Int), true) := fun h => by unfold resFewestStacks; rw [if_pos h]
  refine ⟨K1 + K2 + K3 + K4 + K5 + K6 + K7 + K8 + K9 + K10 + K11 + K12 + K13 + K14 + K15 + K16 + K17 + K18 + K19, o, resFirstSharing o, resGreedySharing o, c1, hard, c2, kk, (resFewestStacks o).1, (resCountSharings o kk).1, hn, top, bx, by_, (CB bx by_).1, (CB bx (wrap64 (by_ - 1))).1, (resFewestStacks o).2, okFirstSharing o, okGreedySharing o, (resCountSharings o kk).2, ho, (CB bx by_).2, ?_⟩
  exact {
    big := hv
    drw := hdr
    fwI := g1 _ (by omega)
    fwS := g2 _ (by omega)
    fiI := g3 _ (by omega)
    fiS := g4 _ (by omega)
    grI := g5 _ (by omega)
    grS := g6 _ (by omega)
    csI := g7 _ (by omega)
    csS := g8 _ (by omega)
    cut1 := hc1
    dh := hdh
    hoI := g10 _ (by omega)
    hoS := g9 _ (by omega)
    cut2 := hc2
    db := hdb
    cbI := g11 _ (by omega)
    cbS := g12 _ (by omega)
    eqF := (g13 _ (by omega)).trans (by simp)
    eqG := (g14 _ (by omega)).trans (by simp)
    eqH := (g15 _ (by omega)).trans (by simp)
    okC := fun h => by rw [hf1 (hc7 h).1]
    okF := fun h => by rw [hf1 (ho7 h).1]
    okG := fun h => by rw [hf1 (hg7 h)]
    fitF := fun h => by
      have e := st_one (ho7 h).1 (ho7 h).2
      exact (g16 _ (by omega)).trans (by unfold resFits; rw [if_pos e.1, e.2.1])
    four := fun h => by rw [hf1 (ho7 h).1]; have := (ho7 h).2; simp only []; omega
    most := fun h => by
      have e := st_one (ho7 h).1 (ho7 h).2
      have := (ho7 h).2
      rw [hf1 (ho7 h).1, e.2.2, w64 (by simp only []; omega)]
    lenF := by omega
    fitG := fun h => by
      have e := st_two (hg7 h) h
      exact (g17 _ (by omega)).trans (by unfold resFits; rw [if_pos e.1, e.2.1])
    g0 := fun h => by
      have e := st_two (hg7 h) h
      exact ⟨e.2.2.1, e.2.2.2⟩
    pos := fun h => by
      have hc := hc7 h
      have h7 := hasL_7 (isOrd_len hc.1).2
      obtain ⟨q, hq⟩ := Int.eq_ofNat_of_zero_le (show 0 ≤ kk by omega)
      subst hq
      have hfl_ := few_le h7 q (by omega)
      rw [hf1 hc.1]
      unfold resCountSharings
      rw [if_pos hc.1, if_pos hc.2]
      simp only [Int.toNat_natCast]
      have hL : (few o 6 1 ≤ q) ↔ hasL o q = true := by rw [← hfl_]; simp
      have hL2 : hasL o q = true ↔ 0 < (leaves o q o.length []).length := by
        rw [hasL_iff]
        exact List.length_pos_iff.symm
      constructor
      · intro h1; have := hL.2 (hL2.2 (by omega)); omega
      · intro h1; have := hL2.1 (hL.1 (by omega)); omega
    hrd := fun h => by
      obtain ⟨e1, e2, e3⟩ := hhp h
      exact ⟨(g18 _ (by omega)).trans (by unfold resFewestStacks; rw [if_pos e1, e2]; rfl), e3⟩
    bes := fun h h1 => by
      have e := CB_less bx by_ h h1
      exact ⟨(g19 _ (by omega)).trans (by rw [← e.1]), e.2⟩ }
end Go.Proofs.Ytmgekfoiamjijaa.Pure
