/- Sharings fit where no places in conflict share a stack, just when all numbers come out sorted. -/
import Derived.Test.YtmgekfoiamjijaaPFnConflictsx19
import Derived.Test.YtmgekfoiamjijaaK
import Derived.Test.YtmgekfoiamjijaaTFnConflicts0
import Derived.Test.YtmgekfoiamjijaaTFnConflicts1
import Derived.Test.YtmgekfoiamjijaaTFnConflicts2
import Derived.Test.YtmgekfoiamjijaaTFnConflicts3
import Derived.Test.YtmgekfoiamjijaaTFnConflicts4
import Derived.Test.YtmgekfoiamjijaaTFnConflicts5
import Derived.Test.YtmgekfoiamjijaaTFnConflicts6
set_option linter.unusedVariables false
set_option linter.unusedSimpArgs false
namespace Go.Proofs.Ytmgekfoiamjijaa.Pure
open Go.RowKit Go.Proofs.Ytmgekfoiamjijaa.PFnConflicts Go.Proofs.YtmgekfoiamjijaaW.PrintWords Go.Proofs.YtmgekfoiamjijaaW.PrintLast Go.Proofs.YtmgekfoiamjijaaW.PrintMore
theorem cf_all : ∀ n ∈ [1, 2, 3, 4, 5, 6, 7], allO (intsTo n) contOk n [] = true := by
  intro n hn
  by_cases h7 : n = 7
  · subst h7
    rw [allO]
    simp only [show intsTo 7 = [1, 2, 3, 4, 5, 6, 7] from rfl, List.all_cons, List.all_nil, List.contains_nil, Bool.false_or, Bool.and_true, Bool.and_eq_true]
    exact ⟨cf_all_71, cf_all_72, cf_all_73, cf_all_74, cf_all_75, cf_all_76, cf_all_77⟩
  · exact cf_all_6 n (by simp at hn ⊢; omega)
theorem sharing7_l {s : List Int} (hs : CodeB s) (o : List Int) (ho : o.length ≤ 100) (most : Int) (hm : most ≤ 200) : ∀ (d i : Nat) (out : List Int) (p st : Int), o.length = i + d → 0 ≤ p → p + d ≤ 10000 → out.length ≤ i →
    ∃ (r : List Int) (p' st' : Int), Ev (fun k => spec_l1Cur_sharing7.l0 k o out most (i : Int) s p st) (r, p', st') ∧ r.length ≤ 1000
  | 0, i, out, p, st, h, h0, h1, h2 => by
    obtain ⟨x, p1, st1, e1, _, _, g1⟩ := pick_ok hs p st 30 ⟨h0, by omega⟩ (by omega)
    have key : ∃ (r : List Int) (p' st' : Int), (if x = 0 then (if out.length < 17592186044416 then some (out ++ [0], p1, st1) else none) else (if x = 1 then (if (out.length : Int) > 0 then ((spec_l1Cur_among.f s p1 st1 (([(-1), 4, 4611686018427387904] : List Int))).bind fun bt250 => (if 0 < (out.length : Int) then (some ((out.set (0 : Int).toNat bt250.1), bt250.2.1, bt250.2.2)) else (none))) else some (out, p1, st1)) else some (out, p1, st1))) = some (r, p', st') ∧ r.length ≤ 1000 := by
      by_cases x0 : x = 0
      · rw [if_pos x0, if_pos (by omega)]; exact ⟨_, _, _, rfl, by simp; omega⟩
      · rw [if_neg x0]
        by_cases x1 : x = 1
        · rw [if_pos x1]
          by_cases hl : (out.length : Int) > 0
          · obtain ⟨y, p2, st2, e2, _⟩ := among_ok hs p1 st1 [-1, 4, 4611686018427387904] ⟨g1.1, by omega⟩ (by simp)
            rw [if_pos hl, e2, Option.bind_some, if_pos (by omega)]
            exact ⟨_, _, _, rfl, by simp; omega⟩
          · rw [if_neg hl]; exact ⟨_, _, _, rfl, by omega⟩
        · rw [if_neg x1]; exact ⟨_, _, _, rfl, by omega⟩
    obtain ⟨r, p', st', e, hr⟩ := key
    refine ⟨r, p', st', ?_, hr⟩
    refine Ev.step (fun k => by rw [spec_l1Cur_sharing7.l0]) (Ev.neg (by omega) ?_)
    simp only [e1, Option.bind_some]
    exact Ev.congr (fun _ => e) (Ev.now _)
  | d + 1, i, out, p, st, h, h0, h1, h2 => by
    obtain ⟨x, p1, st1, e1, _, _, g1⟩ := pick_ok hs p st most ⟨h0, by omega⟩ hm
    obtain ⟨r, p', st', hr, hl⟩ := sharing7_l hs o ho most hm d (i + 1) (out ++ [x]) p1 st1 (by omega) g1.1 (by omega) (by simp; omega)
    have e : wrap64 ((i : Int) + 1) = ((i + 1 : Nat) : Int) := wup i (by omega)
    refine ⟨r, p', st', ?_, hl⟩
    refine Ev.step (fun k => by rw [spec_l1Cur_sharing7.l0]) (Ev.pos (by omega) ?_)
    simp only [e1, Option.bind_some, e]
    exact Ev.pos (by omega) hr
theorem sharing7_ok {s : List Int} (hs : CodeB s) (p st : Int) (hp : 0 ≤ p ∧ p ≤ 1000) (o : List Int) (ho : o.length ≤ 8) : ∃ (r : List Int) (p' st' : Int), Ev (fun k => spec_l1Cur_sharing7.f k s p st o) (r, p', st') ∧ r.length ≤ 1000 := by
  obtain ⟨m, p1, st1, e1, hm, g1⟩ := among_ok hs p st [2, 3, 1, 4] ⟨hp.1, by omega⟩ (by simp)
  have hm' : m ≤ 200 := by simp at hm; omega
  have hF := specFirstSharing_ev o (by omega)
  have hfl := resFirstSharing_length o
  have hj : ∀ (b : Bool) (q q2 : Int), 0 ≤ q → q ≤ 2000 → ∃ (r : List Int) (p' st' : Int), Ev (fun k => spec_l1Cur_sharing7.j0 k o [] m (resFirstSharing o) b s q q2) (r, p', st') ∧ r.length ≤ 1000 := by
    intro b q q2 h0 h1
    cases b with
    | true => exact ⟨_, _, _, Ev.step (fun k => by rw [spec_l1Cur_sharing7.j0]) (Ev.pos rfl (Ev.val rfl)), hfl⟩
    | false =>
      obtain ⟨r, p', st', h, hl⟩ := sharing7_l hs o (by omega) m hm' o.length 0 [] q q2 (by omega) h0 (by omega) (by simp)
      refine ⟨r, p', st', ?_, hl⟩
      refine Ev.step (fun k => by rw [spec_l1Cur_sharing7.j0]) ?_
      exact Ev.neg (by simp) h
  unfold spec_l1Cur_sharing7.f spec_l1Cur_one.f
  simp only [Option.bind_some, e1]
  cases hb : okFirstSharing o with
  | true =>
    obtain ⟨x, p2, st2, e2, _, _, g2⟩ := pick_ok hs p1 st1 2 ⟨g1.1, by omega⟩ (by omega)
    obtain ⟨r, p', st', h, hl⟩ := hj (x == 0) p2 st2 g2.1 (by omega)
    refine ⟨r, p', st', Ev.bind hF (Ev.pos hb ?_), hl⟩
    simp only [e2, Option.bind_some]
    exact h
  | false =>
    obtain ⟨r, p', st', h, hl⟩ := hj false p1 st1 g1.1 (by omega)
    exact ⟨r, p', st', Ev.bind hF (Ev.neg (by rw [hb]; simp) h), hl⟩
theorem DrawFits_ok {s : List Int} (hs : CodeB s) : ∃ o sh : List Int, Ev (fun k => spec_DrawFitsSharing.f k s) (o, sh) ∧ o.length ≤ 8 ∧ sh.length ≤ 1000 := by
  unfold spec_DrawFitsSharing.f spec_DrawIsSharing.f
  obtain ⟨o, p1, st1, e1, ho, g1⟩ := hard7_ok hs 0 0 (by omega)
  obtain ⟨r, p', st', h, hl⟩ := sharing7_ok hs p1 st1 ⟨g1.1, by omega⟩ o ho
  refine ⟨o, r, ?_, ho, hl⟩
  simp only [e1, Option.bind_some]
  exact Ev.bind (Ev.bind h (Ev.val rfl)) (Ev.val rfl)
theorem clashM_or (sh : List Int) : ∀ (l : List S41) (c : Bool), clashM sh l c = (c || l.any (fun x => rd sh x.f0 == rd sh x.f1))
  | [], c => by simp [clashM]
  | x :: t, c => by rw [clashM, clashM_or sh t, List.any_cons, Bool.or_assoc]
theorem usedM_or (j : Int) : ∀ (l : List Int) (c : Bool), usedM j l c = (c || l.any (fun x => x == j))
  | [], c => by simp [usedM]
  | x :: t, c => by rw [usedM, usedM_or j t, List.any_cons, Bool.or_assoc]
theorem cJ_mem (l : List Int) (i : Nat) (x : S41) : ∀ (d j : Nat) (A : List S41), x ∈ cJ l i d j A ↔ x ∈ A ∨ ∃ j', j ≤ j' ∧ j' < j + d ∧ conf l i j' = true ∧ x = ⟨(i : Int), (j' : Int)⟩
  | 0, j, A => by simp [cJ]; omega
  | d + 1, j, A => by
    rw [cJ, cJ_mem l i x d (j + 1)]
    constructor
    · rintro (h | ⟨j', h1, h2, h3⟩)
      · by_cases hc : conf l i j = true
        · rw [if_pos hc, List.mem_append, List.mem_singleton] at h
          rcases h with h | h
          · exact .inl h
          · exact .inr ⟨j, by omega, by omega, hc, h⟩
        · rw [if_neg hc] at h; exact .inl h
      · exact .inr ⟨j', by omega, by omega, h3⟩
    · rintro (h | ⟨j', h1, h2, h3, h4⟩)
      · left
        split
        · exact List.mem_append_left _ h
        · exact h
      · by_cases e : j' = j
        · subst e
          left
          rw [if_pos h3, h4]
          simp
        · exact .inr ⟨j', by omega, by omega, h3, h4⟩
theorem cI_mem (l : List Int) (x : S41) : ∀ (d i : Nat) (A : List S41), l.length = i + d → (x ∈ cI l d i A ↔ x ∈ A ∨ ∃ i' j' : Nat, i ≤ i' ∧ i' < j' ∧ j' < l.length ∧ conf l i' j' = true ∧ x = ⟨(i' : Int), (j' : Int)⟩)
  | 0, i, A, h => by simp [cI]; omega
  | d + 1, i, A, h => by
    rw [cI, cI_mem l x d (i + 1) _ (by omega), cJ_mem]
    constructor
    · rintro ((h1 | ⟨j', h1, h2, h3, h4⟩) | ⟨i', j', h1, h2, h3⟩)
      · exact .inl h1
      · exact .inr ⟨i, j', by omega, by omega, by omega, h3, h4⟩
      · exact .inr ⟨i', j', by omega, h2, h3⟩
    · rintro (h1 | ⟨i', j', h1, h2, h3, h4, h5⟩)
      · exact .inl (.inl h1)
      · by_cases e : i' = i
        · subst e; exact .inl (.inr ⟨j', by omega, by omega, h4, h5⟩)
        · exact .inr ⟨i', j', by omega, h2, h3, h4, h5⟩
theorem clash_is {o sh : List Int} (h : isShar o sh = true) : clashM sh (cI o o.length 0 []) false = !fits o sh := by
  obtain ⟨ho, hl, hsh⟩ := isShar_all h
  rw [clashM_or, Bool.false_or]
  cases hf : fits o sh with
  | true =>
    rw [Bool.not_true, List.any_eq_false]
    intro x hx
    obtain ⟨i, j, _, h2, h3, h4, rfl⟩ := ((cI_mem o x o.length 0 [] (by omega)).1 hx).resolve_left (by simp)
    simp only [rd_nat, beq_iff_eq]
    intro e
    have := (fits_iff o sh).1 hf j i (by omega) h2 e
    rw [h4] at this
    cases this
  | false =>
    rw [Bool.not_false, List.any_eq_true]
    refine Classical.byContradiction fun hc => ?_
    have : fits o sh = true := (fits_iff o sh).2 fun j i hj hi e => by
      cases hb : conf o i j
      · rfl
      · exact absurd ⟨⟨(i : Int), (j : Int)⟩, (cI_mem o _ o.length 0 [] (by omega)).2 (.inr ⟨i, j, by omega, hi, by omega, hb, rfl⟩), by simp [rd_nat, e]⟩ hc
    rw [hf] at this
    cases this
theorem used_is {o sh : List Int} (h : isShar o sh = true) (j : Nat) (hj : j < 4) : usedM (j : Int) sh false = decide (0 < (playM o sh).d j) := by
  obtain ⟨ho, hl, hsh⟩ := isShar_all h
  have hq := (playM_Q h).1.G j hj
  rw [usedM_or, Bool.false_or]
  have hc : cnt sh j o.length = sh.countP (fun x => decide (x = (j : Int))) := by unfold cnt; rw [List.take_of_length_le (by omega)]
  rw [hc] at hq
  cases hb : sh.any (fun x => x == (j : Int)) with
  | true =>
    rw [List.any_eq_true] at hb
    obtain ⟨x, hx, hx2⟩ := hb
    have : 0 < sh.countP (fun x => decide (x = (j : Int))) := List.countP_pos_iff.2 ⟨x, hx, by simpa using hx2⟩
    exact (decide_eq_true (hq.2.2 this)).symm
  | false =>
    rw [List.any_eq_false] at hb
    have : sh.countP (fun x => decide (x = (j : Int))) = 0 := List.countP_eq_zero.2 fun x hx => by have := hb x hx; simpa using this
    rw [this] at hq
    exact (decide_eq_false (by omega)).symm
theorem law_is {o sh : List Int} (h : isShar o sh = true) : laws_FnConflicts.Law o sh ((playM o sh).x 4) (cI o o.length 0 []) (strOfNums (playM o sh).mv) ((playM o sh).d 0) ((playM o sh).d 1) ((playM o sh).d 2) ((playM o sh).d 3) (fits o sh) := by
  obtain ⟨ho, hl, hsh⟩ := isShar_all h
  have h7 := isOrd_len ho
  have hQ := (playM_Q h).1
  have hT := hQ.P.T
  have hV := hQ.P.V
  have hlC := cI_len o o.length 0 []
  have h49 : o.length * o.length ≤ 7 * 7 := Nat.mul_le_mul h7.2 h7.2
  have hsum := cnt_all sh hsh sh.length (Nat.le_refl _)
  rw [hl] at hsum
  refine { cla := clash_is h, clb := fun x hx => ?_, all := play_fits h, mvl := ?_, outs := fun i hi => hQ.O i hi, used := fun j hj => ?_, sum := ?_, lenC := by simp at hlC; omega, lenU := by omega, lenS := by omega }
  · obtain ⟨i, j, _, h2, h3, h4, rfl⟩ := ((cI_mem o x o.length 0 [] (by omega)).1 hx).resolve_left (by simp)
    simp only []
    omega
  · have e : (strOfNums (playM o sh).mv).size = (playM o sh).mv.length := by simp [strOfNums, ByteArray.size]
    rw [e, hV, w64 (by omega)]; omega
  · rw [used_is h j hj]
    rcases four j hj with rfl | rfl | rfl | rfl <;> rfl
  · have g0 := hQ.G 0 (by omega)
    have g1 := hQ.G 1 (by omega)
    have g2 := hQ.G 2 (by omega)
    have g3 := hQ.G 3 (by omega)
    simp only [sumM]
    rw [w64 (n := 0 + (playM o sh).d 0) (by omega), w64 (n := 0 + (playM o sh).d 0 + (playM o sh).d 1) (by omega), w64 (n := 0 + (playM o sh).d 0 + (playM o sh).d 1 + (playM o sh).d 2) (by omega), w64 (by omega)]
    omega
theorem containsPattern_ev (l : List Int) (ho : isOrd l = true) : Ev (fun k => impl_ContainsPattern.f k l [2, 3, 1]) (decide (0 < (cI l l.length 0 []).length), true) := by
  have h7 := isOrd_len ho
  unfold impl_ContainsPattern.f
  refine Ev.bind (isOrder_ev l (by omega)) (Ev.pos ho (Ev.bind (isOrder_ev [2, 3, 1] (by decide)) (Ev.pos (by decide) (Ev.bind (contains_ev l [2, 3, 1] h7.2 (by decide)) (Ev.val ?_)))))
  have h := orders_all ho _ cf_all
  unfold contOk at h
  rw [show ([2, 3, 1] : List Int).length = 3 from rfl, eq_of_beq h]
theorem FnConflicts : laws_FnConflicts.Pure := by
  intro l0 hm hr hw hv
  have hlen : l0.length ≤ 65536 := by
    unfold laws_vBig.f at hv
    have := of_decide_eq_false (Option.some.inj hv)
    omega
  have hs : CodeB l0 := ⟨by omega, fun x hx => by
    have := hw x hx
    have e0 : IntKind.u8.min = 0 := by decide
    have e1 : IntKind.u8.max = 255 := by decide
    simp [Lit.wf, e0, e1] at this
    omega⟩
  obtain ⟨o, sh, ⟨K0, g0⟩, ho8, hs8⟩ := DrawFits_ok hs
  have hul := resComesOut_length o sh
  have hcl := resConflictsOf_length o
  obtain ⟨K1, g1⟩ := implFits_ev o sh (by omega) (by omega)
  obtain ⟨K2, g2⟩ := specFits_ev o sh (by omega) (by omega)
  obtain ⟨K3, g3⟩ := implMovesOf_ev o sh (by omega) (by omega)
  obtain ⟨K4, g4⟩ := specMovesOf_ev o sh (by omega) (by omega)
  obtain ⟨K5, g5⟩ := implComesOut_ev o sh (by omega) (by omega)
  obtain ⟨K6, g6⟩ := specComesOut_ev o sh (by omega) (by omega)
  obtain ⟨K7, g7⟩ := implDepthsOf_ev o sh (by omega) (by omega)
  obtain ⟨K8, g8⟩ := specDepthsOf_ev o sh (by omega) (by omega)
  obtain ⟨K9, g9⟩ := implConflictsOf_ev o (by omega)
  obtain ⟨K10, g10⟩ := specConflictsOf_ev o (by omega)
  obtain ⟨K11, g11⟩ := vInts_ev (resComesOut o sh) (resComesOut o sh) (by omega)
  obtain ⟨K12, g12⟩ := vPairs_ev (resConflictsOf o) (by omega)
  obtain ⟨K13, g13⟩ := implIsSharing_ev o sh (by omega) (by omega)
  obtain ⟨K14, g14⟩ := specIsSharing_ev o sh (by omega) (by omega)
  have hcp : ∃ K, ∀ k, K ≤ k → isOrd o = true → impl_ContainsPattern.f k o [2, 3, 1] = some (decide (0 < (cI o o.length 0 []).length), true) := by
    cases hb : isOrd o with
    | true => obtain ⟨K, g⟩ := containsPattern_ev o hb; exact ⟨K, fun k hk _ => g k hk⟩
    | false => exact ⟨0, fun _ _ h => by cases h⟩
  obtain ⟨K15, g15⟩ := hcp
  have hC : isOrd o = true → resConflictsOf o = cI o o.length 0 [] := fun h => by unfold resConflictsOf; rw [if_pos h]
  obtain ⟨b, hb⟩ : ∃ b, isShar o sh = b := ⟨_, rfl⟩
  have hbo : b = true → isOrd o = true := fun h => (isShar_all (hb.trans h)).1
  have r1 : (resFits o sh).2 = b := by unfold resFits; rw [hb]; cases b <;> rfl
  have r2 : (resMovesOf o sh).2 = b := by unfold resMovesOf; rw [hb]; cases b <;> rfl
  have r3 : (resDepthsOf o sh).2.2.2.2 = b := by unfold resDepthsOf; rw [hb]; cases b <;> rfl
  refine ⟨K0 + K1 + K2 + K3 + K4 + K5 + K6 + K7 + K8 + K9 + K10 + K11 + K12 + K13 + K14 + K15, o, sh, (resFits o sh).1, b, (resMovesOf o sh).1, resComesOut o sh, (resDepthsOf o sh).1, (resDepthsOf o sh).2.1, (resDepthsOf o sh).2.2.1, (resDepthsOf o sh).2.2.2.1, resConflictsOf o, isOrd o, ?_⟩
  have is1 : ∀ k, impl_IsSharing.f k o sh = impl_isSharing.f k o sh := fun k => by unfold impl_IsSharing.f; cases impl_isSharing.f k o sh <;> rfl
  have is2 : ∀ k, spec_IsSharing.f k o sh = spec_l7Sharing.f k o sh := fun k => by unfold spec_IsSharing.f; cases spec_l7Sharing.f k o sh <;> rfl
  exact {
    f35 := hv
    f38 := g0 _ (by omega)
    f44 := (g1 _ (by omega)).trans (by rw [← r1])
    f50 := (g2 _ (by omega)).trans (by rw [← r1])
    f56 := (g3 _ (by omega)).trans (by rw [← r2])
    f62 := (g4 _ (by omega)).trans (by rw [← r2])
    f68 := (g5 _ (by omega)).trans (by rw [← hb])
    f74 := (g6 _ (by omega)).trans (by rw [← hb])
    f80 := (g7 _ (by omega)).trans (by rw [← r3])
    f86 := (g8 _ (by omega)).trans (by rw [← r3])
    f91 := g9 _ (by omega)
    f96 := g10 _ (by omega)
    f125 := (g11 _ (by omega)).trans (by simp)
    f146 := g12 _ (by omega)
    f152 := (is1 _).trans ((g13 _ (by omega)).trans (by rw [hb]))
    f155 := (is2 _).trans ((g14 _ (by omega)).trans (by rw [hb]))
    f162 := (is1 _).trans ((g13 _ (by omega)).trans (by rw [hb]))
    okC := hbo
    con := fun h => by rw [hC h]; exact g15 _ (by omega) h
    law := fun h => by
      subst h
      have e := law_is hb
      have e1 : resComesOut o sh = (playM o sh).x 4 := by unfold resComesOut; rw [if_pos hb]
      have e2 : resMovesOf o sh = (strOfNums (playM o sh).mv, true) := by unfold resMovesOf; rw [if_pos hb]
      have e3 : resDepthsOf o sh = ((playM o sh).d 0, (playM o sh).d 1, (playM o sh).d 2, (playM o sh).d 3, true) := by unfold resDepthsOf; rw [if_pos hb]
      have e4 : resFits o sh = (fits o sh, true) := by unfold resFits; rw [if_pos hb]
      rw [hC (hbo rfl), e1, e2, e3, e4]
      exact e }
end Go.Proofs.Ytmgekfoiamjijaa.Pure
