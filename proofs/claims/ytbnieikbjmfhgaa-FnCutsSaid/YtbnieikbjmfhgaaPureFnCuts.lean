/- Cuts undo themselves, are told by ranks, and do what their words do. -/
import Derived.Test.YtbnieikbjmfhgaaPFnCutsx19
import Derived.Test.YtbnieikbjmfhgaaK
import Derived.Test.YtbnieikbjmfhgaaTFnCuts0
import Derived.Test.YtbnieikbjmfhgaaTFnCuts1
import Derived.Test.YtbnieikbjmfhgaaTFnCuts2
set_option linter.unusedVariables false
set_option linter.unusedSimpArgs false
namespace Go.Proofs.Ytbnieikbjmfhgaa.Pure
open Go.RowKit Go.Proofs.Ytbnieikbjmfhgaa.PFnCuts Go.Proofs.YtbnieikbjmfhgaaW.PrintWords Go.Proofs.YtbnieikbjmfhgaaW.PrintLast Go.Proofs.YtbnieikbjmfhgaaW.PrintMore
theorem cw_ok {m : Nat} (h1 : 1 ≤ m ∧ m ≤ 7) {l : List Int} (h : isCuts (m : Int) l = true) : ∃ (r : Int) (w : ByteArray), impl_RankOfCuts.f 1000 l = some (r, true) ∧ spec_RankOfCuts.f 1000 l = some (r, true) ∧ impl_CutsWord.f 1000 l = some (w, true) ∧ spec_CutsWord.f 1000 l = some (w, true) ∧ impl_isWord.f 1000 w = some true ∧ w.size = 2 * m ∧ impl_runWord.f 1000 (intsTo m) w = some (runL (intsTo m) l) := by
  have hm : l ∈ cutsF 8 m := cutsF_mem 8 m l (by omega) (by simp only [isCuts, Bool.and_eq_true] at h; exact h.2)
  have hk : rcOk m l = true := by
    by_cases h7 : m = 7
    · subst h7; exact rc_7 l hm
    · exact rc_6 m (by simp; omega) l hm
  unfold rcOk at hk
  split at hk
  · rename_i r1 r2 w1 w2 e1 e2 e3 e4
    simp only [Bool.and_eq_true, decide_eq_true_eq, beq_iff_eq] at hk
    obtain ⟨rfl, rfl, h5, h6, h7⟩ := hk
    exact ⟨r1, w1, e1, e2, e3, e4, h5, h6, h7⟩
  · cases hk
theorem rank_all (l : List Int) (hn : l.length ≤ 1000) : ∃ (r : Int) (b : Bool) (w : ByteArray), Ev (fun k => impl_RankOfCuts.f k l) (r, b) ∧ Ev (fun k => spec_RankOfCuts.f k l) (r, b) ∧ Ev (fun k => impl_CutsWord.f k l) (w, b) ∧ Ev (fun k => spec_CutsWord.f k l) (w, b) ∧ (b = true → ∃ K, ∀ k, K ≤ k → impl_IsWord.f k w = some true) := by
  by_cases hv : ∃ n, isCuts n l = true
  · obtain ⟨n, hc⟩ := hv
    have hc' := hc
    simp only [isCuts, Bool.and_eq_true, decide_eq_true_eq] at hc'
    obtain ⟨m, rfl⟩ := Int.eq_ofNat_of_zero_le (show 0 ≤ n by omega)
    obtain ⟨r, w, e1, e2, e3, e4, e5, _, _⟩ := cw_ok (by omega) hc
    refine ⟨r, true, w, Ev.of (fun k => impl_RankOfCuts.mono _ k) e1, Ev.of (fun k => spec_RankOfCuts.mono _ k) e2, Ev.of (fun k => impl_CutsWord.mono _ k) e3, Ev.of (fun k => spec_CutsWord.mono _ k) e4, fun _ => ?_⟩
    have : Ev (fun k => impl_IsWord.f k w) true := by
      unfold impl_IsWord.f
      exact Ev.bind (Ev.of (fun k => impl_isWord.mono _ k) e5) (Ev.val rfl)
    exact this
  · have hb : ∀ n, isCuts n l = false := fun n => by rw [← Bool.not_eq_true]; exact fun h => hv ⟨n, h⟩
    have hI : Ev (fun k => impl_RankOfCuts.f k l) (0, false) := by
      unfold impl_RankOfCuts.f
      exact implBad_l l (by omega) hb l.length 0 0 (by omega) (by omega) (by omega)
    refine ⟨0, false, (⟨#[]⟩ : ByteArray), hI, ?_, ?_, ?_, fun h => by cases h⟩
    · unfold spec_RankOfCuts.f
      exact specBad_l l (by omega) hb l.length 0 0 (by omega) (by omega) (by omega) (by omega)
    · unfold impl_CutsWord.f
      exact Ev.bind hI (Ev.neg (by simp) (Ev.val rfl))
    · unfold spec_CutsWord.f
      exact specBadW_l l (by omega) hb l.length 0 0 (by omega) (by omega) (by omega) (by omega)
theorem ca_all_ev (n k : Int) : ∃ (a : List Int) (b : Bool), Ev (fun q => impl_CutsAt.f q n k) (a, b) ∧ Ev (fun q => spec_CutsAt.f q n k) (a, b) ∧ a.length ≤ 7 ∧ (b = true → ∃ K, ∀ q, K ≤ q → impl_RankOfCuts.f q a = some (k, true)) := by
  have bad : (∀ q, spec_CutsAt.f q n k = some ([], false)) → (∀ q, impl_CutsAt.f q n k = some ([], false)) → ∃ (a : List Int) (b : Bool), Ev (fun q => impl_CutsAt.f q n k) (a, b) ∧ Ev (fun q => spec_CutsAt.f q n k) (a, b) ∧ a.length ≤ 7 ∧ (b = true → ∃ K, ∀ q, K ≤ q → impl_RankOfCuts.f q a = some (k, true)) :=
    fun h1 h2 => ⟨[], false, ⟨0, fun q _ => h2 q⟩, ⟨0, fun q _ => h1 q⟩, by simp, fun h => by cases h⟩
  by_cases hn : 1 ≤ n ∧ n ≤ 7
  · have key : ∀ (m : Nat) (b : Int), n = (m : Int) → m ∈ [1, 2, 3, 4, 5, 6, 7] → shl .i64 1 (wrap64 (n - 1)) = b → b = ((2 ^ (m - 1) : Nat) : Int) → b ≤ 64 → 0 < b → ∃ (a : List Int) (b : Bool), Ev (fun q => impl_CutsAt.f q n k) (a, b) ∧ Ev (fun q => spec_CutsAt.f q n k) (a, b) ∧ a.length ≤ 7 ∧ (b = true → ∃ K, ∀ q, K ≤ q → impl_RankOfCuts.f q a = some (k, true)) := by
      intro m b e hm hs hb hb2 hb3
      by_cases hk : 0 ≤ k ∧ k < b
      · obtain ⟨j, rfl⟩ := Int.eq_ofNat_of_zero_le hk.1
        subst e
        have h := ca_all m hm j (by rw [List.mem_range]; omega)
        unfold caOk at h
        split at h
        · rename_i a b' e1 e2
          simp only [Bool.and_eq_true, decide_eq_true_eq, beq_iff_eq] at h
          obtain ⟨rfl, h3, h4⟩ := h
          exact ⟨a, true, Ev.of (fun q => impl_CutsAt.mono _ _ q) e1, Ev.of (fun q => spec_CutsAt.mono _ _ q) e2, h3, fun _ => Ev.of (fun q => impl_RankOfCuts.mono _ q) h4⟩
        · cases h
      · have e1 : wrap64 (n - 1) = n - 1 := w64 (by omega)
        have e2 : wrap64 (b - 1) = b - 1 := w64 (by omega)
        refine bad (fun q => ?_) (fun q => ?_)
        · unfold spec_CutsAt.f
          simp only [l1In_is, Option.bind_some]
          rw [if_pos (by simp; omega), if_pos (by rw [e1]; omega)]
          rw [hs, e2, if_neg (by simp; omega)]
        · unfold impl_CutsAt.f
          simp only [isSize_is, Option.bind_some]
          rw [if_pos (by simp; omega)]
          by_cases h0 : k < 0
          · rw [if_pos h0]
          · rw [if_neg h0, if_pos (by rw [e1]; omega), hs, if_pos (by omega)]
    have hc : n = 1 ∨ n = 2 ∨ n = 3 ∨ n = 4 ∨ n = 5 ∨ n = 6 ∨ n = 7 := by omega
    rcases hc with rfl | rfl | rfl | rfl | rfl | rfl | rfl
    · exact key 1 1 rfl (by simp) (by decide +kernel) rfl (by decide) (by decide)
    · exact key 2 2 rfl (by simp) (by decide +kernel) rfl (by decide) (by decide)
    · exact key 3 4 rfl (by simp) (by decide +kernel) rfl (by decide) (by decide)
    · exact key 4 8 rfl (by simp) (by decide +kernel) rfl (by decide) (by decide)
    · exact key 5 16 rfl (by simp) (by decide +kernel) rfl (by decide) (by decide)
    · exact key 6 32 rfl (by simp) (by decide +kernel) rfl (by decide) (by decide)
    · exact key 7 64 rfl (by simp) (by decide +kernel) rfl (by decide) (by decide)
  · refine bad (fun q => ?_) (fun q => ?_)
    · unfold spec_CutsAt.f
      simp only [l1In_is, Option.bind_some]
      rw [if_neg (by simp; omega)]
    · unfold impl_CutsAt.f
      simp only [isSize_is, Option.bind_some]
      rw [if_neg (by simp; omega)]
theorem tcM_true (l s : List Int) : ∀ cs : List (List Int), (tcM l s cs).2.2 = true → ∃ c ∈ cs, ∃ r, cutsM 7 (runL l c) s = some r ∧ tcM l s cs = (c, r, true)
  | [], h => by simp [tcM] at h
  | c :: cs, h => by
    rw [tcM] at h ⊢
    by_cases hc : (cutsR [] (cutsM 7 (runL l c) s)).2 = true
    · rw [if_pos hc]
      cases e : cutsM 7 (runL l c) s with
      | none => rw [e] at hc; simp [cutsR] at hc
      | some r => exact ⟨c, by simp, r, e, by simp [cutsR]⟩
    · rw [if_neg hc] at h ⊢
      obtain ⟨c', h1, r, h2, h3⟩ := tcM_true l s cs h
      exact ⟨c', by simp [h1], r, h2, h3⟩
theorem cutsJ_ok {s : List Int} (hs : CodeB s) (x : List Int) (hx : x.length ≤ 90) (p st : Int) (hp : 0 ≤ p ∧ p ≤ 5000) : ∃ (r : List Int) (p' st' : Int), Ev (fun k => spec_l1Cur_cuts.j0 k x s p st) (r, p', st') ∧ r.length ≤ 100 ∧ 0 ≤ p' ∧ p' ≤ p + 5 := by
  obtain ⟨y, p1, st1, h1, _, _, g1⟩ := pick_ok hs p st 24 ⟨hp.1, by omega⟩ (by omega)
  by_cases hy : (y == 0) = true
  · obtain ⟨z, p2, st2, h2, _, g2⟩ := among_ok hs p1 st1 [1, 0, -1, 8, 4611686018427387904] ⟨g1.1, by omega⟩ (by simp)
    refine ⟨x ++ [z], p2, st2, Ev.step (fun k => by rw [spec_l1Cur_cuts.j0]) ?_, by simp; omega, g2.1, by omega⟩
    unfold spec_l1Cur_one.f
    simp only [h1, h2, Option.bind_some]
    exact Ev.pos hy (Ev.pos (by omega) (Ev.val rfl))
  · refine ⟨x, p1, st1, Ev.step (fun k => by rw [spec_l1Cur_cuts.j0]) ?_, by omega, g1.1, by omega⟩
    unfold spec_l1Cur_one.f
    simp only [h1, Option.bind_some]
    exact Ev.neg hy (Ev.val rfl)
theorem cuts_ok {s : List Int} (hs : CodeB s) (n p st : Int) (hp : 0 ≤ p ∧ p ≤ 4000) : ∃ (r : List Int) (p' st' : Int), Ev (fun k => spec_l1Cur_cuts.f k s p st n) (r, p', st') ∧ r.length ≤ 100 ∧ 0 ≤ p' ∧ p' ≤ p + 10 := by
  unfold spec_l1Cur_cuts.f
  simp only [l1In_is, Option.bind_some, decide_eq_true_eq]
  by_cases hn : 1 ≤ n ∧ n ≤ 7
  · obtain ⟨m, rfl⟩ := Int.eq_ofNat_of_zero_le (show 0 ≤ n by omega)
    obtain ⟨t1, t2, t3⟩ := cutsT_at m (by omega) (by omega)
    have hpw := pow_le m (by omega)
    have e := shl_is m (by omega) (by omega)
    obtain ⟨y, p1, st1, h1, hy, hy2, g1⟩ := pick_ok hs p st ((2 ^ (m - 1) : Nat) : Int) ⟨hp.1, by omega⟩ (by omega)
    obtain ⟨j, rfl⟩ := Int.eq_ofNat_of_zero_le hy
    have hpos : 0 < 2 ^ (m - 1) := Nat.two_pow_pos _
    obtain ⟨t4, t5⟩ := t3 j (by omega)
    have hlen := isCuts_len (by omega) t5
    obtain ⟨r, p', st', hr, g2, g3⟩ := cutsJ_ok hs ((cutsT m).getD j []) (by omega) p1 st1 ⟨g1.1, by omega⟩
    refine ⟨r, p', st', Ev.pos hn ?_, g2, g3.1, by omega⟩
    simp only [wdn m (by omega) (by omega), e, h1, Option.bind_some]
    exact Ev.pos (by omega) (Ev.bind (Ev.of (fun k => spec_l6At.mono _ _ k) t4) hr)
  · obtain ⟨r, p', st', hr, g2, g3⟩ := cutsJ_ok hs [] (by simp) p st ⟨hp.1, by omega⟩
    exact ⟨r, p', st', Ev.neg hn hr, g2, g3.1, by omega⟩
theorem DrawRunCuts_ok {s : List Int} (hs : CodeB s) : ∃ o cu : List Int, Ev (fun k => spec_DrawRunCuts.f k s) (o, cu) ∧ o.length ≤ 8 ∧ cu.length ≤ 100 := by
  unfold spec_DrawRunCuts.f
  obtain ⟨o, p1, st1, h1, ho, g1⟩ := order_ok hs 0 0 (by omega)
  obtain ⟨r, p', st', hr, g2, g3⟩ := cuts_ok hs (o.length : Int) p1 st1 ⟨g1.1, by omega⟩
  refine ⟨o, r, ?_, ho, g2⟩
  simp only [h1, Option.bind_some]
  exact Ev.bind hr (Ev.val rfl)
theorem DrawAreCuts_ok {s : List Int} (hs : CodeB s) : ∃ (n : Int) (li : List Int), Ev (fun k => spec_DrawAreCuts.f k s) (n, li) ∧ li.length ≤ 100 := by
  unfold spec_DrawAreCuts.f
  obtain ⟨n, p1, st1, h1, _, g1⟩ := among_ok hs 0 0 [4, 5, 3, 2, 7, 6, 1, 0, 8] (by omega) (by simp)
  obtain ⟨r, p', st', hr, g2, g3⟩ := cuts_ok hs n p1 st1 ⟨g1.1, by omega⟩
  refine ⟨n, r, ?_, g2⟩
  simp only [h1, Option.bind_some]
  exact Ev.bind hr (Ev.val rfl)
theorem DrawRankOfCuts_ok {s : List Int} (hs : CodeB s) : ∃ (li : List Int), Ev (fun k => spec_DrawRankOfCuts.f k s) li ∧ li.length ≤ 100 := by
  obtain ⟨n, li, h, hl⟩ := DrawAreCuts_ok hs
  unfold spec_DrawRankOfCuts.f
  exact ⟨li, Ev.bind h (Ev.val rfl), hl⟩
theorem DrawCutsTo_ok {s : List Int} (hs : CodeB s) : ∃ o t : List Int, Ev (fun k => spec_DrawCutsTo.f k s) (o, t) ∧ o.length ≤ 8 ∧ t.length ≤ 8 := by
  unfold spec_DrawCutsTo.f
  obtain ⟨o, p1, st1, h1, ho, g1⟩ := order_ok hs 0 0 (by omega)
  obtain ⟨cu, p2, st2, h2, hl2, g2⟩ := cuts_ok hs (o.length : Int) p1 st1 ⟨g1.1, by omega⟩
  simp only [h1, Option.bind_some]
  have more : ∀ q st, 0 ≤ q → q ≤ 900 → ∃ t : List Int, ((spec_l1Cur_order.f s q st).bind fun x => some (o, x.1)) = some (o, t) ∧ t.length ≤ 8 := fun q st hq hq2 => by
    obtain ⟨t, q1, st1, h, ht, _⟩ := order_ok hs q st ⟨hq, by omega⟩
    exact ⟨t, by rw [h, Option.bind_some], ht⟩
  cases hb : isOrd o with
  | false =>
    obtain ⟨t, e, ht⟩ := more p2 st2 g2.1 (by omega)
    exact ⟨o, t, Ev.bind h2 (Ev.bind (l2Order_ev o (by omega)) (Ev.neg (by rw [hb]; simp) (Ev.congr (fun _ => e) (Ev.now _)))), ho, ht⟩
  | true =>
    cases hc : isCuts (o.length : Int) cu with
    | false =>
      obtain ⟨t, e, ht⟩ := more p2 st2 g2.1 (by omega)
      exact ⟨o, t, Ev.bind h2 (Ev.bind (l2Order_ev o (by omega)) (Ev.pos hb (Ev.bind (l6Cuts_ev _ cu (by omega)) (Ev.neg (by rw [hc]; simp) (Ev.congr (fun _ => e) (Ev.now _)))))), ho, ht⟩
    | true =>
      obtain ⟨y, p3, st3, h3, _, _, g3⟩ := pick_ok hs p2 st2 4 ⟨g2.1, by omega⟩ (by omega)
      by_cases hy : (y == 0) = true
      · obtain ⟨t, e, ht⟩ := more p3 st3 g3.1 (by omega)
        refine ⟨o, t, Ev.bind h2 (Ev.bind (l2Order_ev o (by omega)) (Ev.pos hb (Ev.bind (l6Cuts_ev _ cu (by omega)) (Ev.pos hc ?_)))), ho, ht⟩
        unfold spec_l1Cur_one.f
        simp only [h3, Option.bind_some]
        exact Ev.pos hy (Ev.congr (fun _ => e) (Ev.now _))
      · have hl := runL_length cu o
        refine ⟨o, runL o cu, Ev.bind h2 (Ev.bind (l2Order_ev o (by omega)) (Ev.pos hb (Ev.bind (l6Cuts_ev _ cu (by omega)) (Ev.pos hc ?_)))), ho, by omega⟩
        unfold spec_l1Cur_one.f
        simp only [h3, Option.bind_some]
        exact Ev.neg hy (Ev.bind (l6Run_ev o cu (by omega) hc) (Ev.val rfl))
theorem l1Least_ok (a b : Int) : ∃ x, spec_l1Least.f a b = some x ∧ x ≤ b := by
  unfold spec_l1Least.f
  by_cases h : a < b
  · rw [if_pos h]; exact ⟨_, rfl, by omega⟩
  · rw [if_neg h]; exact ⟨_, rfl, by omega⟩
theorem l1Most_ok (a b : Int) : ∃ x, spec_l1Most.f a b = some x ∧ a ≤ x ∧ (x = a ∨ x = b) := by
  unfold spec_l1Most.f
  by_cases h : a > b
  · rw [if_pos h]; exact ⟨_, rfl, by omega, .inl rfl⟩
  · rw [if_neg h]; exact ⟨_, rfl, by omega, .inr rfl⟩
theorem shl_le (x : Int) (h0 : 0 ≤ x) (h6 : x ≤ 6) : shl .i64 1 x ≤ 200 := by
  have : x = 0 ∨ x = 1 ∨ x = 2 ∨ x = 3 ∨ x = 4 ∨ x = 5 ∨ x = 6 := by omega
  rcases this with rfl | rfl | rfl | rfl | rfl | rfl | rfl <;> decide +kernel
theorem DrawCutsAt_ok {s : List Int} (hs : CodeB s) : ∃ n k : Int, spec_DrawCutsAt.f s = some (n, k) := by
  unfold spec_DrawCutsAt.f
  obtain ⟨n, p1, st1, h1, _, g1⟩ := among_ok hs 0 0 [4, 5, 3, 2, 7, 6, 1, 0, 8] (by omega) (by simp)
  obtain ⟨u, hu, hu2⟩ := l1Least_ok (wrap64 (n - 1)) 6
  obtain ⟨v, hv, hv2, hv3⟩ := l1Most_ok 0 u
  have hsl := shl_le v hv2 (by omega)
  obtain ⟨x, p2, st2, h2, _, _, g2⟩ := pick_ok hs p1 st1 (shl .i64 1 v) ⟨g1.1, by omega⟩ hsl
  obtain ⟨y, p3, st3, h3, _, _, g3⟩ := pick_ok hs p2 st2 24 ⟨g2.1, by omega⟩ (by omega)
  obtain ⟨z, p4, st4, h4, _, _, g4⟩ := pick_ok hs p3 st3 24 ⟨g3.1, by omega⟩ (by omega)
  simp only [h1, hu, hv, h2, h3, h4, Option.bind_some]
  rw [if_pos hv2]
  exact ⟨_, _, rfl⟩
theorem DrawTwoCuts_ok {s : List Int} (hs : CodeB s) : ∃ o t : List Int, Ev (fun k => spec_DrawTwoCuts.f k s) (o, t) ∧ o.length ≤ 8 ∧ t.length ≤ 8 := by
  unfold spec_DrawTwoCuts.f
  obtain ⟨o, t, h1, ho, ht⟩ := DrawCutsTo_ok hs
  obtain ⟨cu, p2, st2, h2, hl2, g2⟩ := cuts_ok hs (t.length : Int) 0 0 (by omega)
  cases hb : isOrd t with
  | false => exact ⟨o, t, Ev.bind h1 (Ev.bind h2 (Ev.bind (l2Order_ev t (by omega)) (Ev.neg (by rw [hb]; simp) (Ev.val rfl)))), ho, ht⟩
  | true =>
    cases hc : isCuts (t.length : Int) cu with
    | false => exact ⟨o, t, Ev.bind h1 (Ev.bind h2 (Ev.bind (l2Order_ev t (by omega)) (Ev.pos hb (Ev.bind (l6Cuts_ev _ cu (by omega)) (Ev.neg (by rw [hc]; simp) (Ev.val rfl)))))), ho, ht⟩
    | true =>
      have hl := runL_length cu t
      exact ⟨o, runL t cu, Ev.bind h1 (Ev.bind h2 (Ev.bind (l2Order_ev t (by omega)) (Ev.pos hb (Ev.bind (l6Cuts_ev _ cu (by omega)) (Ev.pos hc (Ev.bind (l6Run_ev t cu (by omega) hc) (Ev.val rfl))))))), ho, by omega⟩
theorem run_is {l c : List Int} (hl : isOrd l = true) (hc : isCuts (l.length : Int) c = true) : resRunCuts l c = runL l c := by unfold resRunCuts; rw [hl, hc]; rfl
theorem isCuts_of {o r : List Int} (hl : isOrd o = true) (h : cutsOk (o.length : Int) r = true) : isCuts (o.length : Int) r = true := by
  have := isOrd_len hl
  simp only [isCuts, Bool.and_eq_true, decide_eq_true_eq]
  exact ⟨by omega, h⟩
theorem runWord_ev {o cu : List Int} {w : ByteArray} (ho : isOrd o = true) (h1 : impl_isWord.f 1000 w = some true) (h2 : w.size = 2 * o.length) (h3 : impl_runWord.f 1000 (intsTo o.length) w = some (runL (intsTo o.length) cu)) : Ev (fun k => impl_RunWord.f k o w) (runL o cu, true) := by
  have h7 := isOrd_len ho
  have h4 : impl_runWord.f 1000 o w = some (runL o cu) := by
    unfold impl_runWord.f at h3 ⊢
    have h := runWord_map (fun x => nth o (x - 1).toNat) 1000 _ w _ _ _ _ _ h3
    rw [← ord_map h7.2, ← runL_map, ← ord_map h7.2] at h
    exact h
  unfold impl_RunWord.f
  refine Ev.bind (isOrder_ev o (by omega)) (Ev.pos ho (Ev.bind (Ev.of (fun k => impl_isWord.mono _ k) h1) (Ev.pos rfl (Ev.pos ?_ (Ev.bind (Ev.of (fun k => impl_runWord.mono _ _ k) h4) (Ev.val rfl))))))
  rw [h2, w64 (by omega)]
  omega
theorem FnCuts : laws_FnCuts.Pure := by
  intro l0 hm hr hw hv
  have hlen : l0.length ≤ 65536 := by
    unfold laws_rBig.f at hv
    have := of_decide_eq_false (Option.some.inj hv)
    omega
  have hs : CodeB l0 := ⟨by omega, fun x hx => by
    have := hw x hx
    have e0 : IntKind.u8.min = 0 := by decide
    have e1 : IntKind.u8.max = 255 := by decide
    simp [Lit.wf, e0, e1] at this
    omega⟩
  obtain ⟨o, cu, ⟨K0, g0⟩, ho, hcu⟩ := DrawRunCuts_ok hs
  obtain ⟨n, li, ⟨K1, g1⟩, hli⟩ := DrawAreCuts_ok hs
  obtain ⟨a, b, ⟨K2, g2⟩, ha, hb⟩ := DrawCutsTo_ok hs
  obtain ⟨m, kk, g3⟩ := DrawCutsAt_ok hs
  obtain ⟨x, ⟨K4, g4⟩, hx⟩ := DrawRankOfCuts_ok hs
  obtain ⟨p, q, ⟨K5, g5⟩, hp, hq⟩ := DrawTwoCuts_ok hs
  have hol := resRunCuts_length o cu
  have htl := resCutsTo_length a b
  have hfl := resTwoCuts_length p q
  obtain ⟨K6, g6⟩ := implRunCuts_ev o cu (by omega) (by omega)
  obtain ⟨K7, g7⟩ := specRunCuts_ev o cu (by omega) (by omega)
  obtain ⟨K8, g8⟩ := rInts_ev (resRunCuts o cu) (resRunCuts o cu) (by omega)
  obtain ⟨K9, g9⟩ := areCuts_ev n li (by omega)
  obtain ⟨K10, g10⟩ := l6Cuts_ev n li (by omega)
  obtain ⟨K11, g11⟩ := implCutsTo_ev a b (by omega) (by omega)
  obtain ⟨K12, g12⟩ := specCutsTo_ev a b (by omega) (by omega)
  obtain ⟨K13, g13⟩ := rInts_ev (resCutsTo a b) (resCutsTo a b) (by omega)
  obtain ⟨at_, two, ⟨K14, g14⟩, ⟨K15, g15⟩, hat, h16⟩ := ca_all_ev m kk
  obtain ⟨K16, g16⟩ := rInts_ev at_ at_ (by omega)
  obtain ⟨rank, three, wd, ⟨K17, g17⟩, ⟨K18, g18⟩, ⟨K19, g19⟩, ⟨K20, g20⟩, h21⟩ := rank_all x (by omega)
  obtain ⟨K22, g22⟩ := implTwoCuts_ev p q (by omega) (by omega)
  obtain ⟨K23, g23⟩ := specTwoCuts_ev p q (by omega) (by omega)
  obtain ⟨K24, g24⟩ := rInts_ev (resTwoCuts p q).1 (resTwoCuts p q).1 (by omega)
  obtain ⟨K25, g25⟩ := rInts_ev (resTwoCuts p q).2.1 (resTwoCuts p q).2.1 (by omega)
  obtain ⟨K26, g26⟩ := rInts_ev b b (by omega)
  obtain ⟨K27, g27⟩ := rInts_ev q q (by omega)
  obtain ⟨K28, g28⟩ := rInts_ev o o (by omega)
  obtain ⟨K29, g29⟩ := implRunCuts_ev a (resCutsTo a b) (by omega) (by omega)
  obtain ⟨K30, g30⟩ := implRunCuts_ev p (resTwoCuts p q).1 (by omega) (by omega)
  have hml := runL_length (resTwoCuts p q).1 p
  obtain ⟨K31, g31⟩ := implRunCuts_ev (runL p (resTwoCuts p q).1) (resTwoCuts p q).2.1 (by omega) (by omega)
  obtain ⟨K32, g32⟩ := implRunCuts_ev (resRunCuts o cu) cu (by omega) (by omega)
  have h33 : ∃ K, ∀ k, K ≤ k → two = true → impl_RankOfCuts.f k at_ = some (kk, true) := by
    cases two with
    | true => obtain ⟨K, g⟩ := h16 rfl; exact ⟨K, fun k hk _ => g k hk⟩
    | false => exact ⟨0, fun _ _ h => by cases h⟩
  obtain ⟨K33, g33⟩ := h33
  have h34 : ∃ K, ∀ k, K ≤ k → three = true → impl_IsWord.f k wd = some true := by
    cases three with
    | true => obtain ⟨K, g⟩ := h21 rfl; exact ⟨K, fun k hk _ => g k hk⟩
    | false => exact ⟨0, fun _ _ h => by cases h⟩
  obtain ⟨K34, g34⟩ := h34
  have h35 : ∃ (w2 : ByteArray) (K : Nat), ∀ k, K ≤ k → (isOrd o && isCuts (o.length : Int) cu) = true → impl_CutsWord.f k cu = some (w2, true) ∧ impl_RunWord.f k o w2 = some (resRunCuts o cu, true) := by
    cases hb : (isOrd o && isCuts (o.length : Int) cu) with
    | false => exact ⟨⟨#[]⟩, 0, fun _ _ h => by cases h⟩
    | true =>
      rw [Bool.and_eq_true] at hb
      have h7 := isOrd_len hb.1
      obtain ⟨r, w, e1, e2, e3, e4, e5, e6, e7⟩ := cw_ok h7 hb.2
      obtain ⟨KA, gA⟩ := Ev.of (fun k => impl_CutsWord.mono _ k) e3
      obtain ⟨KB, gB⟩ := runWord_ev hb.1 e5 e6 e7
      exact ⟨w, KA + KB, fun k hk _ => ⟨gA k (by omega), by rw [run_is hb.1 hb.2]; exact gB k (by omega)⟩⟩
  obtain ⟨w2d, K35, g35⟩ := h35
  refine ⟨K0 + K1 + K2 + K4 + K5 + K6 + K7 + K8 + K9 + K10 + K11 + K12 + K13 + K14 + K15 + K16 + K17 + K18 + K19 + K20 + K22 + K23 + K24 + K25 + K26 + K27 + K28 + K29 + K30 + K31 + K32 + K33 + K34 + K35, o, cu, resRunCuts o cu, isOrd o && isCuts (o.length : Int) cu, n, li, isCuts n li, a, b, resCutsTo a b, flagCutsTo a b, m, kk, at_, two, x, rank, three, wd, p, q, (resTwoCuts p q).1, (resTwoCuts p q).2.1, (resTwoCuts p q).2.2, runL p (resTwoCuts p q).1, w2d, ?_⟩
  have is1 : ∀ k, impl_AreCuts.f k n li = impl_areCuts.f k n li := fun k => by unfold impl_AreCuts.f; cases impl_areCuts.f k n li <;> rfl
  have is2 : ∀ k, spec_AreCuts.f k n li = spec_l6Cuts.f k n li := fun k => by unfold spec_AreCuts.f; cases spec_l6Cuts.f k n li <;> rfl
  have two_ok : (resTwoCuts p q).2.2 = true → isOrd p = true ∧ isOrd q = true ∧ p.length = q.length ∧ isCuts (p.length : Int) (resTwoCuts p q).1 = true ∧ cutsM 7 (runL p (resTwoCuts p q).1) q = some (resTwoCuts p q).2.1 := fun h => by
    unfold resTwoCuts at h ⊢
    by_cases hc : okTwoCuts p q = true
    · rw [if_pos hc] at h ⊢
      simp only [okTwoCuts, Bool.and_eq_true, decide_eq_true_eq] at hc
      have h7 := isOrd_len hc.1
      obtain ⟨c, hm, r, h1, h2⟩ := tcM_true p q _ h
      obtain ⟨i, hi, e⟩ := List.mem_iff_getElem.1 hm
      have h5 := ((cutsT_at p.length h7.1 h7.2).2.2 i hi).2
      rw [List.getD_eq_getElem?_getD, List.getElem?_eq_getElem hi, Option.getD_some, e] at h5
      rw [h2]
      exact ⟨hc.1, hc.2.1, hc.2.2, h5, h1⟩
    · rw [if_neg hc] at h; cases h
  exact {
    f55 := hv
    f58 := g0 _ (by omega)
    f64 := g6 _ (by omega)
    f70 := g7 _ (by omega)
    f79 := (g8 _ (by omega)).trans (by simp)
    f84 := g1 _ (by omega)
    f89 := (is1 _).trans (g9 _ (by omega))
    f92 := (is2 _).trans (g10 _ (by omega))
    f96 := g2 _ (by omega)
    f102 := g11 _ (by omega)
    f108 := g12 _ (by omega)
    f117 := (g13 _ (by omega)).trans (by simp)
    f122 := g3
    f128 := g14 _ (by omega)
    f134 := g15 _ (by omega)
    f143 := (g16 _ (by omega)).trans (by simp)
    f147 := g4 _ (by omega)
    f150 := g17 _ (by omega)
    f155 := g18 _ (by omega)
    f168 := g19 _ (by omega)
    f173 := g20 _ (by omega)
    f191 := g5 _ (by omega)
    f197 := g22 _ (by omega)
    f204 := g23 _ (by omega)
    f214 := (g24 _ (by omega)).trans (by simp)
    f220 := (g25 _ (by omega)).trans (by simp)
    bb := (g26 _ (by omega)).trans (by simp)
    qq := (g27 _ (by omega)).trans (by simp)
    oo := (g28 _ (by omega)).trans (by simp)
    l1 := fun h => by
      refine (g29 _ (by omega)).trans ?_
      unfold flagCutsTo at h
      by_cases hc : okCutsTo a b = true
      · have hc' := hc
        rw [if_pos hc] at h
        simp only [okCutsTo, Bool.and_eq_true, decide_eq_true_eq] at hc'
        have h7 := isOrd_len hc'.1
        cases e : cutsM 7 a b with
        | none => rw [e] at h; simp [cutsR] at h
        | some r =>
          have er : resCutsTo a b = r := by unfold resCutsTo; rw [if_pos hc, e]; simp [cutsR]
          obtain ⟨k1, k2⟩ := cutsM_run 7 a b r (by omega) (Twin.ord hc'.1 hc'.2.1 hc'.2.2) e
          have k3 := isCuts_of hc'.1 k2
          rw [er, run_is hc'.1 k3, k1, hc'.1, k3]; rfl
      · rw [if_neg hc] at h; cases h
    l2 := g33 _ (by omega)
    l3 := g34 _ (by omega)
    l4 := fun h => by
      obtain ⟨k1, k2, k3, k4, k5⟩ := two_ok h
      refine (g30 _ (by omega)).trans ?_
      rw [run_is k1 k4, k1, k4]; rfl
    l5 := fun h => by
      obtain ⟨k1, k2, k3, k4, k5⟩ := two_ok h
      refine (g31 _ (by omega)).trans ?_
      obtain ⟨k6, k7⟩ := runL_ord k1 k4
      have h7 := isOrd_len k6
      obtain ⟨k8, k9⟩ := cutsM_run 7 _ q _ h7.2 (Twin.ord k6 k2 (by omega)) k5
      have k10 := isCuts_of k6 k9
      rw [run_is k6 k10, k8, k6, k10]; rfl
    l6 := fun h => by
      refine (g32 _ (by omega)).trans ?_
      rw [Bool.and_eq_true] at h
      obtain ⟨k6, k7⟩ := runL_ord h.1 h.2
      have k8 : isCuts ((runL o cu).length : Int) cu = true := by rw [k7]; exact h.2
      have k9 := runL_back cu o (by have := h.2; simp only [isCuts, Bool.and_eq_true] at this; exact this.2)
      rw [run_is h.1 h.2, run_is k6 k8, k9, k6, k8]; rfl
    l7 := fun h => (g35 _ (by omega) h).1
    l8 := fun h => (g35 _ (by omega) h).2 }
end Go.Proofs.Ytbnieikbjmfhgaa.Pure
