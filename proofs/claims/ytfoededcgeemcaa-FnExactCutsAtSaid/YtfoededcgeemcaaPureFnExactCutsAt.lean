/- The program's CutsAt returns what the reference's returns, for all numbers, in memory of its own. -/
import Derived.Test.YtfoededcgeemcaaPFnExactCutsAtx3
import Derived.Test.YtfoededcgeemcaaK
set_option linter.unusedVariables false
set_option linter.unusedSimpArgs false
namespace Go.Proofs.Ytfoededcgeemcaa.Pure
open Go.RowKit Go.Proofs.Ytfoededcgeemcaa.PFnExactCutsAt Go.Proofs.YtfoededcgeemcaaW.PrintWords Go.Proofs.YtfoededcgeemcaaW.PrintLast Go.Proofs.YtfoededcgeemcaaW.PrintMore

theorem eqIntS_l (a b : List Int) (hn : a.length ≤ 17592186044416) (hl : a.length = b.length) : ∀ (d i : Nat), a.length = i + d → Ev (fun k => laws_eqIntS.l0 k a b i) (decide (a.drop i = b.drop i))
  | 0, i, h => by
    refine Ev.step (fun k => by rw [laws_eqIntS.l0]) ?_
    refine Ev.neg (by omega) (Ev.val ?_)
    rw [List.drop_of_length_le (by omega), List.drop_of_length_le (by omega)]
    simp
  | d + 1, i, h => by
    refine Ev.step (fun k => by rw [laws_eqIntS.l0]) ?_
    refine Ev.pos (by omega) (Ev.pos (by omega) (Ev.pos (by omega) ?_))
    have e : wrap64 ((i : Int) + 1) = ((i + 1 : Nat) : Int) := by rw [w64 (by omega)]; omega
    simp only [e]
    rw [drop_step a i (by omega), drop_step b i (by omega)]
    refine Ev.ite (fun hc => ?_) (fun hc => Ev.val ?_)
    · have hc' : nth a i = nth b i := hc
      refine (eqIntS_l a b hn hl d (i + 1) (by omega)).to ?_
      rw [hc']
      simp
    · have hc' : ¬ nth a i = nth b i := hc
      simp [hc']
theorem eqIntS_ev (a b : List Int) (hn : a.length ≤ 17592186044416) : Ev (fun k => laws_eqIntS.f k a b) (decide (a = b)) := by
  unfold laws_eqIntS.f
  refine Ev.ite (fun hc => ?_) (fun hc => Ev.val ?_)
  · exact (eqIntS_l a b hn (by omega) a.length 0 (by omega)).to (by simp)
  · have : ¬ a = b := fun h => hc (by rw [h])
    simp [this]

theorem markIntS_l : ∀ (d i : Nat) (x0 : List Int) (x1 : Int), x0.length = i + d → x0.length ≤ 17592186044416 → -1000000000000000000 ≤ x1 → x1 + d ≤ 1000000000000000000 → Ev (fun k => laws_markIntS.l0 k x0 x1 i) (x1 + d, x0.take i ++ marked x1 d)
  | 0, i, x0, x1, h, hn, h1, h2 => by
    refine Ev.step (fun k => by rw [laws_markIntS.l0]) ?_
    refine Ev.neg (by omega) (Ev.val ?_)
    rw [List.take_of_length_le (by omega)]
    simp [marked]
  | d + 1, i, x0, x1, h, hn, h1, h2 => by
    refine Ev.step (fun k => by rw [laws_markIntS.l0]) ?_
    refine Ev.pos (by omega) (Ev.pos (by omega) ?_)
    have e : wrap64 ((i : Int) + 1) = ((i + 1 : Nat) : Int) := by rw [w64 (by omega)]; omega
    have e1 : wrap64 (x1 + 1) = x1 + 1 := w64 (by omega)
    simp only [e, e1, Int.toNat_natCast]
    refine (markIntS_l d (i + 1) (x0.set i x1) (x1 + 1) (by simpa using (by omega)) (by simpa using hn) (by omega) (by omega)).to ?_
    rw [take_set_succ _ _ _ (by omega)]
    simp [marked]
    omega
theorem markIntS_ev (l : List Int) (a : Int) (hn : l.length ≤ 17592186044416) (h1 : -1000000000000000 ≤ a) (h2 : a ≤ 1000000000000000) : Ev (fun k => laws_markIntS.f k l a) (a + l.length, marked a l.length) := by
  unfold laws_markIntS.f
  exact (markIntS_l l.length 0 l a (by omega) hn (by omega) (by omega)).to (by simp)

theorem heldIntS_l (n : Nat) (a : Int) (hn : n ≤ 17592186044416) (h1 : -1000000000000000 ≤ a) (h2 : a ≤ 1000000000000000) : ∀ (d i : Nat), n = i + d → Ev (fun k => laws_heldIntS.l0 k (marked a n) (a + i) i) (a + n)
  | 0, i, h => by
    refine Ev.step (fun k => by rw [laws_heldIntS.l0]) ?_
    refine Ev.neg (by rw [marked_length]; omega) (Ev.val ?_)
    omega
  | d + 1, i, h => by
    refine Ev.step (fun k => by rw [laws_heldIntS.l0]) ?_
    refine Ev.pos (by rw [marked_length]; omega) (Ev.pos (by omega) (Ev.pos (by rw [rd_nat, marked_nth n a i (by omega)]) ?_))
    have e : wrap64 ((i : Int) + 1) = ((i + 1 : Nat) : Int) := by rw [w64 (by omega)]; omega
    have e1 : wrap64 (a + i + 1) = a + ((i + 1 : Nat) : Int) := by rw [w64 (by omega)]; omega
    simp only [e, e1]
    exact heldIntS_l n a hn h1 h2 d (i + 1) (by omega)
theorem heldIntS_ev (n : Nat) (a : Int) (hn : n ≤ 17592186044416) (h1 : -1000000000000000 ≤ a) (h2 : a ≤ 1000000000000000) : Ev (fun k => laws_heldIntS.f k (marked a n) a) (a + n) := by
  unfold laws_heldIntS.f
  have := heldIntS_l n a hn h1 h2 n 0 (by omega)
  rw [show a + ((0 : Nat) : Int) = a by omega] at this
  exact this

theorem l1In_is (a b c : Int) : spec_l1In.f a b c = some (decide (b ≤ a ∧ a ≤ c)) := by
  unfold spec_l1In.f
  by_cases h : a ≥ b
  · rw [if_pos h]; simp [h]
  · rw [if_neg h]; simp; omega

theorem isSize_is (a : Int) : impl_isSize.f a = some (decide (1 ≤ a ∧ a ≤ 7)) := by
  unfold impl_isSize.f
  by_cases h : a ≥ 1
  · rw [if_pos h]; simp [h]
  · rw [if_neg h]; simp; omega

set_option maxRecDepth 100000 in
set_option maxHeartbeats 100000000 in
theorem at_each : ∀ n ∈ [1, 2, 3, 4, 5, 6, 7], ∀ k ∈ List.range (2 ^ (n - 1)), laws_FnExactCutsAt.f 300 ((n : Nat) : Int) (k : Int) = some true := by decide +kernel
theorem bad_law (n k : Int) (h1 : ∀ q, spec_CutsAt.f q n k = some ([], false)) (h2 : ∀ q, impl_CutsAt.f q n k = some ([], false)) : ∃ q, laws_FnExactCutsAt.f q n k = some true := by
  refine Ev.rounds (?_ : Ev (fun q => laws_FnExactCutsAt.f q n k) true)
  unfold laws_FnExactCutsAt.f
  simp only [h1, h2, Option.bind_some]
  have e : marked 1 0 = [] := rfl
  have hm := markIntS_ev [] 1 (by simp) (by omega) (by omega)
  have hh := heldIntS_ev 0 1 (by omega) (by omega) (by omega)
  simp only [List.length_nil, e] at hm hh
  refine Ev.bind (eqIntS_ev [] [] (by simp)) (Ev.pos (by simp) ?_)
  refine Ev.step (fun q => by rw [laws_FnExactCutsAt.j0]) ?_
  refine Ev.neg (by simp) ?_
  refine Ev.bind hm ?_
  refine Ev.bind hh ?_
  refine Ev.neg (by simp) (Ev.pos (by simp) ?_)
  simp only [h2, Option.bind_some]
  refine Ev.bind (eqIntS_ev [] [] (by simp)) (Ev.pos (by simp) ?_)
  refine Ev.step (fun q => by rw [laws_FnExactCutsAt.j1]) ?_
  refine Ev.neg (by simp) ?_
  refine Ev.bind hh ?_
  exact Ev.neg (by simp) (Ev.pos (by simp) (Ev.val rfl))
theorem FnExactCutsAt : laws_FnExactCutsAt.Pure := by
  intro n k _ _
  by_cases hn : 1 ≤ n ∧ n ≤ 7
  · have key : ∀ (m : Nat) (b : Int), n = (m : Int) → m ∈ [1, 2, 3, 4, 5, 6, 7] → shl .i64 1 (wrap64 (n - 1)) = b → b = ((2 ^ (m - 1) : Nat) : Int) → b ≤ 64 → 0 < b → ∃ q, laws_FnExactCutsAt.f q n k = some true := by
      intro m b e hm hs hb hb2 hb3
      by_cases hk : 0 ≤ k ∧ k < b
      · obtain ⟨j, rfl⟩ := Int.eq_ofNat_of_zero_le hk.1
        subst e
        exact ⟨300, at_each m hm j (by rw [List.mem_range]; omega)⟩
      · have e1 : wrap64 (n - 1) = n - 1 := w64 (by omega)
        have e2 : wrap64 (b - 1) = b - 1 := w64 (by omega)
        refine bad_law n k (fun q => ?_) (fun q => ?_)
        · unfold spec_CutsAt.f
          simp only [l1In_is, Option.bind_some]
          rw [if_pos (by simp; omega), if_pos (by rw [e1]; omega)]
          rw [hs, e2, if_neg (by simp; omega)]
        · unfold impl_CutsAt.f
          simp only [isSize_is, Option.bind_some]
          rw [if_pos (by simp; omega)]
          by_cases h0 : k < 0
          · rw [if_pos h0]
          · rw [if_neg h0, if_pos (by rw [e1]; omega), hs, if_pos (by omega)]
    have hc : n = 1 ∨ n = 2 ∨ n = 3 ∨ n = 4 ∨ n = 5 ∨ n = 6 ∨ n = 7 := by omega
    rcases hc with rfl | rfl | rfl | rfl | rfl | rfl | rfl
    · exact key 1 1 rfl (by simp) (by decide +kernel) rfl (by decide) (by decide)
    · exact key 2 2 rfl (by simp) (by decide +kernel) rfl (by decide) (by decide)
    · exact key 3 4 rfl (by simp) (by decide +kernel) rfl (by decide) (by decide)
    · exact key 4 8 rfl (by simp) (by decide +kernel) rfl (by decide) (by decide)
    · exact key 5 16 rfl (by simp) (by decide +kernel) rfl (by decide) (by decide)
    · exact key 6 32 rfl (by simp) (by decide +kernel) rfl (by decide) (by decide)
    · exact key 7 64 rfl (by simp) (by decide +kernel) rfl (by decide) (by decide)
  · refine bad_law n k (fun q => ?_) (fun q => ?_)
    · unfold spec_CutsAt.f
      simp only [l1In_is, Option.bind_some]
      rw [if_neg (by simp; omega)]
    · unfold impl_CutsAt.f
      simp only [isSize_is, Option.bind_some]
      rw [if_neg (by simp; omega)]

end Go.Proofs.Ytfoededcgeemcaa.Pure
