/- Small lemmas for the walks of this claim that are typed by hand: rows of rows, one of which is written; two such rows beside each other; stores in regions that draw. -/
import Derived.Test.YtnfcopikfbnheaaJ
import Derived.Test.YtnfcopikfbnheaaG
set_option linter.unusedVariables false
set_option linter.unusedSimpArgs false
namespace Go.Proofs.YtnfcopikfbnheaaW.PrintWords
open Go.RowKit Go.Proofs.YtnfcopikfbnheaaW.PrintLast Go.Proofs.YtnfcopikfbnheaaW.PrintMore
namespace Kd
section
variable {k : IntKind} {e e' base : Nat} {W w1 w2 : World} {ok okA : Nat → Prop} {v v1 vj : Value} {xs : List (List Int)} {g n cap j : Nat} {y : List Int} {cur : Array Value}
/-- Row j: its value in the outer row's cells, its numbers. -/
theorem S_rowAt (h : S (slice e (Kd.int k)) e' W base ok (.slice (some ⟨g, 0, none⟩) n cap) xs) (hj : j < xs.length) :
    n = xs.length ∧ ok g ∧ base ≤ g ∧ ∃ (cur : Array Value) (vj : Value), W.heap[g]? = some (.cells cur e' (0, 0)) ∧ cur.size = cap ∧ n ≤ cap ∧ cur[j]? = some vj ∧ (Kd.int k).R e W base (fun q => ok q ∧ q ≠ g) vj (xs.getD j []) := by
  obtain ⟨h1, h2, h3, h4, h5, cur, f, h6, h7, h8⟩ := S_open h
  obtain ⟨vj, h9, h10⟩ := h8 j (xs.getD j []) (by rw [List.getD_eq_getElem?_getD, List.getElem?_eq_getElem hj]; rfl)
  exact ⟨h1, h2, h3, cur, vj, h6, h7, h4, h9, R_mono h10 (fun q hq => hq.1)⟩
/-- Row j has been written, and its value laid into the outer row. -/
theorem S_upd (h : S (slice e (Kd.int k)) e' W base ok (.slice (some ⟨g, 0, none⟩) n cap) xs) (hb : W.heap[g]? = some (.cells cur e' (0, 0))) (hj : j < xs.length) (hc : cur[j]? = some vj)
    (hv : (Kd.int k).R e w1 base okA v1 y) (hg1 : W.grownBy w1 vj.ownBlock) (hat : v1.ownBlock = vj.ownBlock ∨ ∃ b, v1.ownBlock = some b ∧ W.heap.size ≤ b)
    (hw : w2.heap[g]? = some (.cells (cur.setIfInBounds j v1) e' (0, 0))) (hg2 : w1.grownBy w2 (some g)) : S (slice e (Kd.int k)) e' w2 base (fun q => ok q ∨ W.heap.size ≤ q) (.slice (some ⟨g, 0, none⟩) n cap) (xs.set j y) := by
  obtain ⟨h1, h2, h3, h4, h5, cur', f, h6, h7, h8⟩ := S_open h
  rw [hb] at h6
  injection h6 with h6
  injection h6 with h6
  subst h6
  have hgl := blk_lt hb
  refine S_close (f := fun q => if W.heap.size ≤ q then j else f q) (.inl h2) h3 (by rw [List.length_set]; exact h1) h4 h5 hw (by simpa using h7) fun i x hi => ?_
  have hil : i < xs.length := by
    have := (List.getElem?_eq_some_iff.1 hi).1
    rwa [List.length_set] at this
  obtain ⟨vj', h9, h10⟩ := h8 j (xs.getD j []) (by rw [List.getD_eq_getElem?_getD, List.getElem?_eq_getElem hj]; rfl)
  rw [hc] at h9
  injection h9 with h9
  subst h9
  by_cases e1 : i = j
  · subst e1
    rw [List.getElem?_set_self hil] at hi
    injection hi with hi
    subst hi
    refine ⟨v1, Array.getElem?_setIfInBounds_self_of_lt (by omega), ?_⟩
    have ht := R_tight rfl hv
    refine R_mono (R_grown ht hg2 (fun q hq he => ?_)) (fun q hq => ?_)
    · injection he with he
      subst he
      rcases hat with hat | ⟨b, hb', hle⟩
      · exact (h10.1 q (by rw [← hat, ← hq])).1.2 rfl
      · rw [hb'] at hq
        injection hq with hq
        omega
    · rcases hat with hat | ⟨b, hb', hle⟩
      · have h11 := h10.1 q (by rw [← hat, ← hq])
        refine ⟨⟨.inl h11.1.1, h11.1.2⟩, ?_⟩
        show (if W.heap.size ≤ q then i else f q) = i
        split
        · rfl
        · exact h11.2
      · rw [hb'] at hq
        injection hq with hq
        subst hq
        refine ⟨⟨.inr hle, by omega⟩, ?_⟩
        show (if W.heap.size ≤ q then i else f q) = i
        rw [if_pos hle]
  · rw [List.getElem?_set_ne (fun h => e1 h.symm)] at hi
    obtain ⟨vi, h11, h12⟩ := h8 i x hi
    refine ⟨vi, by rw [Array.getElem?_setIfInBounds_ne (fun h => e1 h.symm)]; exact h11, ?_⟩
    refine R_mono (R_grown (R_grown (R_bound h12) hg1 (fun q hq he => ?_)) hg2 (fun q hq he => ?_)) (fun q hq => ?_)
    · have h13 := h10.1 q he.symm
      exact e1 (hq.1.2.symm.trans h13.2)
    · injection he with he
      exact hq.1.1.2 he
    · have h14 : q < W.heap.size := hq.2.2.1
      refine ⟨⟨.inl hq.1.1.1, hq.1.1.2⟩, ?_⟩
      show (if W.heap.size ≤ q then j else f q) = i
      rw [if_neg (by omega)]
      exact hq.1.2
/-- Row j has been written in place. -/
theorem S_updIn (h : S (slice e (Kd.int k)) e' W base ok (.slice (some ⟨g, 0, none⟩) n cap) xs) (hb : W.heap[g]? = some (.cells cur e' (0, 0))) (hj : j < xs.length) (hc : cur[j]? = some vj)
    (hv : (Kd.int k).R e w1 base okA vj y) (hg1 : W.grownBy w1 vj.ownBlock) : S (slice e (Kd.int k)) e' w1 base ok (.slice (some ⟨g, 0, none⟩) n cap) (xs.set j y) := by
  obtain ⟨h1, h2, h3, h4, h5, cur', f, h6, h7, h8⟩ := S_open h
  rw [hb] at h6
  injection h6 with h6
  injection h6 with h6
  subst h6
  obtain ⟨vj', h9, h10⟩ := h8 j (xs.getD j []) (by rw [List.getD_eq_getElem?_getD, List.getElem?_eq_getElem hj]; rfl)
  rw [hc] at h9
  injection h9 with h9
  subst h9
  refine S_close (f := f) h2 h3 (by rw [List.length_set]; exact h1) h4 h5 (blk_grown hb hg1 (fun he => (h10.1 g he.symm).1.2 rfl)) h7 fun i x hi => ?_
  have hil : i < xs.length := by
    have := (List.getElem?_eq_some_iff.1 hi).1
    rwa [List.length_set] at this
  by_cases e1 : i = j
  · subst e1
    rw [List.getElem?_set_self hil] at hi
    injection hi with hi
    subst hi
    exact ⟨vj, hc, R_mono (R_tight rfl hv) (fun q hq => h10.1 q hq.symm)⟩
  · rw [List.getElem?_set_ne (fun h => e1 h.symm)] at hi
    obtain ⟨vi, h11, h12⟩ := h8 i x hi
    refine ⟨vi, h11, R_grown h12 hg1 (fun q hq he => e1 (hq.2.symm.trans (h10.1 q he.symm).2))⟩
theorem S_formed (h : S (slice e (Kd.int k)) e' W base ok v xs) (hp : 0 < xs.length) : ∃ g cap, v = .slice (some ⟨g, 0, none⟩) xs.length cap := by
  obtain ⟨g, cap, h1, _⟩ := S_form h hp
  exact ⟨g, cap, h1⟩
end
end Kd
/-- Two rows of rows that share nothing. -/
def Two (k : IntKind) (e e' : Nat) (W : World) (base : Nat) (v : Value) (xs : List (List Int)) (u : Value) (ys : List (List Int)) : Prop :=
  ∃ P Q : Nat → Prop, Kd.S (Kd.slice e (Kd.int k)) e' W base P v xs ∧ Kd.S (Kd.slice e (Kd.int k)) e' W base Q u ys ∧ ∀ q, P q → ¬ Q q
namespace Two
variable {k : IntKind} {e e' base : Nat} {W W1 : World} {P Q : Nat → Prop} {v v1 u : Value} {xs xs' ys : List (List Int)}
theorem swap (h : Two k e e' W base v xs u ys) : Two k e e' W base u ys v xs := by
  obtain ⟨P, Q, h1, h2, h3⟩ := h
  exact ⟨Q, P, h2, h1, fun q hq hp => h3 q hp hq⟩
theorem below (h : Two k e e' W base v xs u ys) (hb : Below W.heap.size W W1) : Two k e e' W1 base v xs u ys := by
  obtain ⟨P, Q, h1, h2, h3⟩ := h
  exact ⟨P, Q, Kd.S_below h1 hb, Kd.S_below h2 hb, h3⟩
/-- the first one has been written, and nothing else that was there -/
theorem one (h2 : Kd.S (Kd.slice e (Kd.int k)) e' W base Q u ys) (h3 : ∀ q, P q → ¬ Q q) (h1 : Kd.S (Kd.slice e (Kd.int k)) e' W1 base (fun q => P q ∨ W.heap.size ≤ q) v1 xs') (hk : Kept W W1 P) : Two k e e' W1 base v1 xs' u ys := by
  refine ⟨_, fun q => Q q ∧ q < W.heap.size, h1, Kd.S_mono (Kd.S_kept (Kd.S_bound h2) hk (fun q hq hp => h3 q hp hq.1)) (fun q hq => ⟨hq.1, hq.2.2.1⟩), fun q hq hq2 => ?_⟩
  rcases hq with hq | hq
  · exact h3 q hq hq2.1
  · have := hq2.2; omega
end Two
theorem kept_of_grown {W W1 : World} {P : Nat → Prop} {row : Option Nat} (hg : W.grownBy W1 row) (hr : ∀ q, row = some q → P q) : Kept W W1 P := ⟨hg.size, fun i hi hn => hg.block i hi (fun he => hn (hr i he.symm))⟩
section
variable {P : Program} {ops : Array Oper} {o : Oper} {a : Act} {Q : Exit → Act → World → Prop} {Kc : Act → World → Prop} {W w1 : World}
theorem skip_step (hw : Region.wanted o (yielded ops a.tmps) = true) (hN : o.dst = none) (hrun : (execOp a.eval o).run P W = .ok .skip w1) (h : Kc a w1) : if Region.wanted o (yielded ops a.tmps) = true then Oper.wp P o a W Kc Q else Kc (a.put o.dst undef) W := by
  rw [if_pos hw]
  unfold Oper.wp
  rw [hrun]
  show Kc (a.put o.dst undef) w1
  rw [hN]
  exact h
end
end Go.Proofs.YtnfcopikfbnheaaW.PrintWords
namespace Go.Proofs.YtnfcopikfbnheaaW.PrintWords
open Go.RowKit
theorem set_toList (cur : Array Value) (j : Nat) (v : Value) (hj : j < cur.size) : (cur.setIfInBounds j v).toList = cur.toList.take j ++ [v] ++ cur.toList.drop (j + [v].length) := by
  rw [Array.toList_setIfInBounds, List.length_singleton]
  apply List.ext_getElem?
  intro i
  by_cases h1 : i < j
  · rw [List.getElem?_set_ne (by omega), List.append_assoc, List.getElem?_append_left (by simp; omega), List.getElem?_take, if_pos h1]
  · by_cases h2 : i = j
    · subst h2
      rw [List.getElem?_set_self (by simpa using hj), List.append_assoc, List.getElem?_append_right (by simp; omega)]
      simp [Nat.min_eq_left (Nat.le_of_lt hj)]
    · rw [List.getElem?_set_ne (fun h => h2 h.symm), List.getElem?_append_right (by simp; omega), List.getElem?_drop]
      congr 1
      simp
      omega
end Go.Proofs.YtnfcopikfbnheaaW.PrintWords
