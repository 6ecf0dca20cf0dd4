/- Small lemmas for the walks of this claim that are typed by hand: rows of rows, one of which is written; two such rows beside each other; stores in regions that draw. -/
import Derived.Test.YtidiondgfoolbaaJ
import Derived.Test.YtidiondgfoolbaaWWords
import Derived.Test.YtidiondgfoolbaaWLast
import Derived.Test.YtidiondgfoolbaaWApart
import Derived.Test.YtidiondgfoolbaaWKept
import Derived.IntWalk
set_option linter.unusedVariables false
set_option linter.unusedSimpArgs false
namespace Go.Proofs.YtidiondgfoolbaaW.PrintWords
open Go.RowKit Go.Proofs.YtidiondgfoolbaaW.PrintLast Go.Proofs.YtidiondgfoolbaaW.PrintMore
def Two (k : IntKind) (e e' : Nat) (W : World) (base : Nat) (v : Value) (xs : List (List Int)) (u : Value) (ys : List (List Int)) : Prop :=
  ∃ P Q : Nat → Prop, Kd.S (Kd.slice e (Kd.int k)) e' W base P v xs ∧ Kd.S (Kd.slice e (Kd.int k)) e' W base Q u ys ∧ ∀ q, P q → ¬ Q q
namespace Two
variable {k : IntKind} {e e' base : Nat} {W W1 : World} {P Q : Nat → Prop} {v v1 u : Value} {xs xs' ys : List (List Int)}
theorem below (h : Two k e e' W base v xs u ys) (hb : Below W.heap.size W W1) : Two k e e' W1 base v xs u ys := by
  obtain ⟨P, Q, h1, h2, h3⟩ := h
  exact ⟨P, Q, Kd.S_below h1 hb, Kd.S_below h2 hb, h3⟩
theorem one (h2 : Kd.S (Kd.slice e (Kd.int k)) e' W base Q u ys) (h3 : ∀ q, P q → ¬ Q q) (h1 : Kd.S (Kd.slice e (Kd.int k)) e' W1 base (fun q => P q ∨ W.heap.size ≤ q) v1 xs') (hk : Kept W W1 P) : Two k e e' W1 base v1 xs' u ys := by
  refine ⟨_, fun q => Q q ∧ q < W.heap.size, h1, Kd.S_mono (Kd.S_kept (Kd.S_bound h2) hk (fun q hq hp => h3 q hp hq.1)) (fun q hq => ⟨hq.1, hq.2.2.1⟩), fun q hq hq2 => ?_⟩
  rcases hq with hq | hq
  · exact h3 q hq hq2.1
  · have := hq2.2; omega
end Two
end Go.Proofs.YtidiondgfoolbaaW.PrintWords
