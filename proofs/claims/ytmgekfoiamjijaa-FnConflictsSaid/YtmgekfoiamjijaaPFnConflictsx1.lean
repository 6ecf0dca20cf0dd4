-- laid by mkprint.py, a program of this claim's writer, over the kit's print program; parts of it are typed by hand
import Derived.ChangeKeysEq
import Derived.Test.YtmgekfoiamjijaaPFnConflictsx0
namespace Go.Proofs.Ytmgekfoiamjijaa.PFnConflicts
open Go.RowKit Go.Proofs.YtmgekfoiamjijaaW.PrintWords Go.Proofs.YtmgekfoiamjijaaW.PrintLast Go.Proofs.YtmgekfoiamjijaaW.PrintMore
attribute [local go_sem] max2_int min2_int max_two min_two max_three min_three max_four min_four
set_option linter.unusedVariables false
set_option linter.unusedSimpArgs false
theorem eqA41 (d : Nat) (w : World) (x0 y0 : Int) (x1 y1 : Int) :
    (Op.equalIn (d + 2) 41 (.agg #[.int .i64 x0, .int .i64 x1]) (.agg #[.int .i64 y0, .int .i64 y1])).run Try.prog w = .ok (x0 == y0 && (x1 == y1)) w := by
  obtain ⟨i_, hi_, -, -, -⟩ := info_parts info3
  rw [Go.run_equalIn_array (P := Try.prog) w (d + 1) _ _ Try.underlying41 hi_, show Try.prog.cellsOf 3 = 1 from by kernel_rfl]
  have hp_ : ∀ (xs : Array Value) (off : Nat) (v : Value), xs[off]? = some v → (part 3 xs off).run Try.prog w = .ok v w := fun xs off v h => run_part_plain w (by kernel_rfl) h
  have he_ : ∀ a b : Int, (Op.equalIn (d + 1) 3 (.int .i64 a) (.int .i64 b)).run Try.prog w = .ok (a == b) w := fun a b => by simp [Op.equalIn, run_underlying Try.underlying3]
  obtain ⟨b0, hb0⟩ : ∃ b, (x0 == y0) = b := ⟨_, rfl⟩
  have e0 := he_ x0 y0
  rw [hb0] at e0 ⊢
  obtain ⟨b1, hb1⟩ : ∃ b, (x1 == y1) = b := ⟨_, rfl⟩
  have e1 := he_ x1 y1
  rw [hb1] at e1 ⊢
  clear he_ hi_
  cases b0 <;> cases b1 <;> simp [Op.eqItems, List.range, List.range.loop, hp_ #[.int .i64 x0, .int .i64 x1] 0 (.int .i64 x0) rfl, hp_ #[.int .i64 x0, .int .i64 x1] 1 (.int .i64 x1) rfl, hp_ #[.int .i64 y0, .int .i64 y1] 0 (.int .i64 y0) rfl, hp_ #[.int .i64 y0, .int .i64 y1] 1 (.int .i64 y1) rfl, e0, e1]
end Go.Proofs.Ytmgekfoiamjijaa.PFnConflicts
