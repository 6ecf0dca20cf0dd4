/- Small lemmas for the walks of this claim that are typed by hand. -/
import Derived.Test.YtidiondgfoolbaaWWords
import Derived.Test.YtidiondgfoolbaaWLast
import Derived.Test.YtidiondgfoolbaaWMore
import Derived.IntWalk
import Derived.Lib.Walk
import Derived.Shelf.Abstract
import Derived.Lib.LazyBuf
import Derived.Lib.Bytealg
import Derived.Lib.Strings
import Derived.WalkKit
import Derived.Lib.OwnBridge
import Derived.Shelf.Slices.Delete
namespace Go.Proofs.YtidiondgfoolbaaW.PrintWords
open Go.RowKit Go.Proofs.YtidiondgfoolbaaW.PrintLast
section
variable {P : Program} {ops : Array Oper} {Q : Exit → Act → World → Prop} {rest : List Oper} {o : Oper} {a : Act} {w : World}
theorem gate_value {x : Tmp} {xs : Array Operand} {ts : Array TypeId} (_ho : o.op = .call { callee := .value (.tmp x), args := xs, argTypes := ts }) (h : wpList P ops Q (o :: rest) a w) : wpList P ops Q (o :: rest) a w := h
theorem goesV_ (N : Option Tmp) (hd : o.dst = N) (hg : o.guard = none) {f : FuncId} (eg : ∀ args w, (callFunc f args).run P w = .ok (.enter f args) w) (lb : Array Value) {x : Operand} {xs : Array Operand} {ts : Array TypeId} (args : Array Value)
    (hop : o.op = .call { callee := .value x, args := xs, argTypes := ts }) (hx : a.eval x = .func (.func f) #[] lb) (hargs : xs.map a.eval = args)
    (h : Calls P f (args ++ lb) w fun e w' => ∃ v, e = .returned v ∧ wpList P ops Q rest (a.put N v) w') : wpList P ops Q (o :: rest) a w := by
  refine wpList_plain hg fun K hK => ?_
  have hrun : (execOp a.eval o).run P w = .ok (.enter f (args ++ lb)) w := by
    unfold execOp
    have hx' : a.eval x = .func (.func f) #[] lb := hx
    simp [hop, resolve, Deferred.ofValue, invoke, hargs, eg, hx']
  unfold Oper.wp
  rw [hrun, Oper.upon_enter]
  refine h.mono fun e w'' hh => ?_
  obtain ⟨v, rfl, hk⟩ := hh
  subst hd
  exact hK _ _ hk
end
theorem own_map (A : Option Addr) (n c : Nat) : (Value.slice A n c).ownBlock = A.map (·.block) := by cases A <;> rfl
theorem blk_later {w Wc W' : World} {g : Nat} {o : Obj} (hb : Below Wc.heap.size Wc W') (h : w.heap[g]? = some o) (he : Wc.heap = w.heap) : W'.heap[g]? = some o := blk_below (by rw [he]; exact h) hb
def clo_ {α : Type} (_n : Nat) (_caps : α) : ByteArray := ⟨#[]⟩
theorem Drawn0.trans {w w1 w2 : World} (h : Drawn0 w w1) (k : Drawn0 w1 w2) : Drawn0 w w2 := by
  obtain ⟨n, rfl⟩ := k
  exact Drawn0.step h n
def idxF {α : Type} (p : α → Bool) : List α → Int
  | [] => -1
  | x :: l => if p x = true then 0 else if idxF p l < 0 then -1 else idxF p l + 1
theorem idxF_ge {α : Type} (p : α → Bool) (l : List α) : -1 ≤ idxF p l ∧ idxF p l < l.length := by
  induction l with
  | nil => simp [idxF]
  | cons y l ih =>
    simp only [idxF, List.length_cons]
    split
    · omega
    · split <;> omega
theorem goesG_ {P : Program} {ops : Array Oper} {Q : Exit → Act → World → Prop} {rest : List Oper} {oi : Oper} {a : Act} {w : World} (N : Option Tmp) (hd : oi.dst = N) (hw : Region.wanted oi (yielded ops a.tmps) = true) {f : FuncId} {fn : Func} {as_ : Array Operand} {ts : Array TypeId} (hf : P.funcs[f]? = some fn) (hname : (fn.name == "runtime.NumGoroutine") = false) (hb : fn.body.isSome = true) (args : Array Value)
    (hop : oi.op = .call { callee := .value (.func f), args := as_, argTypes := ts }) (hargs : as_.map a.eval = args)
    (h : Calls P f args w fun e w' => ∃ v, e = .returned v ∧ wpList P ops Q rest (a.put N v) w') : wpList P ops Q (oi :: rest) a w := by
  subst hd
  refine wpList_step fun K hK => ?_
  refine goes_ hf hname hb args hw rfl hop hargs (h.mono fun e w'' hh => ?_)
  obtain ⟨v, rfl, hk⟩ := hh
  exact ⟨v, rfl, hK _ _ hk⟩
end Go.Proofs.YtidiondgfoolbaaW.PrintWords
