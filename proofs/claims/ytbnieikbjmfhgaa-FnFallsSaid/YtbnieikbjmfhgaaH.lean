/- Small lemmas for the walks of this claim that are typed by hand. -/
import Derived.Test.YtbnieikbjmfhgaaWWords
import Derived.Test.YtbnieikbjmfhgaaWLast
import Derived.Test.YtbnieikbjmfhgaaWMore
import Derived.IntWalk
import Derived.Lib.Walk
import Derived.Shelf.Abstract
import Derived.Lib.LazyBuf
import Derived.Lib.Bytealg
import Derived.Lib.Strings
import Derived.WalkKit
import Derived.Lib.OwnBridge
import Derived.Shelf.Slices.Delete
namespace Go.Proofs.YtbnieikbjmfhgaaW.PrintWords
open Go.RowKit Go.Proofs.YtbnieikbjmfhgaaW.PrintLast
section
variable {P : Program} {ops : Array Oper} {Q : Exit → Act → World → Prop} {rest : List Oper} {o : Oper} {a : Act} {w : World}
theorem gate_value {x : Tmp} {xs : Array Operand} {ts : Array TypeId} (_ho : o.op = .call { callee := .value (.tmp x), args := xs, argTypes := ts }) (h : wpList P ops Q (o :: rest) a w) : wpList P ops Q (o :: rest) a w := h
theorem goesV_ (N : Option Tmp) (hd : o.dst = N) (hg : o.guard = none) {f : FuncId} (eg : ∀ args w, (callFunc f args).run P w = .ok (.enter f args) w) (lb : Array Value) {x : Operand} {xs : Array Operand} {ts : Array TypeId} (args : Array Value)
    (hop : o.op = .call { callee := .value x, args := xs, argTypes := ts }) (hx : a.eval x = .func (.func f) #[] lb) (hargs : xs.map a.eval = args)
    (h : Calls P f (args ++ lb) w fun e w' => ∃ v, e = .returned v ∧ wpList P ops Q rest (a.put N v) w') : wpList P ops Q (o :: rest) a w := by
  refine wpList_plain hg fun K hK => ?_
  have hrun : (execOp a.eval o).run P w = .ok (.enter f (args ++ lb)) w := by
    unfold execOp
    have hx' : a.eval x = .func (.func f) #[] lb := hx
    simp [hop, resolve, Deferred.ofValue, invoke, hargs, eg, hx']
  unfold Oper.wp
  rw [hrun, Oper.upon_enter]
  refine h.mono fun e w'' hh => ?_
  obtain ⟨v, rfl, hk⟩ := hh
  subst hd
  exact hK _ _ hk
end
theorem own_map (A : Option Addr) (n c : Nat) : (Value.slice A n c).ownBlock = A.map (·.block) := by cases A <;> rfl
theorem Drawn0.trans {w w1 w2 : World} (h : Drawn0 w w1) (k : Drawn0 w1 w2) : Drawn0 w w2 := by
  obtain ⟨n, rfl⟩ := k
  exact Drawn0.step h n
namespace Kd
theorem S_keepb {α : Type} {d : Kd α} {e base n : Nat} {ok : Nat → Prop} {W : World} {v : Value} {xs : List α} (h : Kd.S d e W base ok v xs) (_ : base ≤ n) : Kd.S d e W base ok v xs := h
section
variable {P : Program} {ops : Array Oper} {rest : List Oper} {o : Oper} {a : Act} {Q : Exit → Act → World → Prop}
theorem S_lits1 {w0 W : World} {k : IntKind} {e1 : Nat} (e : Nat) (hgd : o.guard = none) {N : Tmp} (_hd : o.dst = some N) {ys : List Int} {v : Value}
    (hrun : (execOp a.eval o).run P W = .ok (.value (.slice (some ⟨W.heap.size, 0, none⟩) 1 1)) (W.alloc (.cells [v].toArray e)))
    (hp : (Kd.int k).R e1 W w0.heap.size (fun _ => True) v ys) (HB : Below w0.heap.size w0 W)
    (h : ∀ v1 w1, Kd.S (Kd.slice e1 (Kd.int k)) e w1 w0.heap.size (fun _ => True) v1 [ys] → Below W.heap.size W w1 → W.grownBy w1 none → (∃ b, v1.ownBlock = some b ∧ W.heap.size ≤ b) → wpList P ops Q rest (a.put o.dst v1) w1) : wpList P ops Q (o :: rest) a W := by
  refine Kd.S_lits (Kd.slice e1 (Kd.int k)) (w0 := w0) w0.heap.size e hgd _hd (xs := [ys]) (inner := [v]) (ok := fun _ => True) (fun j k_ => j = 0 ∧ v.ownBlock = some k_) hrun rfl ?_ (fun _ _ _ h1 h2 => h1.1.trans h2.1.symm) (fun _ _ _ => trivial) trivial HB HB.size (by simp) ?_
  · intro j x hj
    match j with
    | 0 =>
      simp only [List.getElem?_cons_zero, Option.some.injEq] at hj
      subst hj
      exact ⟨v, rfl, fun q hq => ⟨rfl, hq⟩, hp.2.imp_ (fun _ _ hp => hp)⟩
    | j + 1 => simp at hj
  · intro v1 w1 hS _ hg hn
    exact h v1 w1 hS ⟨hg.os, hg.tape, hg.output, hg.size, fun k hk => hg.block k hk (by simp)⟩ hg hn
end
end Kd
theorem goesG_ {P : Program} {ops : Array Oper} {Q : Exit → Act → World → Prop} {rest : List Oper} {oi : Oper} {a : Act} {w : World} (N : Option Tmp) (hd : oi.dst = N) (hw : Region.wanted oi (yielded ops a.tmps) = true) {f : FuncId} {fn : Func} {as_ : Array Operand} {ts : Array TypeId} (hf : P.funcs[f]? = some fn) (hname : (fn.name == "runtime.NumGoroutine") = false) (hb : fn.body.isSome = true) (args : Array Value)
    (hop : oi.op = .call { callee := .value (.func f), args := as_, argTypes := ts }) (hargs : as_.map a.eval = args)
    (h : Calls P f args w fun e w' => ∃ v, e = .returned v ∧ wpList P ops Q rest (a.put N v) w') : wpList P ops Q (oi :: rest) a w := by
  subst hd
  refine wpList_step fun K hK => ?_
  refine goes_ hf hname hb args hw rfl hop hargs (h.mono fun e w'' hh => ?_)
  obtain ⟨v, rfl, hk⟩ := hh
  exact ⟨v, rfl, hK _ _ hk⟩
end Go.Proofs.YtbnieikbjmfhgaaW.PrintWords
