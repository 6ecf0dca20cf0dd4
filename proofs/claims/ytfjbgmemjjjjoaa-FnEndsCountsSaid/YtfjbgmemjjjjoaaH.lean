/- Small lemmas for the walks of this claim that are typed by hand. -/
import Derived.Test.YtfjbgmemjjjjoaaWWords
import Derived.Test.YtfjbgmemjjjjoaaWLast
import Derived.Test.YtfjbgmemjjjjoaaWMore
import Derived.IntWalk
import Derived.Lib.Walk
import Derived.Shelf.Abstract
import Derived.Lib.LazyBuf
import Derived.Lib.Bytealg
import Derived.Lib.Strings
import Derived.WalkKit
import Derived.Lib.OwnBridge
import Derived.Shelf.Slices.Delete
namespace Go.Proofs.YtfjbgmemjjjjoaaW.PrintWords
open Go.RowKit Go.Proofs.YtfjbgmemjjjjoaaW.PrintLast
section
variable {P : Program} {ops : Array Oper} {Q : Exit → Act → World → Prop} {rest : List Oper} {o : Oper} {a : Act} {w : World}
theorem gate_value {x : Tmp} {xs : Array Operand} {ts : Array TypeId} (_ho : o.op = .call { callee := .value (.tmp x), args := xs, argTypes := ts }) (h : wpList P ops Q (o :: rest) a w) : wpList P ops Q (o :: rest) a w := h
theorem goesV_ (N : Option Tmp) (hd : o.dst = N) (hg : o.guard = none) {f : FuncId} (eg : ∀ args w, (callFunc f args).run P w = .ok (.enter f args) w) (lb : Array Value) {x : Operand} {xs : Array Operand} {ts : Array TypeId} (args : Array Value)
    (hop : o.op = .call { callee := .value x, args := xs, argTypes := ts }) (hx : a.eval x = .func (.func f) #[] lb) (hargs : xs.map a.eval = args)
    (h : Calls P f (args ++ lb) w fun e w' => ∃ v, e = .returned v ∧ wpList P ops Q rest (a.put N v) w') : wpList P ops Q (o :: rest) a w := by
  refine wpList_plain hg fun K hK => ?_
  have hrun : (execOp a.eval o).run P w = .ok (.enter f (args ++ lb)) w := by
    unfold execOp
    have hx' : a.eval x = .func (.func f) #[] lb := hx
    simp [hop, resolve, Deferred.ofValue, invoke, hargs, eg, hx']
  unfold Oper.wp
  rw [hrun, Oper.upon_enter]
  refine h.mono fun e w'' hh => ?_
  obtain ⟨v, rfl, hk⟩ := hh
  subst hd
  exact hK _ _ hk
end
theorem own_map (A : Option Addr) (n c : Nat) : (Value.slice A n c).ownBlock = A.map (·.block) := by cases A <;> rfl
theorem Drawn0.trans {w w1 w2 : World} (h : Drawn0 w w1) (k : Drawn0 w1 w2) : Drawn0 w w2 := by
  obtain ⟨n, rfl⟩ := k
  exact Drawn0.step h n
namespace Kd
theorem queue_run {P : Program} {k : IntKind} {W : World} (base : Nat) (t ty e : TypeId) (z : Value) (bytes : Nat) (ht : P.underlying t = some (.slice e))
    (hinfo : (P.info? e).map (fun i => (i.zero, i.size, i.bytes)) = some (some z, 1, bytes)) (hz : z.cells.size = 1) (hb0 : 0 < bytes)
    (v : Value) (xs ys : List Int) (A : Option Addr) (m c : Nat) (ok : Nat → Prop) (HO : (Kd.int k).Q e W base ok v xs) (HR : (Kd.int k).C W A m ys) (hfresh : ∀ j, W.heap.size ≤ j → ok j)
    (hbase : base ≤ W.heap.size) (hl : (xs.length + m) * bytes ≤ 140737488355328) :
    ∃ v1 w1, (Builtin.append_ #[t, t] ty #[v, .slice A m c]).run P W = .ok v1 w1 ∧ (Kd.int k).Q e w1 base ok v1 (xs ++ ys) ∧ W.grownBy w1 v.ownBlock ∧ (v1.ownBlock = v.ownBlock ∨ ∃ b, v1.ownBlock = some b ∧ W.heap.size ≤ b) := by
  obtain ⟨i0, hi, hzz⟩ := Option.map_eq_some_iff.1 hinfo
  simp only [Prod.mk.injEq] at hzz
  obtain ⟨hz0, hz1, hz2⟩ := hzz
  have hm : ys.length = m := HR.1
  have hlen : xs.length + m ≤ 140737488355328 := Nat.le_trans (Nat.le_mul_of_pos_right _ hb0) hl
  obtain ⟨hok, inner, hown, hr⟩ := HO
  rcases Nat.eq_zero_or_pos m with h0 | hpos
  · subst h0
    obtain rfl : ys = [] := List.eq_nil_of_length_eq_zero hm
    refine ⟨v, W, ?_, by rw [List.append_nil]; exact ⟨hok, inner, hown, hr⟩, World.grownBy.refl W _, .inl rfl⟩
    rcases hown.2 with ⟨hn, A', rfl, _⟩ | ⟨g, off, cap, cur, rfl, _, _, hnc, _⟩
    · cases A <;> cases A' <;> simp [Builtin.append_, run_underlying ht, sizeOf, typeInfo, hi, Builtin.lenOf, Builtin.firstCells, storeCells, loadCells, loadCellsFrom]
    · cases A <;> simp [Builtin.append_, run_underlying ht, sizeOf, typeInfo, hi, Builtin.lenOf, Builtin.firstCells, hnc, storeCells, loadCells, loadCellsFrom]
  · obtain ⟨ad, rfl, _⟩ := HR.2.2 hpos
    obtain ⟨news, hnr, hnc⟩ := ReadsRow.inner_ HR
    have hnl : news.length = m := by have := hnr.1; rw [hm] at this; simpa [Kd.int, Kd.scalar] using this
    have hone : ∀ u ∈ news, u.oneCell' = true := by
      intro u hu
      obtain ⟨q, hq, rfl⟩ := List.mem_iff_getElem.1 hu
      have hql : q < ys.length := by omega
      have hc : ((news.drop (q * 1)).take 1) = [Value.int k ys[q]] := hnr.2 q _ (List.getElem?_eq_getElem hql)
      rw [Nat.mul_one, List.drop_eq_getElem_cons hq, List.take_succ_cons, List.take_zero] at hc
      injection hc with hc
      rw [hc]; rfl
    obtain ⟨v1, w1, hrun, h2, hg, hat⟩ := q_append (P := P) W base t ty e i0 z 1 bytes ht hi hz0 hz1 hz2 hz (by omega) v xs.length inner (by have := hown; exact this) ad m c news (by omega) hnc hone hpos (by simp only [maxLen]; omega) hl hbase
    refine ⟨v1, w1, hrun, ⟨fun j hj => ?_, inner ++ news, by rw [List.length_append, hm]; exact h2, reps_append (hr.imp_ (fun _ _ h => h)) (hnr.imp_ (fun _ _ h => h))⟩, hg, hat⟩
    rcases hat with hat | ⟨b, hb, hle⟩
    · exact hok j (hat ▸ hj)
    · rw [hb] at hj
      injection hj with hj
      exact hfresh j (by omega)
section
variable {P : Program} {ops : Array Oper} {rest : List Oper} {o : Oper} {a : Act} {Q' : Exit → Act → World → Prop} {Kc : Act → World → Prop}
theorem Q_append_rows_step (k : IntKind) {Rr : Int → List Value → Prop} {w0 W : World} (base : Nat) (hw : Region.wanted o (yielded ops a.tmps) = true) (s x : Operand) (t e : TypeId) (z : Value) (bytes : Nat)
    (ho : o.op = .call { callee := .builtin .append, args := #[s, x], argTypes := #[t, t] })
    (ht : P.underlying t = some (.slice e)) (hinfo : (P.info? e).map (fun i => (i.zero, i.size, i.bytes)) = some (some z, 1, bytes)) (hz : z.cells.size = 1) (_hs0 : 0 < 1) (hb0 : 0 < bytes)
    (v : Value) (xs ys : List Int) (A : Option Addr) (m c : Nat) (ok okp : Nat → Prop) (hs : a.eval s = v) (hx : a.eval x = .slice A m c)
    (HO : (Kd.int k).Q e W base ok v xs) (HR : ReadsRow Rr 1 W A m ys) (hKM : ∀ x cs, Rr x cs → cs = [Value.int k x]) (_hokp : ∀ j, okp j → ok j ∧ some j ≠ v.ownBlock) (hfresh : ∀ j, W.heap.size ≤ j → ok j)
    (HB : Below base w0 W) (hbase : base ≤ W.heap.size) (hl : (xs.length + m) * bytes ≤ 140737488355328)
    (h : ∀ v1 w1, (Kd.int k).Q e w1 base ok v1 (xs ++ ys) → Below base w0 w1 → W.grownBy w1 v.ownBlock → (v1.ownBlock = v.ownBlock ∨ ∃ b, v1.ownBlock = some b ∧ W.heap.size ≤ b) → Kc (a.put o.dst v1) w1) :
    if Region.wanted o (yielded ops a.tmps) = true then Oper.wp P o a W Kc Q' else Kc (a.put o.dst undef) W := by
  obtain ⟨v1, w1, hr, h1, hg, hat⟩ := queue_run (P := P) base t o.type e z bytes ht hinfo hz hb0 v xs ys A m c ok HO ⟨HR.1, HR.2.1, fun hp => by
    obtain ⟨ad, e1, h2⟩ := HR.2.2 hp
    exact ⟨ad, e1, fun j p hj => by obtain ⟨cs, h3, h4, h5⟩ := h2 j p hj; exact ⟨cs, h3, hKM _ _ h4, h5⟩⟩⟩ hfresh hbase hl
  rw [if_pos hw]
  unfold Oper.wp execOp
  simp only [ho, resolve, invoke, builtin, Sem.run_bind, Sem.run_pure, Result.andThen_ok, List.map_toArray, List.map_cons, List.map_nil, hs, hx, hr]
  exact h v1 w1 h1 (HB.grown hg hbase (fun j hj => Q_base HO j hj)) hg hat
end
theorem V_cellat {k : IntKind} {e base n c : Nat} {ok : Nat → Prop} {w : World} {ad : Addr} {xs : List Int} (h : Kd.V (Kd.int k) e w base ok (.slice (some ad) n c) xs) (i : Int) (h0 : 0 ≤ i) (h1 : i < (n : Int)) : w.cell? (ad.add i.toNat) = some (.int k (rd xs i)) := by
  have h2 := Kd.V_reads' h
  obtain ⟨ad', e1, hc⟩ := Kd.at_int h2.2.2 i h0 (by have := h2.1; omega)
  cases e1
  exact hc
theorem V_cell0 {k : IntKind} {e base n c : Nat} {ok : Nat → Prop} {w : World} {ad : Addr} {xs : List Int} (h : Kd.V (Kd.int k) e w base ok (.slice (some ad) n c) xs) (i : Int) (h0 : 0 ≤ i) (h1 : i < (n : Int)) (hi : i = 0 := by rfl) : w.cell? ad = some (.int k (rd xs i)) := by
  have := V_cellat h i h0 h1
  subst hi
  simpa [Addr.add] using this
end Kd
theorem goesG_ {P : Program} {ops : Array Oper} {Q : Exit → Act → World → Prop} {rest : List Oper} {oi : Oper} {a : Act} {w : World} (N : Option Tmp) (hd : oi.dst = N) (hw : Region.wanted oi (yielded ops a.tmps) = true) {f : FuncId} {fn : Func} {as_ : Array Operand} {ts : Array TypeId} (hf : P.funcs[f]? = some fn) (hname : (fn.name == "runtime.NumGoroutine") = false) (hb : fn.body.isSome = true) (args : Array Value)
    (hop : oi.op = .call { callee := .value (.func f), args := as_, argTypes := ts }) (hargs : as_.map a.eval = args)
    (h : Calls P f args w fun e w' => ∃ v, e = .returned v ∧ wpList P ops Q rest (a.put N v) w') : wpList P ops Q (oi :: rest) a w := by
  subst hd
  refine wpList_step fun K hK => ?_
  refine goes_ hf hname hb args hw rfl hop hargs (h.mono fun e w'' hh => ?_)
  obtain ⟨v, rfl, hk⟩ := hh
  exact ⟨v, rfl, hK _ _ hk⟩
end Go.Proofs.YtfjbgmemjjjjoaaW.PrintWords
