/- Small lemmas for the walks of this claim that are typed by hand. -/
import Derived.Test.YtgmhehgjmlokdaaWWords
import Derived.Test.YtgmhehgjmlokdaaWLast
import Derived.Test.YtgmhehgjmlokdaaWMore
import Derived.IntWalk
import Derived.Lib.Walk
import Derived.Shelf.Abstract
import Derived.Lib.LazyBuf
import Derived.Lib.Bytealg
import Derived.Lib.Strings
import Derived.WalkKit
import Derived.Lib.OwnBridge
import Derived.Shelf.Slices.Delete
namespace Go.Proofs.YtgmhehgjmlokdaaW.PrintWords
open Go.RowKit Go.Proofs.YtgmhehgjmlokdaaW.PrintLast

section
variable {P : Program} {ops : Array Oper} {Q : Exit → Act → World → Prop} {rest : List Oper} {o : Oper} {a : Act} {w : World}
/-- The operation is a call of a function value that lies in a place. -/
theorem gate_value {x : Tmp} {xs : Array Operand} {ts : Array TypeId} (_ho : o.op = .call { callee := .value (.tmp x), args := xs, argTypes := ts }) (h : wpList P ops Q (o :: rest) a w) : wpList P ops Q (o :: rest) a w := h
/-- A call of a function value, as one step. -/
theorem goesV_ (N : Option Tmp) (hd : o.dst = N) (hg : o.guard = none) {f : FuncId} (eg : ∀ args w, (callFunc f args).run P w = .ok (.enter f args) w) (lb : Array Value) {x : Operand} {xs : Array Operand} {ts : Array TypeId} (args : Array Value)
    (hop : o.op = .call { callee := .value x, args := xs, argTypes := ts }) (hx : a.eval x = .func (.func f) #[] lb) (hargs : xs.map a.eval = args)
    (h : Calls P f (args ++ lb) w fun e w' => ∃ v, e = .returned v ∧ wpList P ops Q rest (a.put N v) w') : wpList P ops Q (o :: rest) a w := by
  refine wpList_plain hg fun K hK => ?_
  have hrun : (execOp a.eval o).run P w = .ok (.enter f (args ++ lb)) w := by
    unfold execOp
    have hx' : a.eval x = .func (.func f) #[] lb := hx
    simp [hop, resolve, Deferred.ofValue, invoke, hargs, eg, hx']
  unfold Oper.wp
  rw [hrun, Oper.upon_enter]
  refine h.mono fun e w'' hh => ?_
  obtain ⟨v, rfl, hk⟩ := hh
  subst hd
  exact hK _ _ hk
end
theorem own_map (A : Option Addr) (n c : Nat) : (Value.slice A n c).ownBlock = A.map (·.block) := by cases A <;> rfl
theorem blk_later {w Wc W' : World} {g : Nat} {o : Obj} (hb : Below Wc.heap.size Wc W') (h : w.heap[g]? = some o) (he : Wc.heap = w.heap) : W'.heap[g]? = some o := blk_below (by rw [he]; exact h) hb
/-- a function literal over variables: a mark in a string's place -/
def clo_ {α : Type} (_n : Nat) (_caps : α) : ByteArray := ⟨#[]⟩
theorem Drawn0.trans {w w1 w2 : World} (h : Drawn0 w w1) (k : Drawn0 w1 w2) : Drawn0 w w2 := by
  obtain ⟨n, rfl⟩ := k
  exact Drawn0.step h n

/-- the first place at which p holds, or -1 -/
def idxF {α : Type} (p : α → Bool) : List α → Int
  | [] => -1
  | x :: l => if p x = true then 0 else if idxF p l < 0 then -1 else idxF p l + 1
theorem idxF_miss (p : Int → Bool) : ∀ l : List Int, (∀ j : Nat, j < l.length → p (l.getD j 0) = false) → idxF p l = -1
  | [], _ => rfl
  | x :: l, h => by
    have h0 : p x = false := by simpa using h 0 (by simp)
    have h1 := idxF_miss p l fun j hj => by simpa using h (j + 1) (by simpa using hj)
    simp [idxF, h0, h1]
theorem idxF_hitN (p : Int → Bool) : ∀ (l : List Int) (i : Nat), i < l.length → p (l.getD i 0) = true → (∀ j : Nat, j < i → p (l.getD j 0) = false) → idxF p l = i
  | [], i, h, _, _ => by simp at h
  | x :: l, 0, h, e, _ => by
    have h0 : p x = true := by simpa using e
    simp [idxF, h0]
  | x :: l, i + 1, h, e, q => by
    have h0 : p x = false := by simpa using q 0 (by omega)
    have h1 := idxF_hitN p l i (by simpa using h) (by simpa using e) fun j hj => by simpa using q (j + 1) (by omega)
    simp only [idxF, h0, h1]
    rw [if_neg (by simp), if_neg (by omega)]
    omega
theorem idxF_hit (p : Int → Bool) (l : List Int) (i : Int) (h0 : 0 ≤ i) (h : i < (l.length : Int)) (e : p (rd l i) = true) (q : ∀ j : Nat, (j : Int) < i → p (l.getD j 0) = false) : idxF p l = i := by
  obtain ⟨n, rfl⟩ := Int.eq_ofNat_of_zero_le h0
  exact idxF_hitN p l n (by omega) e fun j hj => q j (by omega)
theorem idxF_ge {α : Type} (p : α → Bool) (l : List α) : -1 ≤ idxF p l ∧ idxF p l < l.length := by
  induction l with
  | nil => simp [idxF]
  | cons y l ih =>
    simp only [idxF, List.length_cons]
    split
    · omega
    · split <;> omega
theorem idxF_any {α : Type} (p : α → Bool) (l : List α) : decide (0 ≤ idxF p l) = l.any p := by
  induction l with
  | nil => simp [idxF]
  | cons y l ih =>
    have := idxF_ge p l
    rw [List.any_cons, ← ih]
    cases e : p y with
    | true => simp [idxF, e]
    | false =>
      simp only [idxF, e, Bool.false_or]
      rw [if_neg (by simp)]
      split
      · have : ¬ 0 ≤ idxF p l := by omega
        simp [this]
      · have h1 : 0 ≤ idxF p l := by omega
        have h2 : 0 ≤ idxF p l + 1 := by omega
        simp [h1, h2]

/-! a whole row of numbers appended to a queue (a row of one's own that may begin inside its block) -/
namespace Kd
theorem queue_run {P : Program} {k : IntKind} {W : World} (base : Nat) (t ty e : TypeId) (z : Value) (bytes : Nat) (ht : P.underlying t = some (.slice e))
    (hinfo : (P.info? e).map (fun i => (i.zero, i.size, i.bytes)) = some (some z, 1, bytes)) (hz : z.cells.size = 1) (hb0 : 0 < bytes)
    (v : Value) (xs ys : List Int) (A : Option Addr) (m c : Nat) (ok : Nat → Prop) (HO : (Kd.int k).Q e W base ok v xs) (HR : (Kd.int k).C W A m ys) (hfresh : ∀ j, W.heap.size ≤ j → ok j)
    (hbase : base ≤ W.heap.size) (hl : (xs.length + m) * bytes ≤ 140737488355328) :
    ∃ v1 w1, (Builtin.append_ #[t, t] ty #[v, .slice A m c]).run P W = .ok v1 w1 ∧ (Kd.int k).Q e w1 base ok v1 (xs ++ ys) ∧ W.grownBy w1 v.ownBlock ∧ (v1.ownBlock = v.ownBlock ∨ ∃ b, v1.ownBlock = some b ∧ W.heap.size ≤ b) := by
  obtain ⟨i0, hi, hzz⟩ := Option.map_eq_some_iff.1 hinfo
  simp only [Prod.mk.injEq] at hzz
  obtain ⟨hz0, hz1, hz2⟩ := hzz
  have hm : ys.length = m := HR.1
  have hlen : xs.length + m ≤ 140737488355328 := Nat.le_trans (Nat.le_mul_of_pos_right _ hb0) hl
  obtain ⟨hok, inner, hown, hr⟩ := HO
  rcases Nat.eq_zero_or_pos m with h0 | hpos
  · subst h0
    obtain rfl : ys = [] := List.eq_nil_of_length_eq_zero hm
    refine ⟨v, W, ?_, by rw [List.append_nil]; exact ⟨hok, inner, hown, hr⟩, World.grownBy.refl W _, .inl rfl⟩
    rcases hown.2 with ⟨hn, A', rfl, _⟩ | ⟨g, off, cap, cur, rfl, _, _, hnc, _⟩
    · cases A <;> cases A' <;> simp [Builtin.append_, run_underlying ht, sizeOf, typeInfo, hi, Builtin.lenOf, Builtin.firstCells, storeCells, loadCells, loadCellsFrom]
    · cases A <;> simp [Builtin.append_, run_underlying ht, sizeOf, typeInfo, hi, Builtin.lenOf, Builtin.firstCells, hnc, storeCells, loadCells, loadCellsFrom]
  · obtain ⟨ad, rfl, _⟩ := HR.2.2 hpos
    obtain ⟨news, hnr, hnc⟩ := ReadsRow.inner_ HR
    have hnl : news.length = m := by have := hnr.1; rw [hm] at this; simpa [Kd.int, Kd.scalar] using this
    have hone : ∀ u ∈ news, u.oneCell' = true := by
      intro u hu
      obtain ⟨q, hq, rfl⟩ := List.mem_iff_getElem.1 hu
      have hql : q < ys.length := by omega
      have hc : ((news.drop (q * 1)).take 1) = [Value.int k ys[q]] := hnr.2 q _ (List.getElem?_eq_getElem hql)
      rw [Nat.mul_one, List.drop_eq_getElem_cons hq, List.take_succ_cons, List.take_zero] at hc
      injection hc with hc
      rw [hc]; rfl
    obtain ⟨v1, w1, hrun, h2, hg, hat⟩ := q_append (P := P) W base t ty e i0 z 1 bytes ht hi hz0 hz1 hz2 hz (by omega) v xs.length inner (by have := hown; exact this) ad m c news (by omega) hnc hone hpos (by simp only [maxLen]; omega) hl hbase
    refine ⟨v1, w1, hrun, ⟨fun j hj => ?_, inner ++ news, by rw [List.length_append, hm]; exact h2, reps_append (hr.imp_ (fun _ _ h => h)) (hnr.imp_ (fun _ _ h => h))⟩, hg, hat⟩
    rcases hat with hat | ⟨b, hb, hle⟩
    · exact hok j (hat ▸ hj)
    · rw [hb] at hj
      injection hj with hj
      exact hfresh j (by omega)
section
variable {P : Program} {ops : Array Oper} {rest : List Oper} {o : Oper} {a : Act} {Q' : Exit → Act → World → Prop} {Kc : Act → World → Prop}
theorem Q_append_rows (k : IntKind) {Rr : Int → List Value → Prop} {w0 W : World} (base : Nat) (hgd : o.guard = none) (s x : Operand) (t e : TypeId) (z : Value) (bytes : Nat)
    (ho : o.op = .call { callee := .builtin .append, args := #[s, x], argTypes := #[t, t] })
    (ht : P.underlying t = some (.slice e)) (hinfo : (P.info? e).map (fun i => (i.zero, i.size, i.bytes)) = some (some z, 1, bytes)) (hz : z.cells.size = 1) (_hs0 : 0 < 1) (hb0 : 0 < bytes)
    (v : Value) (xs ys : List Int) (A : Option Addr) (m c : Nat) (ok okp : Nat → Prop) (hs : a.eval s = v) (hx : a.eval x = .slice A m c)
    (HO : (Kd.int k).Q e W base ok v xs) (HR : ReadsRow Rr 1 W A m ys) (hKM : ∀ x cs, Rr x cs → cs = [Value.int k x]) (_hokp : ∀ j, okp j → ok j ∧ some j ≠ v.ownBlock) (hfresh : ∀ j, W.heap.size ≤ j → ok j)
    (HB : Below base w0 W) (hbase : base ≤ W.heap.size) (hl : (xs.length + m) * bytes ≤ 140737488355328)
    (h : ∀ v1 w1, (Kd.int k).Q e w1 base ok v1 (xs ++ ys) → Below base w0 w1 → W.grownBy w1 v.ownBlock → (v1.ownBlock = v.ownBlock ∨ ∃ b, v1.ownBlock = some b ∧ W.heap.size ≤ b) → wpList P ops Q' rest (a.put o.dst v1) w1) :
    wpList P ops Q' (o :: rest) a W := by
  obtain ⟨v1, w1, hr, h1, hg, hat⟩ := queue_run (P := P) base t o.type e z bytes ht hinfo hz hb0 v xs ys A m c ok HO ⟨HR.1, HR.2.1, fun hp => by
    obtain ⟨ad, e1, h2⟩ := HR.2.2 hp
    exact ⟨ad, e1, fun j p hj => by obtain ⟨cs, h3, h4, h5⟩ := h2 j p hj; exact ⟨cs, h3, hKM _ _ h4, h5⟩⟩⟩ hfresh hbase hl
  refine wpList_plain hgd fun K hK => ?_
  unfold Oper.wp execOp
  simp only [ho, resolve, invoke, builtin, Sem.run_bind, Sem.run_pure, Result.andThen_ok, List.map_toArray, List.map_cons, List.map_nil, hs, hx, hr]
  exact hK _ _ (h v1 w1 h1 (HB.grown hg hbase (fun j hj => Q_base HO j hj)) hg hat)
theorem Q_append_rows_step (k : IntKind) {Rr : Int → List Value → Prop} {w0 W : World} (base : Nat) (hw : Region.wanted o (yielded ops a.tmps) = true) (s x : Operand) (t e : TypeId) (z : Value) (bytes : Nat)
    (ho : o.op = .call { callee := .builtin .append, args := #[s, x], argTypes := #[t, t] })
    (ht : P.underlying t = some (.slice e)) (hinfo : (P.info? e).map (fun i => (i.zero, i.size, i.bytes)) = some (some z, 1, bytes)) (hz : z.cells.size = 1) (_hs0 : 0 < 1) (hb0 : 0 < bytes)
    (v : Value) (xs ys : List Int) (A : Option Addr) (m c : Nat) (ok okp : Nat → Prop) (hs : a.eval s = v) (hx : a.eval x = .slice A m c)
    (HO : (Kd.int k).Q e W base ok v xs) (HR : ReadsRow Rr 1 W A m ys) (hKM : ∀ x cs, Rr x cs → cs = [Value.int k x]) (_hokp : ∀ j, okp j → ok j ∧ some j ≠ v.ownBlock) (hfresh : ∀ j, W.heap.size ≤ j → ok j)
    (HB : Below base w0 W) (hbase : base ≤ W.heap.size) (hl : (xs.length + m) * bytes ≤ 140737488355328)
    (h : ∀ v1 w1, (Kd.int k).Q e w1 base ok v1 (xs ++ ys) → Below base w0 w1 → W.grownBy w1 v.ownBlock → (v1.ownBlock = v.ownBlock ∨ ∃ b, v1.ownBlock = some b ∧ W.heap.size ≤ b) → Kc (a.put o.dst v1) w1) :
    if Region.wanted o (yielded ops a.tmps) = true then Oper.wp P o a W Kc Q' else Kc (a.put o.dst undef) W := by
  obtain ⟨v1, w1, hr, h1, hg, hat⟩ := queue_run (P := P) base t o.type e z bytes ht hinfo hz hb0 v xs ys A m c ok HO ⟨HR.1, HR.2.1, fun hp => by
    obtain ⟨ad, e1, h2⟩ := HR.2.2 hp
    exact ⟨ad, e1, fun j p hj => by obtain ⟨cs, h3, h4, h5⟩ := h2 j p hj; exact ⟨cs, h3, hKM _ _ h4, h5⟩⟩⟩ hfresh hbase hl
  rw [if_pos hw]
  unfold Oper.wp execOp
  simp only [ho, resolve, invoke, builtin, Sem.run_bind, Sem.run_pure, Result.andThen_ok, List.map_toArray, List.map_cons, List.map_nil, hs, hx, hr]
  exact h v1 w1 h1 (HB.grown hg hbase (fun j hj => Q_base HO j hj)) hg hat
end
theorem V_cellat {k : IntKind} {e base n c : Nat} {ok : Nat → Prop} {w : World} {ad : Addr} {xs : List Int} (h : Kd.V (Kd.int k) e w base ok (.slice (some ad) n c) xs) (i : Int) (h0 : 0 ≤ i) (h1 : i < (n : Int)) : w.cell? (ad.add i.toNat) = some (.int k (rd xs i)) := by
  have h2 := Kd.V_reads' h
  obtain ⟨ad', e1, hc⟩ := Kd.at_int h2.2.2 i h0 (by have := h2.1; omega)
  cases e1
  exact hc
theorem V_cell0 {k : IntKind} {e base n c : Nat} {ok : Nat → Prop} {w : World} {ad : Addr} {xs : List Int} (h : Kd.V (Kd.int k) e w base ok (.slice (some ad) n c) xs) (i : Int) (h0 : 0 ≤ i) (h1 : i < (n : Int)) (hi : i = 0 := by rfl) : w.cell? ad = some (.int k (rd xs i)) := by
  have := V_cellat h i h0 h1
  subst hi
  simpa [Addr.add] using this
/-- A row of one row of one's own. -/
theorem S_keepb {α : Type} {d : Kd α} {e base n : Nat} {ok : Nat → Prop} {W : World} {v : Value} {xs : List α} (h : Kd.S d e W base ok v xs) (_ : base ≤ n) : Kd.S d e W base ok v xs := h
section
variable {P : Program} {ops : Array Oper} {rest : List Oper} {o : Oper} {a : Act} {Q : Exit → Act → World → Prop}
theorem S_lits1 {w0 W : World} {k : IntKind} {e1 : Nat} (e : Nat) (hgd : o.guard = none) {N : Tmp} (_hd : o.dst = some N) {ys : List Int} {v : Value}
    (hrun : (execOp a.eval o).run P W = .ok (.value (.slice (some ⟨W.heap.size, 0, none⟩) 1 1)) (W.alloc (.cells [v].toArray e)))
    (hp : (Kd.int k).R e1 W w0.heap.size (fun _ => True) v ys) (HB : Below w0.heap.size w0 W)
    (h : ∀ v1 w1, Kd.S (Kd.slice e1 (Kd.int k)) e w1 w0.heap.size (fun _ => True) v1 [ys] → Below W.heap.size W w1 → W.grownBy w1 none → (∃ b, v1.ownBlock = some b ∧ W.heap.size ≤ b) → wpList P ops Q rest (a.put o.dst v1) w1) : wpList P ops Q (o :: rest) a W := by
  refine Kd.S_lits (Kd.slice e1 (Kd.int k)) (w0 := w0) w0.heap.size e hgd _hd (xs := [ys]) (inner := [v]) (ok := fun _ => True) (fun j k_ => j = 0 ∧ v.ownBlock = some k_) hrun rfl ?_ (fun _ _ _ h1 h2 => h1.1.trans h2.1.symm) (fun _ _ _ => trivial) trivial HB HB.size (by simp) ?_
  · intro j x hj
    match j with
    | 0 =>
      simp only [List.getElem?_cons_zero, Option.some.injEq] at hj
      subst hj
      exact ⟨v, rfl, fun q hq => ⟨rfl, hq⟩, hp.2.imp_ (fun _ _ hp => hp)⟩
    | j + 1 => simp at hj
  · intro v1 w1 hS _ hg hn
    exact h v1 w1 hS ⟨hg.os, hg.tape, hg.output, hg.size, fun k hk => hg.block k hk (by simp)⟩ hg hn
end
end Kd
/-- A call behind a guard that holds. -/
theorem goesG_ {P : Program} {ops : Array Oper} {Q : Exit → Act → World → Prop} {rest : List Oper} {oi : Oper} {a : Act} {w : World} (N : Option Tmp) (hd : oi.dst = N) (hw : Region.wanted oi (yielded ops a.tmps) = true) {f : FuncId} {fn : Func} {as_ : Array Operand} {ts : Array TypeId} (hf : P.funcs[f]? = some fn) (hname : (fn.name == "runtime.NumGoroutine") = false) (hb : fn.body.isSome = true) (args : Array Value)
    (hop : oi.op = .call { callee := .value (.func f), args := as_, argTypes := ts }) (hargs : as_.map a.eval = args)
    (h : Calls P f args w fun e w' => ∃ v, e = .returned v ∧ wpList P ops Q rest (a.put N v) w') : wpList P ops Q (oi :: rest) a w := by
  subst hd
  refine wpList_step fun K hK => ?_
  refine goes_ hf hname hb args hw rfl hop hargs (h.mono fun e w'' hh => ?_)
  obtain ⟨v, rfl, hk⟩ := hh
  exact ⟨v, rfl, hK _ _ hk⟩
end Go.Proofs.YtgmhehgjmlokdaaW.PrintWords
