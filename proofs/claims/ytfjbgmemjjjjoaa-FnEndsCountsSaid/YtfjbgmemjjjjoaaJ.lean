/- Small lemmas for the walks of this claim that are typed by hand: some rows that lie apart, told by a function; a store into a known block. -/
import Derived.Test.YtfjbgmemjjjjoaaWWords
import Derived.Test.YtfjbgmemjjjjoaaWLast
import Derived.Test.YtfjbgmemjjjjoaaWApart
import Derived.Test.YtfjbgmemjjjjoaaWKept
import Derived.Test.YtfjbgmemjjjjoaaWMore
import Derived.IntWalk
set_option linter.unusedVariables false
set_option linter.unusedSimpArgs false
namespace Go.Proofs.YtfjbgmemjjjjoaaW.PrintWords
open Go.RowKit Go.Proofs.YtfjbgmemjjjjoaaW.PrintLast
def Five (e : Nat) (W : World) (base n : Nat) (c : Nat → Value) (x : Nat → List Int) : Prop :=
  ∃ f : Nat → Nat, ∀ j, j < n → (Kd.int .i64).R e W base (fun k => f k = j) (c j) (x j)
namespace Five
variable {e base n : Nat} {W W1 : World} {c : Nat → Value} {x : Nat → List Int}
theorem row (h : Five e W base n c x) (j : Nat) (hj : j < n) : (Kd.int .i64).R e W base (fun _ => True) (c j) (x j) := by
  obtain ⟨f, h⟩ := h
  exact Kd.R_mono (h j hj) (fun _ _ => trivial)
theorem step (h : Five e W base n c x) (hm : ∀ (k : Nat) (cells : Array Value), W.heap[k]? = some (Obj.cells cells e (0, 0)) → W1.heap[k]? = W.heap[k]?) : Five e W1 base n c x := by
  obtain ⟨f, h⟩ := h
  refine ⟨f, fun j hj => ?_⟩
  refine Kd.R_mono (Kd.R_step (Kd.R_bound (h j hj)) (fun k hk _ => ?_)) (fun _ hk => hk.1)
  obtain ⟨_, _, _, q, hq, cells, hc⟩ := hk
  rcases List.mem_cons.1 hq with rfl | hq
  · exact hm k cells hc
  · cases hq
theorem below (h : Five e W base n c x) (hb : Below W.heap.size W W1) : Five e W1 base n c x := h.step fun k cells hk => hb.block k (blk_lt hk)
theorem other {g t : Nat} {cells : Array Value} (h : Five e W base n c x) (hb : W.heap[g]? = some (.cells cells t (0, 0))) (ht : e ≠ t) (hg : W.grownBy W1 (some g)) : Five e W1 base n c x := by
  refine h.step fun k cells' hk => hg.block k (blk_lt hk) ?_
  intro he
  injection he with he
  subst he
  rw [hk] at hb
  injection hb with hb
  injection hb with _ hb
  exact ht hb
theorem own (h : Five e W base n c x) (j : Nat) (hj : j < n) : (Kd.int .i64).R e W base (fun k => some k = (c j).ownBlock ∨ W.heap.size ≤ k) (c j) (x j) := Kd.R_mono (Kd.R_tight rfl (h.row j hj)) (fun _ hk => .inl hk)
theorem nil (e : Nat) (W : World) (base n : Nat) : Five e W base n (fun _ => .slice none 0 0) (fun _ => []) := ⟨fun _ => 0, fun j _ => Kd.R_nil _ _ _ _ _⟩
end Five
section
variable {P : Program} {ops : Array Oper} {rest : List Oper} {o : Oper} {a : Act} {Q : Exit → Act → World → Prop} {W : World}
theorem put_run {g off : Nat} {e : TypeId} {cur cur' : Array Value} {t : TypeId} {u : Value} {seg : List Value} (hh : W.heap[g]? = some (.cells cur e (0, 0))) (hu : u.cells.toList = seg) (ht : (P.info? t).map (·.size) = some seg.length)
    (h1 : ∀ q ∈ seg, q.oneCell' = true) (hfit : off + seg.length ≤ cur.size) (hc : cur'.toList = cur.toList.take off ++ seg ++ cur.toList.drop (off + seg.length)) :
    ∃ w1, (Instr.storeAt t (.pointer (some ⟨g, off, none⟩)) u).run P W = .ok () w1 ∧ w1.heap[g]? = some (.cells cur' e (0, 0)) ∧ W.grownBy w1 (some g) := by
  obtain ⟨c2, h3, h4, h5⟩ := setCells_row seg off W cur hh hfit
  obtain ⟨s1, s2, s3, s4⟩ := setCells_same g seg off W
  refine ⟨_, run_store_run t u seg hh hu ht hfit h1, ?_, ⟨s1, s2, s3, by rw [s4]; exact Nat.le_refl _, fun k _ hk => setCells_far seg _ k (fun he => hk (by rw [he]))⟩⟩
  rw [h3]
  have : c2 = cur' := by
    apply Array.toList_inj.1
    rw [h5, hc]
  rw [this]
theorem put_event (hgd : o.guard = none) (hN : o.dst = none) {t : TypeId} {p v : Operand} (ho : o.op = .store t p v) {g off : Nat} {e : TypeId} {cur : Array Value} (cur' : Array Value) {u : Value} (seg : List Value)
    (hp : a.eval p = .pointer (some ⟨g, off, none⟩)) (hx : a.eval v = u) (hh : W.heap[g]? = some (.cells cur e (0, 0))) (hu : u.cells.toList = seg) (ht : (P.info? t).map (·.size) = some seg.length)
    (h1 : ∀ q ∈ seg, q.oneCell' = true) (hfit : off + seg.length ≤ cur.size) (hc : cur'.toList = cur.toList.take off ++ seg ++ cur.toList.drop (off + seg.length))
    (h : ∀ w1, w1.heap[g]? = some (.cells cur' e (0, 0)) → W.grownBy w1 (some g) → wpList P ops Q rest a w1) : wpList P ops Q (o :: rest) a W := by
  obtain ⟨w1, hr, h2, h3⟩ := put_run (P := P) (cur' := cur') hh hu ht h1 hfit hc
  refine wpList_plain hgd fun K hK => ?_
  unfold Oper.wp execOp
  simp only [ho, hp, hx, Sem.run_bind, Sem.run_pure, Result.andThen_ok, hr]
  show K (a.put o.dst undef) _
  rw [hN]
  exact hK a _ (h _ h2 h3)
theorem put_step {Kc : Act → World → Prop} (hw : Region.wanted o (yielded ops a.tmps) = true) (hN : o.dst = none) {t : TypeId} {p v : Operand} (ho : o.op = .store t p v) {g off : Nat} {e : TypeId} {cur : Array Value} (cur' : Array Value) {u : Value} (seg : List Value)
    (hp : a.eval p = .pointer (some ⟨g, off, none⟩)) (hx : a.eval v = u) (hh : W.heap[g]? = some (.cells cur e (0, 0))) (hu : u.cells.toList = seg) (ht : (P.info? t).map (·.size) = some seg.length)
    (h1 : ∀ q ∈ seg, q.oneCell' = true) (hfit : off + seg.length ≤ cur.size) (hc : cur'.toList = cur.toList.take off ++ seg ++ cur.toList.drop (off + seg.length))
    (h : ∀ w1, w1.heap[g]? = some (.cells cur' e (0, 0)) → W.grownBy w1 (some g) → Kc a w1) : if Region.wanted o (yielded ops a.tmps) = true then Oper.wp P o a W Kc Q else Kc (a.put o.dst undef) W := by
  obtain ⟨w1, hr, h2, h3⟩ := put_run (P := P) (cur' := cur') hh hu ht h1 hfit hc
  rw [if_pos hw]
  unfold Oper.wp execOp
  simp only [ho, hp, hx, Sem.run_bind, Sem.run_pure, Result.andThen_ok, hr]
  show Kc (a.put o.dst undef) _
  rw [hN]
  exact h _ h2 h3
end
end Go.Proofs.YtfjbgmemjjjjoaaW.PrintWords
namespace Go.Proofs.YtfjbgmemjjjjoaaW.PrintWords
open Go.RowKit Go.Proofs.YtfjbgmemjjjjoaaW.PrintLast Go.Proofs.YtfjbgmemjjjjoaaW.PrintMore
structure Pl where
  x : Nat → List Int
  mv : List Int
  d : Nat → Int
def Pl.zero : Pl := ⟨fun _ => [], [], fun _ => 0⟩
def lastOf (l : List Int) : Int := rd l ((l.length : Int) - 1)
def Pl.hit (s : Pl) (i : Nat) : Prop := 0 < (s.x i).length ∧ lastOf (s.x i) = ((s.x 4).length : Int) + 1
instance (s : Pl) (i : Nat) : Decidable (s.hit i) := by unfold Pl.hit; exact inferInstance
def Pl.ok (s : Pl) : Prop := ((s.x 4).length < 1000000 ∧ s.mv.length < 1000000) ∧ (∀ j, j < 4 → (s.x j).length < 1000000)
instance (s : Pl) : Decidable s.ok := by unfold Pl.ok; exact inferInstance
end Go.Proofs.YtfjbgmemjjjjoaaW.PrintWords
namespace Go.Proofs.YtfjbgmemjjjjoaaW.PrintWords
open Go.RowKit Go.Proofs.YtfjbgmemjjjjoaaW.PrintLast Go.Proofs.YtfjbgmemjjjjoaaW.PrintMore
def PlX (ti tb tp ts tr : Nat) (w0 W : World) (gp gs gr : Nat) (bp bs br : Array Value) (c : Nat → Value) (x : Nat → List Int) (vm : Value) (mv : List Int) : Prop :=
  (W.heap[gp]? = some (.cells bp tp (0, 0)) ∧ W.heap[gs]? = some (.cells bs ts (0, 0)) ∧ W.heap[gr]? = some (.cells br tr (0, 0))) ∧ Five ti W w0.heap.size 5 c x ∧ (Kd.int .u8).R tb W w0.heap.size (fun _ => True) vm mv ∧ Below w0.heap.size w0 W
def PlN (ti tb tp ts tr : Nat) (w0 : World) (gp gs gr : Nat) : Prop := (w0.heap.size ≤ gp ∧ w0.heap.size ≤ gs ∧ w0.heap.size ≤ gr) ∧ (gp ≠ gs ∧ gp ≠ gr ∧ gs ≠ gr) ∧ (ti ≠ tp ∧ ti ≠ ts ∧ ti ≠ tr) ∧ (tb ≠ tp ∧ tb ≠ ts ∧ tb ≠ tr) ∧ ti ≠ tb
namespace PlX
variable {ti tb tp ts tr : Nat} {w0 W w1 : World} {gp gs gr : Nat} {bp bs br : Array Value} {c : Nat → Value} {x : Nat → List Int} {vm : Value} {mv : List Int}
theorem row (h : PlX ti tb tp ts tr w0 W gp gs gr bp bs br c x vm mv) (j : Nat) (hj : j < 5) : (Kd.int .i64).R ti W w0.heap.size (fun _ => True) (c j) (x j) := h.2.1.row j hj
theorem below (h : PlX ti tb tp ts tr w0 W gp gs gr bp bs br c x vm mv) (hb : Below W.heap.size W w1) : PlX ti tb tp ts tr w0 w1 gp gs gr bp bs br c x vm mv :=
  ⟨⟨blk_below h.1.1 hb, blk_below h.1.2.1 hb, blk_below h.1.2.2 hb⟩, h.2.1.below hb, Kd.R_below h.2.2.1 hb, below_step h.2.2.2 hb⟩
theorem putS {bs' : Array Value} (hN : PlN ti tb tp ts tr w0 gp gs gr) (h : PlX ti tb tp ts tr w0 W gp gs gr bp bs br c x vm mv) (hw : w1.heap[gs]? = some (.cells bs' ts (0, 0))) (hg : W.grownBy w1 (some gs)) : PlX ti tb tp ts tr w0 w1 gp gs gr bp bs' br c x vm mv := by
  obtain ⟨h1, h2, h3, h4⟩ := h
  obtain ⟨n1, n2, n3, n4, n5⟩ := hN
  refine ⟨⟨blk_grown h1.1 hg (fun e => n2.1 (Option.some.inj e)), hw, blk_grown h1.2.2 hg (fun e => n2.2.2 (Option.some.inj e).symm)⟩, h2.other h1.2.1 n3.2.1 hg, Kd.R_mono (Kd.R_grown (Kd.R_types h3 h1.2.1 (fun q hq => ?_)) hg (fun k hk e => hk.2 (Option.some.inj e))) (fun _ _ => trivial), pw_below_grown h4 _ h4.size hg (fun k e => by rw [← Option.some.inj e]; exact n1.2.1)⟩
  rcases List.mem_cons.1 hq with rfl | hq
  · exact n4.2.1
  · cases hq
end PlX
end Go.Proofs.YtfjbgmemjjjjoaaW.PrintWords
namespace Go.Proofs.YtfjbgmemjjjjoaaW.PrintWords
open Go.RowKit
theorem w64_ {n : Int} (h : -9223372036854775808 ≤ n ∧ n ≤ 9223372036854775807) : wrap64 n = n := IntWalk.wrap64_in n h
end Go.Proofs.YtfjbgmemjjjjoaaW.PrintWords
namespace Go.Proofs.YtfjbgmemjjjjoaaW.PrintWords
open Go.RowKit Go.Proofs.YtfjbgmemjjjjoaaW.PrintLast Go.Proofs.YtfjbgmemjjjjoaaW.PrintMore
theorem last_cell {ti base : Nat} {W : World} {ok : Nat → Prop} {A : Option Addr} {cp : Nat} {xs : List Int} (h : (Kd.int .i64).R ti W base ok (.slice A xs.length cp) xs) (hp : 0 < xs.length) :
    ∃ ad, A = some ad ∧ W.cell? (ad.add (xs.length - 1)) = some (.int .i64 (lastOf xs)) := by
  obtain ⟨ad, e, hc⟩ := Kd.at_int (Kd.R_reads' h).2.2 ((xs.length : Int) - 1) (by omega) (by omega)
  refine ⟨ad, e, ?_⟩
  rw [show ((xs.length : Int) - 1).toNat = xs.length - 1 by omega] at hc
  exact hc
end Go.Proofs.YtfjbgmemjjjjoaaW.PrintWords
namespace Go.Proofs.YtfjbgmemjjjjoaaW.PrintWords
open Go.RowKit Go.Proofs.YtfjbgmemjjjjoaaW.PrintLast Go.Proofs.YtfjbgmemjjjjoaaW.PrintMore
def KT (t : Nat) (w W : World) : Prop := w.heap.size ≤ W.heap.size ∧ ∀ (g : Nat) (cells : Array Value), w.heap[g]? = some (Obj.cells cells t (0, 0)) → W.heap[g]? = some (Obj.cells cells t (0, 0))
theorem KT.refl (t : Nat) (w : World) : KT t w w := ⟨Nat.le_refl _, fun _ _ h => h⟩
theorem KT.below {t : Nat} {w W W1 : World} (h : KT t w W) (hb : Below W.heap.size W W1) : KT t w W1 := ⟨Nat.le_trans h.1 hb.size, fun g cells hg => blk_below (h.2 g cells hg) hb⟩
theorem KT.grown {t : Nat} {w W W1 : World} {row : Option Nat} (h : KT t w W) (hg : W.grownBy W1 row) (hr : ∀ k, row = some k → w.heap.size ≤ k ∨ ∃ cells t', W.heap[k]? = some (Obj.cells cells t' (0, 0)) ∧ t' ≠ t) : KT t w W1 := by
  refine ⟨Nat.le_trans h.1 hg.size, fun g cells hc => blk_grown (h.2 g cells hc) hg (fun e => ?_)⟩
  rcases hr g e.symm with h1 | ⟨cells', t', h2, h3⟩
  · have := blk_lt hc; omega
  · rw [h.2 g cells hc] at h2
    injection h2 with h2
    injection h2 with _ h2
    exact h3 h2.symm
def PlY (ti tb tp ts tr : Nat) (wk w0 W : World) (gp gs gr : Nat) (bp bs br : Array Value) (c : Nat → Value) (x : Nat → List Int) (vm : Value) (mv : List Int) : Prop := PlX ti tb tp ts tr w0 W gp gs gr bp bs br c x vm mv ∧ KT tp wk W
namespace PlY
variable {ti tb tp ts tr : Nat} {wk w0 W w1 : World} {gp gs gr : Nat} {bp bs br : Array Value} {c : Nat → Value} {x : Nat → List Int} {vm : Value} {mv : List Int}
theorem below (h : PlY ti tb tp ts tr wk w0 W gp gs gr bp bs br c x vm mv) (hb : Below W.heap.size W w1) : PlY ti tb tp ts tr wk w0 w1 gp gs gr bp bs br c x vm mv := ⟨h.1.below hb, h.2.below hb⟩
theorem putS {bs' : Array Value} (hN : PlN ti tb tp ts tr w0 gp gs gr) (hne : ts ≠ tp) (h : PlY ti tb tp ts tr wk w0 W gp gs gr bp bs br c x vm mv) (hw : w1.heap[gs]? = some (.cells bs' ts (0, 0))) (hg : W.grownBy w1 (some gs)) : PlY ti tb tp ts tr wk w0 w1 gp gs gr bp bs' br c x vm mv :=
  ⟨h.1.putS hN hw hg, h.2.grown hg (fun k hk => .inr ⟨bs, ts, by rw [← Option.some.inj hk]; exact h.1.1.2.1, hne⟩)⟩
end PlY
end Go.Proofs.YtfjbgmemjjjjoaaW.PrintWords
namespace Go.Proofs.YtfjbgmemjjjjoaaW.PrintWords
open Go.RowKit
theorem strOfNums_size (l : List Int) : (strOfNums l).size = l.length := by simp [strOfNums, ByteArray.size]
end Go.Proofs.YtfjbgmemjjjjoaaW.PrintWords
