/- Small lemmas for the walks of this claim that are typed by hand: some rows that lie apart, told by a function; a store into a known block. -/
import Derived.Test.YtbnieikbjmfhgaaWWords
import Derived.Test.YtbnieikbjmfhgaaWLast
import Derived.Test.YtbnieikbjmfhgaaWApart
import Derived.Test.YtbnieikbjmfhgaaWKept
import Derived.Test.YtbnieikbjmfhgaaWMore
import Derived.IntWalk
set_option linter.unusedVariables false
set_option linter.unusedSimpArgs false
namespace Go.Proofs.YtbnieikbjmfhgaaW.PrintWords
open Go.RowKit Go.Proofs.YtbnieikbjmfhgaaW.PrintLast
def upd {α : Type} (f : Nat → α) (j : Nat) (v : α) : Nat → α := fun i => if i = j then v else f i
theorem upd_same {α : Type} (f : Nat → α) (j : Nat) (v : α) : upd f j v j = v := by simp [upd]
theorem upd_ne {α : Type} (f : Nat → α) {i j : Nat} (v : α) (h : i ≠ j) : upd f j v i = f i := by simp [upd, h]
def Five (e : Nat) (W : World) (base n : Nat) (c : Nat → Value) (x : Nat → List Int) : Prop :=
  ∃ f : Nat → Nat, ∀ j, j < n → (Kd.int .i64).R e W base (fun k => f k = j) (c j) (x j)
namespace Five
variable {e base n : Nat} {W W1 : World} {c : Nat → Value} {x : Nat → List Int}
theorem row (h : Five e W base n c x) (j : Nat) (hj : j < n) : (Kd.int .i64).R e W base (fun _ => True) (c j) (x j) := by
  obtain ⟨f, h⟩ := h
  exact Kd.R_mono (h j hj) (fun _ _ => trivial)
theorem step (h : Five e W base n c x) (hm : ∀ (k : Nat) (cells : Array Value), W.heap[k]? = some (Obj.cells cells e (0, 0)) → W1.heap[k]? = W.heap[k]?) : Five e W1 base n c x := by
  obtain ⟨f, h⟩ := h
  refine ⟨f, fun j hj => ?_⟩
  refine Kd.R_mono (Kd.R_step (Kd.R_bound (h j hj)) (fun k hk _ => ?_)) (fun _ hk => hk.1)
  obtain ⟨_, _, _, q, hq, cells, hc⟩ := hk
  rcases List.mem_cons.1 hq with rfl | hq
  · exact hm k cells hc
  · cases hq
theorem below (h : Five e W base n c x) (hb : Below W.heap.size W W1) : Five e W1 base n c x := h.step fun k cells hk => hb.block k (blk_lt hk)
theorem cut {j m cp l : Nat} {A : Option Addr} (h : Five e W base n c x) (hj : j < n) (hv : c j = .slice A l cp) (hm : m ≤ (x j).length) : Five e W base n (upd c j (.slice A m cp)) (upd x j ((x j).take m)) := by
  obtain ⟨f, h⟩ := h
  refine ⟨f, fun i hi => ?_⟩
  by_cases hij : i = j
  · subst hij
    rw [upd_same, upd_same]
    have := h i hi
    rw [hv] at this
    exact Kd.R_take this hm
  · rw [upd_ne _ _ hij, upd_ne _ _ hij]
    exact h i hi
theorem own (h : Five e W base n c x) (j : Nat) (hj : j < n) : (Kd.int .i64).R e W base (fun k => some k = (c j).ownBlock ∨ W.heap.size ≤ k) (c j) (x j) := Kd.R_mono (Kd.R_tight rfl (h.row j hj)) (fun _ hk => .inl hk)
theorem nil (e : Nat) (W : World) (base n : Nat) : Five e W base n (fun _ => .slice none 0 0) (fun _ => []) := ⟨fun _ => 0, fun j _ => Kd.R_nil _ _ _ _ _⟩
end Five
end Go.Proofs.YtbnieikbjmfhgaaW.PrintWords
namespace Go.Proofs.YtbnieikbjmfhgaaW.PrintWords
open Go.RowKit Go.Proofs.YtbnieikbjmfhgaaW.PrintLast Go.Proofs.YtbnieikbjmfhgaaW.PrintMore
structure Pl where
  x : Nat → List Int
  mv : List Int
  d : Nat → Int
def Pl.zero : Pl := ⟨fun _ => [], [], fun _ => 0⟩
def lastOf (l : List Int) : Int := rd l ((l.length : Int) - 1)
def Pl.hit (s : Pl) (i : Nat) : Prop := 0 < (s.x i).length ∧ lastOf (s.x i) = ((s.x 4).length : Int) + 1
instance (s : Pl) (i : Nat) : Decidable (s.hit i) := by unfold Pl.hit; exact inferInstance
def Pl.ok (s : Pl) : Prop := ((s.x 4).length < 1000000 ∧ s.mv.length < 1000000) ∧ (∀ j, j < 4 → (s.x j).length < 1000000)
instance (s : Pl) : Decidable s.ok := by unfold Pl.ok; exact inferInstance
end Go.Proofs.YtbnieikbjmfhgaaW.PrintWords
namespace Go.Proofs.YtbnieikbjmfhgaaW.PrintWords
open Go.RowKit Go.Proofs.YtbnieikbjmfhgaaW.PrintLast Go.Proofs.YtbnieikbjmfhgaaW.PrintMore
def PlX (ti tb tp ts tr : Nat) (w0 W : World) (gp gs gr : Nat) (bp bs br : Array Value) (c : Nat → Value) (x : Nat → List Int) (vm : Value) (mv : List Int) : Prop :=
  (W.heap[gp]? = some (.cells bp tp (0, 0)) ∧ W.heap[gs]? = some (.cells bs ts (0, 0)) ∧ W.heap[gr]? = some (.cells br tr (0, 0))) ∧ Five ti W w0.heap.size 5 c x ∧ (Kd.int .u8).R tb W w0.heap.size (fun _ => True) vm mv ∧ Below w0.heap.size w0 W
namespace PlX
variable {ti tb tp ts tr : Nat} {w0 W w1 : World} {gp gs gr : Nat} {bp bs br : Array Value} {c : Nat → Value} {x : Nat → List Int} {vm : Value} {mv : List Int}
theorem row (h : PlX ti tb tp ts tr w0 W gp gs gr bp bs br c x vm mv) (j : Nat) (hj : j < 5) : (Kd.int .i64).R ti W w0.heap.size (fun _ => True) (c j) (x j) := h.2.1.row j hj
theorem below (h : PlX ti tb tp ts tr w0 W gp gs gr bp bs br c x vm mv) (hb : Below W.heap.size W w1) : PlX ti tb tp ts tr w0 w1 gp gs gr bp bs br c x vm mv :=
  ⟨⟨blk_below h.1.1 hb, blk_below h.1.2.1 hb, blk_below h.1.2.2 hb⟩, h.2.1.below hb, Kd.R_below h.2.2.1 hb, below_step h.2.2.2 hb⟩
theorem cut {j m cp l : Nat} {A : Option Addr} (h : PlX ti tb tp ts tr w0 W gp gs gr bp bs br c x vm mv) (hj : j < 5) (hv : c j = .slice A l cp) (hm : m ≤ (x j).length) : PlX ti tb tp ts tr w0 W gp gs gr bp bs br (upd c j (.slice A m cp)) (upd x j ((x j).take m)) vm mv :=
  ⟨h.1, h.2.1.cut hj hv hm, h.2.2⟩
end PlX
def six (vm vo : Value) (d : Nat → Int) : Array Value := #[vm, vo, .int .i64 (d 0), .int .i64 (d 1), .int .i64 (d 2), .int .i64 (d 3)]
end Go.Proofs.YtbnieikbjmfhgaaW.PrintWords
namespace Go.Proofs.YtbnieikbjmfhgaaW.PrintWords
open Go.RowKit Go.Proofs.YtbnieikbjmfhgaaW.PrintLast Go.Proofs.YtbnieikbjmfhgaaW.PrintMore
def KT (t : Nat) (w W : World) : Prop := w.heap.size ≤ W.heap.size ∧ ∀ (g : Nat) (cells : Array Value), w.heap[g]? = some (Obj.cells cells t (0, 0)) → W.heap[g]? = some (Obj.cells cells t (0, 0))
theorem KT.refl (t : Nat) (w : World) : KT t w w := ⟨Nat.le_refl _, fun _ _ h => h⟩
theorem KT.below {t : Nat} {w W W1 : World} (h : KT t w W) (hb : Below W.heap.size W W1) : KT t w W1 := ⟨Nat.le_trans h.1 hb.size, fun g cells hg => blk_below (h.2 g cells hg) hb⟩
theorem KT.grown {t : Nat} {w W W1 : World} {row : Option Nat} (h : KT t w W) (hg : W.grownBy W1 row) (hr : ∀ k, row = some k → w.heap.size ≤ k ∨ ∃ cells t', W.heap[k]? = some (Obj.cells cells t' (0, 0)) ∧ t' ≠ t) : KT t w W1 := by
  refine ⟨Nat.le_trans h.1 hg.size, fun g cells hc => blk_grown (h.2 g cells hc) hg (fun e => ?_)⟩
  rcases hr g e.symm with h1 | ⟨cells', t', h2, h3⟩
  · have := blk_lt hc; omega
  · rw [h.2 g cells hc] at h2
    injection h2 with h2
    injection h2 with _ h2
    exact h3 h2.symm
def PlY (ti tb tp ts tr : Nat) (wk w0 W : World) (gp gs gr : Nat) (bp bs br : Array Value) (c : Nat → Value) (x : Nat → List Int) (vm : Value) (mv : List Int) : Prop := PlX ti tb tp ts tr w0 W gp gs gr bp bs br c x vm mv ∧ KT tp wk W
namespace PlY
variable {ti tb tp ts tr : Nat} {wk w0 W w1 : World} {gp gs gr : Nat} {bp bs br : Array Value} {c : Nat → Value} {x : Nat → List Int} {vm : Value} {mv : List Int}
theorem below (h : PlY ti tb tp ts tr wk w0 W gp gs gr bp bs br c x vm mv) (hb : Below W.heap.size W w1) : PlY ti tb tp ts tr wk w0 w1 gp gs gr bp bs br c x vm mv := ⟨h.1.below hb, h.2.below hb⟩
theorem cut {j m cp l : Nat} {A : Option Addr} (h : PlY ti tb tp ts tr wk w0 W gp gs gr bp bs br c x vm mv) (hj : j < 5) (hv : c j = .slice A l cp) (hm : m ≤ (x j).length) : PlY ti tb tp ts tr wk w0 W gp gs gr bp bs br (upd c j (.slice A m cp)) (upd x j ((x j).take m)) vm mv := ⟨h.1.cut hj hv hm, h.2⟩
end PlY
end Go.Proofs.YtbnieikbjmfhgaaW.PrintWords
