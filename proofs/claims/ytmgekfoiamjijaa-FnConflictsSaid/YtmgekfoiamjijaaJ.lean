/- Small lemmas for the walks of this claim that are typed by hand: some rows that lie apart, told by a function; a store into a known block. -/
import Derived.Test.YtmgekfoiamjijaaWWords
import Derived.Test.YtmgekfoiamjijaaWLast
import Derived.Test.YtmgekfoiamjijaaWApart
import Derived.Test.YtmgekfoiamjijaaWKept
import Derived.Test.YtmgekfoiamjijaaWMore
import Derived.IntWalk
set_option linter.unusedVariables false
set_option linter.unusedSimpArgs false
namespace Go.Proofs.YtmgekfoiamjijaaW.PrintWords
open Go.RowKit Go.Proofs.YtmgekfoiamjijaaW.PrintLast
def upd {α : Type} (f : Nat → α) (j : Nat) (v : α) : Nat → α := fun i => if i = j then v else f i
theorem upd_same {α : Type} (f : Nat → α) (j : Nat) (v : α) : upd f j v j = v := by simp [upd]
theorem upd_ne {α : Type} (f : Nat → α) {i j : Nat} (v : α) (h : i ≠ j) : upd f j v i = f i := by simp [upd, h]
def Five (e : Nat) (W : World) (base n : Nat) (c : Nat → Value) (x : Nat → List Int) : Prop :=
  ∃ f : Nat → Nat, ∀ j, j < n → (Kd.int .i64).R e W base (fun k => f k = j) (c j) (x j)
namespace Five
variable {e base n : Nat} {W W1 : World} {c : Nat → Value} {x : Nat → List Int}
theorem row (h : Five e W base n c x) (j : Nat) (hj : j < n) : (Kd.int .i64).R e W base (fun _ => True) (c j) (x j) := by
  obtain ⟨f, h⟩ := h
  exact Kd.R_mono (h j hj) (fun _ _ => trivial)
theorem step (h : Five e W base n c x) (hm : ∀ (k : Nat) (cells : Array Value), W.heap[k]? = some (Obj.cells cells e (0, 0)) → W1.heap[k]? = W.heap[k]?) : Five e W1 base n c x := by
  obtain ⟨f, h⟩ := h
  refine ⟨f, fun j hj => ?_⟩
  refine Kd.R_mono (Kd.R_step (Kd.R_bound (h j hj)) (fun k hk _ => ?_)) (fun _ hk => hk.1)
  obtain ⟨_, _, _, q, hq, cells, hc⟩ := hk
  rcases List.mem_cons.1 hq with rfl | hq
  · exact hm k cells hc
  · cases hq
theorem below (h : Five e W base n c x) (hb : Below W.heap.size W W1) : Five e W1 base n c x := h.step fun k cells hk => hb.block k (blk_lt hk)
theorem other {g t : Nat} {cells : Array Value} (h : Five e W base n c x) (hb : W.heap[g]? = some (.cells cells t (0, 0))) (ht : e ≠ t) (hg : W.grownBy W1 (some g)) : Five e W1 base n c x := by
  refine h.step fun k cells' hk => hg.block k (blk_lt hk) ?_
  intro he
  injection he with he
  subst he
  rw [hk] at hb
  injection hb with hb
  injection hb with _ hb
  exact ht hb
theorem otherR {α : Type} {d : Kd α} {e' base' : Nat} {ok : Nat → Prop} {v : Value} {ys : List α} (h : Five e W base n c x) (hv : d.R e' W base' ok v ys) (ht : e ≠ e') (hg : W.grownBy W1 v.ownBlock) : Five e W1 base n c x := by
  refine h.step fun k cells' hk => hg.block k (blk_lt hk) ?_
  intro he
  obtain ⟨cells, hc⟩ := Kd.R_typed hv k he.symm
  rw [hk] at hc
  injection hc with hc
  injection hc with _ hc
  exact ht hc
theorem push {j : Nat} {v1 : Value} {y : List Int} {ok : Nat → Prop} (h : Five e W base n c x) (hj : j < n) (hR : (Kd.int .i64).R e W1 base ok v1 y) (hg : W.grownBy W1 (c j).ownBlock) (hat : v1.ownBlock = (c j).ownBlock ∨ ∃ b, v1.ownBlock = some b ∧ W.heap.size ≤ b) :
    Five e W1 base n (upd c j v1) (upd x j y) := by
  obtain ⟨f, h⟩ := h
  refine ⟨fun k => if W.heap.size ≤ k then j else f k, fun i hi => ?_⟩
  by_cases hij : i = j
  · subst hij
    rw [upd_same, upd_same]
    refine Kd.R_mono (Kd.R_tight rfl hR) (fun k hk => ?_)
    rcases hat with hat | ⟨b, hb, hle⟩
    · have h1 := (h i hi).1 k (by rw [← hat, ← hk])
      show (if W.heap.size ≤ k then i else f k) = i
      split
      · rfl
      · exact h1
    · rw [hb] at hk
      injection hk with hk
      subst hk
      show (if W.heap.size ≤ k then i else f k) = i
      rw [if_pos hle]
  · rw [upd_ne _ _ hij, upd_ne _ _ hij]
    refine Kd.R_mono (Kd.R_grown (Kd.R_bound (h i hi)) hg (fun k hk he => ?_)) (fun k hk => ?_)
    · have h1 := (h j hj).1 k he.symm
      have h2 : f k = i := hk.1
      exact hij (h2.symm.trans h1)
    · have h1 : f k = i ∧ base ≤ k ∧ k < W.heap.size ∧ _ := hk
      show (if W.heap.size ≤ k then j else f k) = i
      rw [if_neg (by omega)]
      exact h1.1
theorem cut {j m cp l : Nat} {A : Option Addr} (h : Five e W base n c x) (hj : j < n) (hv : c j = .slice A l cp) (hm : m ≤ (x j).length) : Five e W base n (upd c j (.slice A m cp)) (upd x j ((x j).take m)) := by
  obtain ⟨f, h⟩ := h
  refine ⟨f, fun i hi => ?_⟩
  by_cases hij : i = j
  · subst hij
    rw [upd_same, upd_same]
    have := h i hi
    rw [hv] at this
    exact Kd.R_take this hm
  · rw [upd_ne _ _ hij, upd_ne _ _ hij]
    exact h i hi
theorem own (h : Five e W base n c x) (j : Nat) (hj : j < n) : (Kd.int .i64).R e W base (fun k => some k = (c j).ownBlock ∨ W.heap.size ≤ k) (c j) (x j) := Kd.R_mono (Kd.R_tight rfl (h.row j hj)) (fun _ hk => .inl hk)
theorem nil (e : Nat) (W : World) (base n : Nat) : Five e W base n (fun _ => .slice none 0 0) (fun _ => []) := ⟨fun _ => 0, fun j _ => Kd.R_nil _ _ _ _ _⟩
end Five
section
variable {P : Program} {ops : Array Oper} {rest : List Oper} {o : Oper} {a : Act} {Q : Exit → Act → World → Prop} {W : World}
theorem put_run {g off : Nat} {e : TypeId} {cur cur' : Array Value} {t : TypeId} {u : Value} {seg : List Value} (hh : W.heap[g]? = some (.cells cur e (0, 0))) (hu : u.cells.toList = seg) (ht : (P.info? t).map (·.size) = some seg.length)
    (h1 : ∀ q ∈ seg, q.oneCell' = true) (hfit : off + seg.length ≤ cur.size) (hc : cur'.toList = cur.toList.take off ++ seg ++ cur.toList.drop (off + seg.length)) :
    ∃ w1, (Instr.storeAt t (.pointer (some ⟨g, off, none⟩)) u).run P W = .ok () w1 ∧ w1.heap[g]? = some (.cells cur' e (0, 0)) ∧ W.grownBy w1 (some g) := by
  obtain ⟨c2, h3, h4, h5⟩ := setCells_row seg off W cur hh hfit
  obtain ⟨s1, s2, s3, s4⟩ := setCells_same g seg off W
  refine ⟨_, run_store_run t u seg hh hu ht hfit h1, ?_, ⟨s1, s2, s3, by rw [s4]; exact Nat.le_refl _, fun k _ hk => setCells_far seg _ k (fun he => hk (by rw [he]))⟩⟩
  rw [h3]
  have : c2 = cur' := by
    apply Array.toList_inj.1
    rw [h5, hc]
  rw [this]
theorem put_event (hgd : o.guard = none) (hN : o.dst = none) {t : TypeId} {p v : Operand} (ho : o.op = .store t p v) {g off : Nat} {e : TypeId} {cur : Array Value} (cur' : Array Value) {u : Value} (seg : List Value)
    (hp : a.eval p = .pointer (some ⟨g, off, none⟩)) (hx : a.eval v = u) (hh : W.heap[g]? = some (.cells cur e (0, 0))) (hu : u.cells.toList = seg) (ht : (P.info? t).map (·.size) = some seg.length)
    (h1 : ∀ q ∈ seg, q.oneCell' = true) (hfit : off + seg.length ≤ cur.size) (hc : cur'.toList = cur.toList.take off ++ seg ++ cur.toList.drop (off + seg.length))
    (h : ∀ w1, w1.heap[g]? = some (.cells cur' e (0, 0)) → W.grownBy w1 (some g) → wpList P ops Q rest a w1) : wpList P ops Q (o :: rest) a W := by
  obtain ⟨w1, hr, h2, h3⟩ := put_run (P := P) (cur' := cur') hh hu ht h1 hfit hc
  refine wpList_plain hgd fun K hK => ?_
  unfold Oper.wp execOp
  simp only [ho, hp, hx, Sem.run_bind, Sem.run_pure, Result.andThen_ok, hr]
  show K (a.put o.dst undef) _
  rw [hN]
  exact hK a _ (h _ h2 h3)
theorem put_step {Kc : Act → World → Prop} (hw : Region.wanted o (yielded ops a.tmps) = true) (hN : o.dst = none) {t : TypeId} {p v : Operand} (ho : o.op = .store t p v) {g off : Nat} {e : TypeId} {cur : Array Value} (cur' : Array Value) {u : Value} (seg : List Value)
    (hp : a.eval p = .pointer (some ⟨g, off, none⟩)) (hx : a.eval v = u) (hh : W.heap[g]? = some (.cells cur e (0, 0))) (hu : u.cells.toList = seg) (ht : (P.info? t).map (·.size) = some seg.length)
    (h1 : ∀ q ∈ seg, q.oneCell' = true) (hfit : off + seg.length ≤ cur.size) (hc : cur'.toList = cur.toList.take off ++ seg ++ cur.toList.drop (off + seg.length))
    (h : ∀ w1, w1.heap[g]? = some (.cells cur' e (0, 0)) → W.grownBy w1 (some g) → Kc a w1) : if Region.wanted o (yielded ops a.tmps) = true then Oper.wp P o a W Kc Q else Kc (a.put o.dst undef) W := by
  obtain ⟨w1, hr, h2, h3⟩ := put_run (P := P) (cur' := cur') hh hu ht h1 hfit hc
  rw [if_pos hw]
  unfold Oper.wp execOp
  simp only [ho, hp, hx, Sem.run_bind, Sem.run_pure, Result.andThen_ok, hr]
  show Kc (a.put o.dst undef) _
  rw [hN]
  exact h _ h2 h3
end
theorem nat4 {p : Nat → Prop} (j : Nat) (hj : j < 4) (h0 : p 0) (h1 : p 1) (h2 : p 2) (h3 : p 3) : p j := by
  match j, hj with
  | 0, _ => exact h0
  | 1, _ => exact h1
  | 2, _ => exact h2
  | 3, _ => exact h3
def quad (c : Nat → Value) : Array Value := #[c 0, c 1, c 2, c 3]
theorem quad_get (c : Nat → Value) (j : Nat) (hj : j < 4) : (quad c)[j]? = some (c j) := nat4 (p := fun j => (quad c)[j]? = some (c j)) j hj rfl rfl rfl rfl
theorem quad_put (c : Nat → Value) (j : Nat) (v : Value) (hj : j < 4) : (quad (upd c j v)).toList = (quad c).toList.take j ++ [v] ++ (quad c).toList.drop (j + 1) := nat4 (p := fun j => (quad (upd c j v)).toList = (quad c).toList.take j ++ [v] ++ (quad c).toList.drop (j + 1)) j hj rfl rfl rfl rfl
end Go.Proofs.YtmgekfoiamjijaaW.PrintWords
namespace Go.Proofs.YtmgekfoiamjijaaW.PrintWords
open Go.RowKit Go.Proofs.YtmgekfoiamjijaaW.PrintLast Go.Proofs.YtmgekfoiamjijaaW.PrintMore
structure Pl where
  x : Nat → List Int
  mv : List Int
  d : Nat → Int
def Pl.zero : Pl := ⟨fun _ => [], [], fun _ => 0⟩
def lastOf (l : List Int) : Int := rd l ((l.length : Int) - 1)
def Pl.hit (s : Pl) (i : Nat) : Prop := 0 < (s.x i).length ∧ lastOf (s.x i) = ((s.x 4).length : Int) + 1
instance (s : Pl) (i : Nat) : Decidable (s.hit i) := by unfold Pl.hit; exact inferInstance
def Pl.pop (s : Pl) (i : Nat) : Pl := ⟨upd (upd s.x 4 (s.x 4 ++ [lastOf (s.x i)])) i ((s.x i).take ((s.x i).length - 1)), s.mv ++ [97 + (i : Int)], s.d⟩
def Pl.ok (s : Pl) : Prop := ((s.x 4).length < 1000000 ∧ s.mv.length < 1000000) ∧ (∀ j, j < 4 → (s.x j).length < 1000000)
instance (s : Pl) : Decidable s.ok := by unfold Pl.ok; exact inferInstance
def Pl.push (s : Pl) (i : Nat) (n : Int) : Pl := ⟨upd s.x i (s.x i ++ [n]), s.mv ++ [65 + (i : Int)], upd s.d i (mx (s.d i) (((s.x i).length : Int) + 1))⟩
def playPass : Nat → Nat → Pl → Bool → Option (Pl × Bool)
  | 0, _, s, p => some (s, p)
  | n + 1, i, s, p => if s.hit i then (if s.ok then playPass n (i + 1) (s.pop i) true else none) else if s.ok then playPass n (i + 1) s p else none
def playAll : Nat → Pl → Option Pl
  | 0, _ => none
  | k + 1, s => (playPass 4 0 s false).bind fun r => if r.2 = true then playAll k r.1 else some r.1
def playGo (k : Nat) (o sh : List Int) : Nat → Nat → Pl → Option Pl
  | 0, _, s => some s
  | r + 1, i, s => if (0 ≤ rd sh (i : Int) ∧ rd sh (i : Int) < 4) ∧ s.ok then (playAll k (s.push (rd sh (i : Int)).toNat (rd o (i : Int)))).bind fun t => playGo k o sh r (i + 1) t else none
theorem playAll_mono : ∀ k s, LeO (playAll k s) (playAll (k + 1) s)
  | 0, s => fun r h => by simp [playAll] at h
  | k + 1, s => by
    rw [playAll, playAll]
    exact LeO.bind (LeO.refl _) (fun r => LeO.ite (playAll_mono k _) (LeO.refl _))
theorem playGo_mono (o sh : List Int) (k : Nat) : ∀ r i s, LeO (playGo k o sh r i s) (playGo (k + 1) o sh r i s)
  | 0, _, _ => LeO.refl _
  | r + 1, i, s => by
    rw [playGo, playGo]
    exact LeO.ite (LeO.bind (playAll_mono _ _) (fun t => playGo_mono o sh k r _ _)) (LeO.none _)
end Go.Proofs.YtmgekfoiamjijaaW.PrintWords
namespace Go.Proofs.YtmgekfoiamjijaaW.PrintWords
open Go.RowKit Go.Proofs.YtmgekfoiamjijaaW.PrintLast Go.Proofs.YtmgekfoiamjijaaW.PrintMore
def PlX (ti tb tp ts tr : Nat) (w0 W : World) (gp gs gr : Nat) (bp bs br : Array Value) (c : Nat → Value) (x : Nat → List Int) (vm : Value) (mv : List Int) : Prop :=
  (W.heap[gp]? = some (.cells bp tp (0, 0)) ∧ W.heap[gs]? = some (.cells bs ts (0, 0)) ∧ W.heap[gr]? = some (.cells br tr (0, 0))) ∧ Five ti W w0.heap.size 5 c x ∧ (Kd.int .u8).R tb W w0.heap.size (fun _ => True) vm mv ∧ Below w0.heap.size w0 W
def PlN (ti tb tp ts tr : Nat) (w0 : World) (gp gs gr : Nat) : Prop := (w0.heap.size ≤ gp ∧ w0.heap.size ≤ gs ∧ w0.heap.size ≤ gr) ∧ (gp ≠ gs ∧ gp ≠ gr ∧ gs ≠ gr) ∧ (ti ≠ tp ∧ ti ≠ ts ∧ ti ≠ tr) ∧ (tb ≠ tp ∧ tb ≠ ts ∧ tb ≠ tr) ∧ ti ≠ tb
namespace PlX
variable {ti tb tp ts tr : Nat} {w0 W w1 : World} {gp gs gr : Nat} {bp bs br : Array Value} {c : Nat → Value} {x : Nat → List Int} {vm : Value} {mv : List Int}
theorem row (h : PlX ti tb tp ts tr w0 W gp gs gr bp bs br c x vm mv) (j : Nat) (hj : j < 5) : (Kd.int .i64).R ti W w0.heap.size (fun _ => True) (c j) (x j) := h.2.1.row j hj
theorem below (h : PlX ti tb tp ts tr w0 W gp gs gr bp bs br c x vm mv) (hb : Below W.heap.size W w1) : PlX ti tb tp ts tr w0 w1 gp gs gr bp bs br c x vm mv :=
  ⟨⟨blk_below h.1.1 hb, blk_below h.1.2.1 hb, blk_below h.1.2.2 hb⟩, h.2.1.below hb, Kd.R_below h.2.2.1 hb, below_step h.2.2.2 hb⟩
theorem app {j : Nat} {v1 : Value} {y : List Int} {ok : Nat → Prop} (hN : PlN ti tb tp ts tr w0 gp gs gr) (h : PlX ti tb tp ts tr w0 W gp gs gr bp bs br c x vm mv) (hj : j < 5) (hR : (Kd.int .i64).R ti w1 w0.heap.size ok v1 y) (hg : W.grownBy w1 (c j).ownBlock)
    (hat : v1.ownBlock = (c j).ownBlock ∨ ∃ b, v1.ownBlock = some b ∧ W.heap.size ≤ b) (hb : Below w0.heap.size w0 w1) : PlX ti tb tp ts tr w0 w1 gp gs gr bp bs br (upd c j v1) (upd x j y) vm mv := by
  have hr := h.row j hj
  obtain ⟨h1, h2, h3, h4⟩ := h
  obtain ⟨n1, n2, n3, n4, n5⟩ := hN
  refine ⟨⟨blk_grown h1.1 hg (Kd.R_ne hr h1.1 n3.1), blk_grown h1.2.1 hg (Kd.R_ne hr h1.2.1 n3.2.1), blk_grown h1.2.2 hg (Kd.R_ne hr h1.2.2 n3.2.2)⟩, h2.push hj hR hg hat, Kd.R_over h3 hr (fun q hq => ?_) hg, hb⟩
  rcases List.mem_cons.1 hq with rfl | hq
  · exact n5.symm
  · cases hq
theorem appm {v1 : Value} {y : List Int} {ok : Nat → Prop} (hN : PlN ti tb tp ts tr w0 gp gs gr) (h : PlX ti tb tp ts tr w0 W gp gs gr bp bs br c x vm mv) (hR : (Kd.int .u8).R tb w1 w0.heap.size ok v1 y) (hg : W.grownBy w1 vm.ownBlock) (hb : Below w0.heap.size w0 w1) :
    PlX ti tb tp ts tr w0 w1 gp gs gr bp bs br c x v1 y := by
  obtain ⟨h1, h2, h3, h4⟩ := h
  obtain ⟨n1, n2, n3, n4, n5⟩ := hN
  exact ⟨⟨blk_grown h1.1 hg (Kd.R_ne h3 h1.1 n4.1), blk_grown h1.2.1 hg (Kd.R_ne h3 h1.2.1 n4.2.1), blk_grown h1.2.2 hg (Kd.R_ne h3 h1.2.2 n4.2.2)⟩, h2.otherR h3 n5 hg, Kd.R_mono hR (fun _ _ => trivial), hb⟩
theorem putS {bs' : Array Value} (hN : PlN ti tb tp ts tr w0 gp gs gr) (h : PlX ti tb tp ts tr w0 W gp gs gr bp bs br c x vm mv) (hw : w1.heap[gs]? = some (.cells bs' ts (0, 0))) (hg : W.grownBy w1 (some gs)) : PlX ti tb tp ts tr w0 w1 gp gs gr bp bs' br c x vm mv := by
  obtain ⟨h1, h2, h3, h4⟩ := h
  obtain ⟨n1, n2, n3, n4, n5⟩ := hN
  refine ⟨⟨blk_grown h1.1 hg (fun e => n2.1 (Option.some.inj e)), hw, blk_grown h1.2.2 hg (fun e => n2.2.2 (Option.some.inj e).symm)⟩, h2.other h1.2.1 n3.2.1 hg, Kd.R_mono (Kd.R_grown (Kd.R_types h3 h1.2.1 (fun q hq => ?_)) hg (fun k hk e => hk.2 (Option.some.inj e))) (fun _ _ => trivial), pw_below_grown h4 _ h4.size hg (fun k e => by rw [← Option.some.inj e]; exact n1.2.1)⟩
  rcases List.mem_cons.1 hq with rfl | hq
  · exact n4.2.1
  · cases hq
theorem putP {bp' : Array Value} (hN : PlN ti tb tp ts tr w0 gp gs gr) (h : PlX ti tb tp ts tr w0 W gp gs gr bp bs br c x vm mv) (hw : w1.heap[gp]? = some (.cells bp' tp (0, 0))) (hg : W.grownBy w1 (some gp)) : PlX ti tb tp ts tr w0 w1 gp gs gr bp' bs br c x vm mv := by
  obtain ⟨h1, h2, h3, h4⟩ := h
  obtain ⟨n1, n2, n3, n4, n5⟩ := hN
  refine ⟨⟨hw, blk_grown h1.2.1 hg (fun e => n2.1 (Option.some.inj e).symm), blk_grown h1.2.2 hg (fun e => n2.2.1 (Option.some.inj e).symm)⟩, h2.other h1.1 n3.1 hg, Kd.R_mono (Kd.R_grown (Kd.R_types h3 h1.1 (fun q hq => ?_)) hg (fun k hk e => hk.2 (Option.some.inj e))) (fun _ _ => trivial), pw_below_grown h4 _ h4.size hg (fun k e => by rw [← Option.some.inj e]; exact n1.1)⟩
  rcases List.mem_cons.1 hq with rfl | hq
  · exact n4.1
  · cases hq
theorem putR {br' : Array Value} (hN : PlN ti tb tp ts tr w0 gp gs gr) (h : PlX ti tb tp ts tr w0 W gp gs gr bp bs br c x vm mv) (hw : w1.heap[gr]? = some (.cells br' tr (0, 0))) (hg : W.grownBy w1 (some gr)) : PlX ti tb tp ts tr w0 w1 gp gs gr bp bs br' c x vm mv := by
  obtain ⟨h1, h2, h3, h4⟩ := h
  obtain ⟨n1, n2, n3, n4, n5⟩ := hN
  refine ⟨⟨blk_grown h1.1 hg (fun e => n2.2.1 (Option.some.inj e)), blk_grown h1.2.1 hg (fun e => n2.2.2 (Option.some.inj e)), hw⟩, h2.other h1.2.2 n3.2.2 hg, Kd.R_mono (Kd.R_grown (Kd.R_types h3 h1.2.2 (fun q hq => ?_)) hg (fun k hk e => hk.2 (Option.some.inj e))) (fun _ _ => trivial), pw_below_grown h4 _ h4.size hg (fun k e => by rw [← Option.some.inj e]; exact n1.2.2)⟩
  rcases List.mem_cons.1 hq with rfl | hq
  · exact n4.2.2
  · cases hq
theorem cut {j m cp l : Nat} {A : Option Addr} (h : PlX ti tb tp ts tr w0 W gp gs gr bp bs br c x vm mv) (hj : j < 5) (hv : c j = .slice A l cp) (hm : m ≤ (x j).length) : PlX ti tb tp ts tr w0 W gp gs gr bp bs br (upd c j (.slice A m cp)) (upd x j ((x j).take m)) vm mv :=
  ⟨h.1, h.2.1.cut hj hv hm, h.2.2⟩
end PlX
def six (vm vo : Value) (d : Nat → Int) : Array Value := #[vm, vo, .int .i64 (d 0), .int .i64 (d 1), .int .i64 (d 2), .int .i64 (d 3)]
theorem six_d (vm vo : Value) (d : Nat → Int) (j : Nat) (hj : j < 4) : (six vm vo d)[2 + j]? = some (.int .i64 (d j)) := nat4 (p := fun j => (six vm vo d)[2 + j]? = some (.int .i64 (d j))) j hj rfl rfl rfl rfl
theorem six_putd (vm vo : Value) (d : Nat → Int) (j : Nat) (v : Int) (hj : j < 4) : (six vm vo (upd d j v)).toList = (six vm vo d).toList.take (2 + j) ++ [.int .i64 v] ++ (six vm vo d).toList.drop (2 + j + 1) := nat4 (p := fun j => (six vm vo (upd d j v)).toList = (six vm vo d).toList.take (2 + j) ++ [.int .i64 v] ++ (six vm vo d).toList.drop (2 + j + 1)) j hj rfl rfl rfl rfl
end Go.Proofs.YtmgekfoiamjijaaW.PrintWords
namespace Go.Proofs.YtmgekfoiamjijaaW.PrintWords
open Go.RowKit Go.Proofs.YtmgekfoiamjijaaW.PrintLast Go.Proofs.YtmgekfoiamjijaaW.PrintMore
theorem six_one {vm vo : Value} {a b c d : Int} (h1 : vm.oneCell' = true) (h2 : vo.oneCell' = true) : ∀ q ∈ [vm, vo, .int .i64 a, .int .i64 b, .int .i64 c, .int .i64 d], q.oneCell' = true := by
  intro q hq
  simp only [List.mem_cons, List.not_mem_nil, or_false] at hq
  rcases hq with rfl | rfl | rfl | rfl | rfl | rfl
  · exact h1
  · exact h2
  all_goals rfl
theorem one_one {v : Value} (h1 : v.oneCell' = true) : ∀ q ∈ [v], q.oneCell' = true := by
  intro q hq
  rw [List.mem_singleton] at hq
  rw [hq]; exact h1
theorem six_put0 (vm vo v : Value) (d : Nat → Int) : (six v vo d).toList = (six vm vo d).toList.take 0 ++ [v] ++ (six vm vo d).toList.drop (0 + [v].length) := rfl
theorem six_put1 (vm vo v : Value) (d : Nat → Int) : (six vm v d).toList = (six vm vo d).toList.take 1 ++ [v] ++ (six vm vo d).toList.drop (1 + [v].length) := rfl
end Go.Proofs.YtmgekfoiamjijaaW.PrintWords
namespace Go.Proofs.YtmgekfoiamjijaaW.PrintWords
open Go.RowKit
theorem w64_ {n : Int} (h : -9223372036854775808 ≤ n ∧ n ≤ 9223372036854775807) : wrap64 n = n := IntWalk.wrap64_in n h
end Go.Proofs.YtmgekfoiamjijaaW.PrintWords
namespace Go.Proofs.YtmgekfoiamjijaaW.PrintWords
open Go.RowKit Go.Proofs.YtmgekfoiamjijaaW.PrintLast Go.Proofs.YtmgekfoiamjijaaW.PrintMore
theorem last_cell {ti base : Nat} {W : World} {ok : Nat → Prop} {A : Option Addr} {cp : Nat} {xs : List Int} (h : (Kd.int .i64).R ti W base ok (.slice A xs.length cp) xs) (hp : 0 < xs.length) :
    ∃ ad, A = some ad ∧ W.cell? (ad.add (xs.length - 1)) = some (.int .i64 (lastOf xs)) := by
  obtain ⟨ad, e, hc⟩ := Kd.at_int (Kd.R_reads' h).2.2 ((xs.length : Int) - 1) (by omega) (by omega)
  refine ⟨ad, e, ?_⟩
  rw [show ((xs.length : Int) - 1).toNat = xs.length - 1 by omega] at hc
  exact hc
end Go.Proofs.YtmgekfoiamjijaaW.PrintWords
namespace Go.Proofs.YtmgekfoiamjijaaW.PrintWords
open Go.RowKit
theorem wup_ (i : Nat) (h : i ≤ 17592186044416) : wrap64 ((i : Int) + 1) = ((i + 1 : Nat) : Int) := by rw [w64_ (by omega)]; omega
end Go.Proofs.YtmgekfoiamjijaaW.PrintWords
namespace Go.Proofs.YtmgekfoiamjijaaW.PrintWords
open Go.RowKit
theorem run_index_arr {P : Program} {w : World} (t e : TypeId) (n : Nat) (cs : Array Value) (k : IntKind) (i : Nat) (v : Value) (d : TypeDesc) (ht : P.underlying t = some (.array n e)) (hi : (P.info? e).map (·.size) = some 1) (hd : P.underlying e = some d) (hg : (match d with | .struct _ | .array _ _ => true | _ => false) = false) (h1 : i < n) (hv : cs[i]? = some v) :
    (Instr.index t (.agg cs) (.int k (i : Int))).run P w = .ok v w := by
  obtain ⟨i0, hi0, hsz⟩ := Option.map_eq_some_iff.1 hi
  have hn : (0 ≤ (i : Int) ∧ (i : Int) < (n : Int)) := by omega
  cases d <;> simp [Instr.index, run_underlying ht, run_underlying hd, asIntOf, hn, h1, sizeOf, typeInfo, hi0, hsz, part, isAgg, hv, go_sem] <;> first | done | simp at hg
end Go.Proofs.YtmgekfoiamjijaaW.PrintWords
namespace Go.Proofs.YtmgekfoiamjijaaW.PrintWords
open Go.RowKit Go.Proofs.YtmgekfoiamjijaaW.PrintLast Go.Proofs.YtmgekfoiamjijaaW.PrintMore
def KT (t : Nat) (w W : World) : Prop := w.heap.size ≤ W.heap.size ∧ ∀ (g : Nat) (cells : Array Value), w.heap[g]? = some (Obj.cells cells t (0, 0)) → W.heap[g]? = some (Obj.cells cells t (0, 0))
theorem KT.refl (t : Nat) (w : World) : KT t w w := ⟨Nat.le_refl _, fun _ _ h => h⟩
theorem KT.below {t : Nat} {w W W1 : World} (h : KT t w W) (hb : Below W.heap.size W W1) : KT t w W1 := ⟨Nat.le_trans h.1 hb.size, fun g cells hg => blk_below (h.2 g cells hg) hb⟩
theorem KT.grown {t : Nat} {w W W1 : World} {row : Option Nat} (h : KT t w W) (hg : W.grownBy W1 row) (hr : ∀ k, row = some k → w.heap.size ≤ k ∨ ∃ cells t', W.heap[k]? = some (Obj.cells cells t' (0, 0)) ∧ t' ≠ t) : KT t w W1 := by
  refine ⟨Nat.le_trans h.1 hg.size, fun g cells hc => blk_grown (h.2 g cells hc) hg (fun e => ?_)⟩
  rcases hr g e.symm with h1 | ⟨cells', t', h2, h3⟩
  · have := blk_lt hc; omega
  · rw [h.2 g cells hc] at h2
    injection h2 with h2
    injection h2 with _ h2
    exact h3 h2.symm
def PlY (ti tb tp ts tr : Nat) (wk w0 W : World) (gp gs gr : Nat) (bp bs br : Array Value) (c : Nat → Value) (x : Nat → List Int) (vm : Value) (mv : List Int) : Prop := PlX ti tb tp ts tr w0 W gp gs gr bp bs br c x vm mv ∧ KT tp wk W
namespace PlY
variable {ti tb tp ts tr : Nat} {wk w0 W w1 : World} {gp gs gr : Nat} {bp bs br : Array Value} {c : Nat → Value} {x : Nat → List Int} {vm : Value} {mv : List Int}
theorem below (h : PlY ti tb tp ts tr wk w0 W gp gs gr bp bs br c x vm mv) (hb : Below W.heap.size W w1) : PlY ti tb tp ts tr wk w0 w1 gp gs gr bp bs br c x vm mv := ⟨h.1.below hb, h.2.below hb⟩
theorem app {j : Nat} {v1 : Value} {y : List Int} {ok : Nat → Prop} (hN : PlN ti tb tp ts tr w0 gp gs gr) (h : PlY ti tb tp ts tr wk w0 W gp gs gr bp bs br c x vm mv) (hj : j < 5) (hR : (Kd.int .i64).R ti w1 w0.heap.size ok v1 y) (hg : W.grownBy w1 (c j).ownBlock)
    (hat : v1.ownBlock = (c j).ownBlock ∨ ∃ b, v1.ownBlock = some b ∧ W.heap.size ≤ b) (hb : Below w0.heap.size w0 w1) : PlY ti tb tp ts tr wk w0 w1 gp gs gr bp bs br (upd c j v1) (upd x j y) vm mv :=
  ⟨h.1.app hN hj hR hg hat hb, h.2.grown hg (fun k hk => by obtain ⟨cells, hc⟩ := Kd.R_typed (h.1.row j hj) k hk; exact .inr ⟨cells, ti, hc, hN.2.2.1.1⟩)⟩
theorem putS {bs' : Array Value} (hN : PlN ti tb tp ts tr w0 gp gs gr) (hne : ts ≠ tp) (h : PlY ti tb tp ts tr wk w0 W gp gs gr bp bs br c x vm mv) (hw : w1.heap[gs]? = some (.cells bs' ts (0, 0))) (hg : W.grownBy w1 (some gs)) : PlY ti tb tp ts tr wk w0 w1 gp gs gr bp bs' br c x vm mv :=
  ⟨h.1.putS hN hw hg, h.2.grown hg (fun k hk => .inr ⟨bs, ts, by rw [← Option.some.inj hk]; exact h.1.1.2.1, hne⟩)⟩
theorem putP {bp' : Array Value} (hN : PlN ti tb tp ts tr w0 gp gs gr) (hk : wk.heap.size ≤ gp) (h : PlY ti tb tp ts tr wk w0 W gp gs gr bp bs br c x vm mv) (hw : w1.heap[gp]? = some (.cells bp' tp (0, 0))) (hg : W.grownBy w1 (some gp)) : PlY ti tb tp ts tr wk w0 w1 gp gs gr bp' bs br c x vm mv :=
  ⟨h.1.putP hN hw hg, h.2.grown hg (fun k hk' => .inl (by rw [← Option.some.inj hk']; exact hk))⟩
theorem putR {br' : Array Value} (hN : PlN ti tb tp ts tr w0 gp gs gr) (hk : wk.heap.size ≤ gr) (h : PlY ti tb tp ts tr wk w0 W gp gs gr bp bs br c x vm mv) (hw : w1.heap[gr]? = some (.cells br' tr (0, 0))) (hg : W.grownBy w1 (some gr)) : PlY ti tb tp ts tr wk w0 w1 gp gs gr bp bs br' c x vm mv :=
  ⟨h.1.putR hN hw hg, h.2.grown hg (fun k hk' => .inl (by rw [← Option.some.inj hk']; exact hk))⟩
theorem cut {j m cp l : Nat} {A : Option Addr} (h : PlY ti tb tp ts tr wk w0 W gp gs gr bp bs br c x vm mv) (hj : j < 5) (hv : c j = .slice A l cp) (hm : m ≤ (x j).length) : PlY ti tb tp ts tr wk w0 W gp gs gr bp bs br (upd c j (.slice A m cp)) (upd x j ((x j).take m)) vm mv := ⟨h.1.cut hj hv hm, h.2⟩
end PlY
def seven (g : Nat) (mv : List Int) (vo : Value) (d : Nat → Int) : Array Value := #[.slice (some ⟨g, 0, none⟩) 4 4, .string (strOfNums mv), vo, .int .i64 (d 0), .int .i64 (d 1), .int .i64 (d 2), .int .i64 (d 3)]
theorem seven_d (g : Nat) (mv : List Int) (vo : Value) (d : Nat → Int) (j : Nat) (hj : j < 4) : (seven g mv vo d)[3 + j]? = some (.int .i64 (d j)) := nat4 (p := fun j => (seven g mv vo d)[3 + j]? = some (.int .i64 (d j))) j hj rfl rfl rfl rfl
theorem seven_putd (g : Nat) (mv : List Int) (vo : Value) (d : Nat → Int) (j : Nat) (v : Int) (hj : j < 4) : (seven g mv vo (upd d j v)).toList = (seven g mv vo d).toList.take (3 + j) ++ [.int .i64 v] ++ (seven g mv vo d).toList.drop (3 + j + 1) := nat4 (p := fun j => (seven g mv vo (upd d j v)).toList = (seven g mv vo d).toList.take (3 + j) ++ [.int .i64 v] ++ (seven g mv vo d).toList.drop (3 + j + 1)) j hj rfl rfl rfl rfl
theorem seven_put2 (g : Nat) (mv : List Int) (vo v : Value) (d : Nat → Int) : (seven g mv v d).toList = (seven g mv vo d).toList.take 2 ++ [v] ++ (seven g mv vo d).toList.drop (2 + [v].length) := rfl
theorem seven_put1 (g : Nat) (mv mv' : List Int) (vo : Value) (d : Nat → Int) : (seven g mv' vo d).toList = (seven g mv vo d).toList.take 1 ++ [.string (strOfNums mv')] ++ (seven g mv vo d).toList.drop (1 + [Value.string (strOfNums mv')].length) := rfl
theorem seven_one {g : Nat} {mv : List Int} {vo : Value} {a b c d : Int} (h2 : vo.oneCell' = true) : ∀ q ∈ [Value.slice (some ⟨g, 0, none⟩) 4 4, .string (strOfNums mv), vo, .int .i64 a, .int .i64 b, .int .i64 c, .int .i64 d], q.oneCell' = true := by
  intro q hq
  simp only [List.mem_cons, List.not_mem_nil, or_false] at hq
  rcases hq with rfl | rfl | rfl | rfl | rfl | rfl | rfl
  · rfl
  · rfl
  · exact h2
  all_goals rfl
theorem strOfNums_snoc (l : List Int) (x : Int) : strOfNums (l ++ [x]) = strOfNums l ++ strOfNums [x] := by
  apply ByteArray.ext
  simp [strOfNums]
def popGo : Nat → Nat → Pl → Option Pl
  | 0, _, _ => none
  | k + 1, i, s => if i < 4 then (if s.ok then (if s.hit i then popGo k 0 (s.pop i) else popGo k (i + 1) s) else none) else some s
theorem popGo_mono : ∀ k i s, LeO (popGo k i s) (popGo (k + 1) i s)
  | 0, _, _ => fun r h => by simp [popGo] at h
  | k + 1, i, s => by
    rw [popGo, popGo]
    exact LeO.ite (LeO.ite (LeO.ite (popGo_mono k _ _) (popGo_mono k _ _)) (LeO.none _)) (LeO.refl _)
def movesGo (k : Nat) (o sh : List Int) : Nat → Nat → Pl → Option Pl
  | 0, _, s => some s
  | r + 1, i, s => if (0 ≤ rd sh (i : Int) ∧ rd sh (i : Int) < 4) ∧ s.ok then (popGo k 0 (s.push (rd sh (i : Int)).toNat (rd o (i : Int)))).bind fun t => movesGo k o sh r (i + 1) t else none
theorem movesGo_mono (o sh : List Int) (k : Nat) : ∀ r i s, LeO (movesGo k o sh r i s) (movesGo (k + 1) o sh r i s)
  | 0, _, _ => LeO.refl _
  | r + 1, i, s => by
    rw [movesGo, movesGo]
    exact LeO.ite (LeO.bind (popGo_mono _ _ _) (fun t => movesGo_mono o sh k r _ _)) (LeO.none _)
end Go.Proofs.YtmgekfoiamjijaaW.PrintWords
namespace Go.Proofs.YtmgekfoiamjijaaW.PrintWords
open Go.RowKit
theorem sub_one {P : Program} {w : World} (t : TypeId) (ht : P.underlying t = some .string) (s : ByteArray) (b : Int) (hs : s.size = 4) (he : ∀ j, j < 4 → s.extract j (j + 1) = strOfNums [b + (j : Int)]) (j : Nat) (hj : j < 4) :
    (Instr.slice t (.string s) (some (.int .i64 (j : Int))) (some (.int .i64 ((j : Int) + 1))) none).run P w = .ok (.string (strOfNums [b + (j : Int)])) w := by
  rw [run_slice_string w t s .i64 .i64 (j : Int) ((j : Int) + 1) ht (by omega) (by omega) (by omega)]
  rw [show ((j : Int)).toNat = j by omega, show ((j : Int) + 1).toNat = j + 1 by omega, he j hj]
theorem low4 (j : Nat) (hj : j < 4) : (⟨#[97, 98, 99, 100]⟩ : ByteArray).extract j (j + 1) = strOfNums [97 + (j : Int)] := nat4 (p := fun j => (⟨#[97, 98, 99, 100]⟩ : ByteArray).extract j (j + 1) = strOfNums [97 + (j : Int)]) j hj (by decide) (by decide) (by decide) (by decide)
theorem up4 (j : Nat) (hj : j < 4) : (⟨#[65, 66, 67, 68]⟩ : ByteArray).extract j (j + 1) = strOfNums [65 + (j : Int)] := nat4 (p := fun j => (⟨#[65, 66, 67, 68]⟩ : ByteArray).extract j (j + 1) = strOfNums [65 + (j : Int)]) j hj (by decide) (by decide) (by decide) (by decide)
theorem strOfNums_size (l : List Int) : (strOfNums l).size = l.length := by simp [strOfNums, ByteArray.size]
end Go.Proofs.YtmgekfoiamjijaaW.PrintWords
namespace Go.Proofs.YtmgekfoiamjijaaW.PrintWords
open Go.RowKit Go.Proofs.YtmgekfoiamjijaaW.PrintLast
theorem slice_event {P : Program} {ops : Array Oper} {rest : List Oper} {o : Oper} {a : Act} {Q : Exit → Act → World → Prop} {W : World} (hgd : o.guard = none) {N : Tmp} (_hd : o.dst = some N) {cs : Array Value} {t : TypeId} {n : Nat}
    (hrun : (execOp a.eval o).run P W = .ok (.value (.slice (some ⟨W.heap.size, 0, none⟩) n n)) (W.alloc (.cells cs t (0, 0))))
    (h : ∀ g, g = W.heap.size → ∀ w1, w1.heap[g]? = some (.cells cs t (0, 0)) → Below W.heap.size W w1 → wpList P ops Q rest (a.put o.dst (.slice (some ⟨g, 0, none⟩) n n)) w1) : wpList P ops Q (o :: rest) a W :=
  Kd.event_run hgd hrun (h _ rfl _ (blk_new W _) (below_alloc (Below.refl _ _) _))
end Go.Proofs.YtmgekfoiamjijaaW.PrintWords
namespace Go.Proofs.YtmgekfoiamjijaaW.PrintWords
open Go.RowKit Go.Proofs.YtmgekfoiamjijaaW.PrintLast
theorem made4 : madeCells (Value.slice none 0 0).cells (4 * 1) = quad (fun _ => .slice none 0 0) := by
  apply Array.ext
  · rw [size_madeCells]; rfl
  · intro i h1 h2
    have h3 : i < 4 := by rw [size_madeCells] at h1; exact h1
    have h4 := quad_get (fun _ => .slice none 0 0) i h3
    rw [(Array.getElem?_eq_some_iff.1 h4).2]
    simp [madeCells, Value.cells, Nat.mod_one]
theorem make4 {P : Program} (t e : TypeId) (bytes : Nat) (ht : P.underlying t = some (.slice e)) (hinfo : (P.info? e).map (fun i => (i.zero, i.size, i.bytes)) = some (some (.slice none 0 0), 1, bytes)) (hb : bytes ≤ 1000) (W : World) :
    (Instr.makeSlice t (.int .i64 4) (.int .i64 4)).run P W = .ok (.slice (some ⟨W.heap.size, 0, none⟩) 4 4) (W.alloc (.cells (quad fun _ => .slice none 0 0) e)) := by
  obtain ⟨i0, hi, hzz⟩ := Option.map_eq_some_iff.1 hinfo
  simp only [Prod.mk.injEq] at hzz
  obtain ⟨hz0, hz1, hz2⟩ := hzz
  have hr := run_make (P := P) W t e i0 _ ht hi hz0 .i64 .i64 4 4 (by omega) (by omega) (by omega) (by omega)
  rw [hr, hz1, show (Int.toNat 4) = 4 from rfl, show madeCells (Value.slice none 0 0).cells (4 * 1) = quad (fun _ => .slice none 0 0) from made4]
theorem came {w0 W : World} {ad : Addr} {l : List Int} (h : (Kd.int .i64).C w0 (some ad) l.length l) (hb : Below w0.heap.size w0 W) (i : Nat) (hi : i < l.length) {n : Int} (hn : rd l (i : Int) = n) : W.cell? (ad.add i) = some (.int .i64 n) := by
  obtain ⟨ad', e, hc⟩ := Kd.at_int (Kd.C_below h hb) (i : Int) (by omega) (by omega)
  cases e
  rw [hn, Int.toNat_natCast] at hc
  exact hc
end Go.Proofs.YtmgekfoiamjijaaW.PrintWords
namespace Go.Proofs.YtmgekfoiamjijaaW.PrintWords
open Go.RowKit
theorem run_field_one {P : Program} {w : World} (t : TypeId) (fs : Array Field) (j : Nat) (f : Field) (cs : Array Value) (v : Value) (d : TypeDesc) (ht : P.underlying t = some (.struct fs)) (hf : fs[j]? = some f) (hd : P.underlying f.type = some d) (hg : (match d with | .struct _ | .array _ _ => true | _ => false) = false) (hv : cs[f.offset]? = some v) :
    (Instr.field t (.agg cs) j).run P w = .ok v w := by
  cases d <;> simp [Instr.field, run_underlying ht, run_underlying hd, asAgg, hf, part, isAgg, hv, go_sem] <;> first | done | simp at hg
theorem run_field_arr {P : Program} {w : World} (t : TypeId) (fs : Array Field) (j : Nat) (f : Field) (cs vs : Array Value) (n : Nat) (e : TypeId) (ht : P.underlying t = some (.struct fs)) (hf : fs[j]? = some f) (hd : P.underlying f.type = some (.array n e)) (m : Nat) (hi : (P.info? f.type).map (·.size) = some m) (hv : cs.extract f.offset (f.offset + m) = vs) :
    (Instr.field t (.agg cs) j).run P w = .ok (.agg vs) w := by
  obtain ⟨i0, hi0, hsz⟩ := Option.map_eq_some_iff.1 hi
  simp [Instr.field, run_underlying ht, run_underlying hd, asAgg, hf, part, isAgg, sizeOf, typeInfo, hi0, hsz, hv, go_sem]
end Go.Proofs.YtmgekfoiamjijaaW.PrintWords
