-- laid by mkprint.py, a program of this claim's writer, over the kit's print program; parts of it are typed by hand
import Derived.Test.YtfjbgmemjjjjoaaPFnEndsCountsx0
namespace Go.Proofs.Ytfjbgmemjjjjoaa.PFnEndsCounts
open Go.RowKit Go.Proofs.YtfjbgmemjjjjoaaW.PrintWords Go.Proofs.YtfjbgmemjjjjoaaW.PrintLast Go.Proofs.YtfjbgmemjjjjoaaW.PrintMore
attribute [local go_sem] max2_int min2_int max_two min_two max_three min_three max_four min_four
set_option linter.unusedVariables false
set_option linter.unusedSimpArgs false
theorem swInfoI : (Try.prog.info? 3).map (fun i => (i.zero, i.size, i.bytes)) = some (some (.int .i64 0), 1, 8) := by kernel_rfl
theorem swInfoB : (Try.prog.info? 5).map (fun i => (i.zero, i.size, i.bytes)) = some (some (.int .u8 0), 1, 1) := by kernel_rfl
theorem sw_dn (j q : Nat) (h : q + 1 = j) (hj : j ≤ 17592186044416) : wrap64 ((j : Int) - 1) = (q : Int) := by rw [w64_ (by omega)]; omega
theorem sw_up (i : Nat) (h : i ≤ 17592186044416) : wrap64 ((i : Int) + 1) = ((i + 1 : Nat) : Int) := by rw [w64_ (by omega)]; omega
def swPop : Nat → List Int → List Int → Int → List Int × List Int
 | 0, xs, ys, _ => (xs, ys)
 | d + 1, xs, ys, b => if lastOf xs < b then swPop d (xs.take d) (ys ++ [79]) b else (xs, ys)
theorem swPop_len : ∀ (d : Nat) (xs ys : List Int) (b : Int), xs.length ≤ d → (swPop xs.length xs ys b).1.length + (swPop xs.length xs ys b).2.length = xs.length + ys.length
 | 0, xs, ys, b, h => by
  obtain rfl := List.eq_nil_of_length_eq_zero (Nat.le_zero.1 h)
  simp [swPop]
 | d + 1, xs, ys, b, h => by
  cases e : xs.length with
  | zero => simp [swPop, e]
  | succ m =>
   rw [swPop]
   have hl : (xs.take m).length = m := by rw [List.length_take]; omega
   split
   ·
    have ih := swPop_len d (xs.take m) (ys ++ [79]) b (by omega)
    rw [hl] at ih
    rw [ih, List.length_append, List.length_singleton]
    omega
   ·
    simp [e]
def swGo : List Int → List Int → List Int → List Int × List Int
 | [], xs, ys => (xs, ys)
 | n :: t, xs, ys => swGo t ((swPop xs.length xs ys n).1 ++ [n]) ((swPop xs.length xs ys n).2 ++ [73])
def swWord (l : List Int) : ByteArray := strOfNums (swPop (swGo l [] []).1.length (swGo l [] []).1 (swGo l [] []).2 8).2
def SwG (w0 : World) (gS gO : Nat) (cs co vs vo : Value) (xs ys : List Int) (W : World) : Prop :=
 W.heap[gS]? = some (.cells #[cs] 24 (0, 0)) ∧ W.heap[gO]? = some (.cells #[co] 22 (0, 0)) ∧ (Kd.int .i64).R 3 W w0.heap.size (fun _ => True) vs xs ∧ (Kd.int .u8).R 5 W w0.heap.size (fun _ => True) vo ys ∧ (∀ k, vs.ownBlock = some k → k ≠ gS ∧ k ≠ gO ∧ some k ≠ vo.ownBlock) ∧ (∀ k, vo.ownBlock = some k → k ≠ gS ∧ k ≠ gO) ∧ Below w0.heap.size w0 W
theorem SwG.below {w0 : World} {gS gO : Nat} {cs co vs vo : Value} {xs ys : List Int} {W W' : World} (h : SwG w0 gS gO cs co vs vo xs ys W) (hb : Below W.heap.size W W') : SwG w0 gS gO cs co vs vo xs ys W' :=
 ⟨blk_below h.1 hb, blk_below h.2.1 hb, Kd.R_below h.2.2.1 hb, Kd.R_below h.2.2.2.1 hb, h.2.2.2.2.1, h.2.2.2.2.2.1, below_step h.2.2.2.2.2.2 hb⟩
theorem SwG.appO {w0 : World} {gS gO : Nat} {cs co vs vo v1 : Value} {xs ys zs : List Int} {W W1 : World} (h : SwG w0 gS gO cs co vs vo xs ys W) (ho : (Kd.int .u8).R 5 W1 w0.heap.size (fun _ => True) v1 zs) (hb : Below w0.heap.size w0 W1) (hg : W.grownBy W1 vo.ownBlock) (hat : v1.ownBlock = vo.ownBlock ∨ ∃ b, v1.ownBlock = some b ∧ W.heap.size ≤ b) : SwG w0 gS gO cs co vs v1 xs zs W1 := by
 have hk : Kept W W1 (fun q => vo.ownBlock = some q) := Kept.of_grown hg (Kept.refl _ _) (fun k e => .inl e)
 have l1 := blk_lt h.1
 have l2 := blk_lt h.2.1
 have l3 := Kd.R_lt h.2.2.1
 refine ⟨blk_kept h.1 hk (fun e => (h.2.2.2.2.2.1 _ e).1 rfl), blk_kept h.2.1 hk (fun e => (h.2.2.2.2.2.1 _ e).2 rfl), Kd.R_grown2 h.2.2.1 rfl hg (fun k e e2 => (h.2.2.2.2.1 k e2.symm).2.2 e.symm), ho, fun k e => ⟨(h.2.2.2.2.1 k e).1, (h.2.2.2.2.1 k e).2.1, fun e2 => ?_⟩, fun k e => ?_, hb⟩
 ·
  rcases hat with e3 | ⟨b, e3, e4⟩
  ·
   exact (h.2.2.2.2.1 k e).2.2 (e2.trans e3)
  ·
   rw [e3] at e2
   have h5 := l3 k e
   cases e2
   omega
 ·
  rcases hat with e3 | ⟨b, e3, e4⟩
  ·
   exact h.2.2.2.2.2.1 k (e3.symm.trans e)
  ·
   rw [e3] at e
   cases e
   exact ⟨by omega, by omega⟩
theorem SwG.appS {w0 : World} {gS gO : Nat} {cs co vs vo v1 : Value} {xs ys zs : List Int} {W W1 : World} (h : SwG w0 gS gO cs co vs vo xs ys W) (ho : (Kd.int .i64).R 3 W1 w0.heap.size (fun _ => True) v1 zs) (hb : Below w0.heap.size w0 W1) (hg : W.grownBy W1 vs.ownBlock) (hat : v1.ownBlock = vs.ownBlock ∨ ∃ b, v1.ownBlock = some b ∧ W.heap.size ≤ b) : SwG w0 gS gO cs co v1 vo zs ys W1 := by
 have hk : Kept W W1 (fun q => vs.ownBlock = some q) := Kept.of_grown hg (Kept.refl _ _) (fun k e => .inl e)
 have l1 := blk_lt h.1
 have l2 := blk_lt h.2.1
 have l3 := Kd.R_lt h.2.2.2.1
 refine ⟨blk_kept h.1 hk (fun e => (h.2.2.2.2.1 _ e).1 rfl), blk_kept h.2.1 hk (fun e => (h.2.2.2.2.1 _ e).2.1 rfl), ho, Kd.R_grown2 h.2.2.2.1 rfl hg (fun k e e2 => (h.2.2.2.2.1 k e).2.2 e2), fun k e => ?_, h.2.2.2.2.2.1, hb⟩
 rcases hat with e3 | ⟨b, e3, e4⟩
 ·
  exact h.2.2.2.2.1 k (e3.symm.trans e)
 ·
  rw [e3] at e
  cases e
  refine ⟨by omega, by omega, fun e5 => ?_⟩
  have h5 := l3 _ e5.symm
  omega
theorem SwG.takeS {w0 : World} {gS gO : Nat} {cs co vo : Value} {A : Option Addr} {n m c : Nat} {xs ys : List Int} {W : World} (h : SwG w0 gS gO cs co (.slice A n c) vo xs ys W) (hm : m ≤ xs.length) : SwG w0 gS gO cs co (.slice A m c) vo (xs.take m) ys W :=
 ⟨h.1, h.2.1, Kd.R_take h.2.2.1 hm, h.2.2.2.1, fun k e => h.2.2.2.2.1 k (by cases A <;> exact e), h.2.2.2.2.2.1, h.2.2.2.2.2.2⟩
theorem SwG.putS {w0 : World} {gS gO : Nat} {cs co vs vo c1 : Value} {xs ys : List Int} {W W1 : World} (h : SwG w0 gS gO cs co vs vo xs ys W) (hG : w0.heap.size ≤ gS ∧ w0.heap.size ≤ gO ∧ gS ≠ gO) (hw : W1.heap[gS]? = some (.cells #[c1] 24 (0, 0))) (hg : W.grownBy W1 (some gS)) : SwG w0 gS gO c1 co vs vo xs ys W1 := by
 have hk : Kept W W1 (fun q => q = gS) := Kept.of_grown hg (Kept.refl _ _) (fun k e => by cases e; exact .inl rfl)
 exact ⟨hw, blk_kept h.2.1 hk (fun e => hG.2.2 e.symm), Kd.R_grown2 h.2.2.1 rfl hg (fun k e e2 => by cases e; exact (h.2.2.2.2.1 _ e2.symm).1 rfl), Kd.R_grown2 h.2.2.2.1 rfl hg (fun k e e2 => by cases e; exact (h.2.2.2.2.2.1 _ e2.symm).1 rfl), h.2.2.2.2.1, h.2.2.2.2.2.1, h.2.2.2.2.2.2.grown hg h.2.2.2.2.2.2.size (fun k e => by cases e; exact hG.1)⟩
theorem SwG.putO {w0 : World} {gS gO : Nat} {cs co vs vo c1 : Value} {xs ys : List Int} {W W1 : World} (h : SwG w0 gS gO cs co vs vo xs ys W) (hG : w0.heap.size ≤ gS ∧ w0.heap.size ≤ gO ∧ gS ≠ gO) (hw : W1.heap[gO]? = some (.cells #[c1] 22 (0, 0))) (hg : W.grownBy W1 (some gO)) : SwG w0 gS gO cs c1 vs vo xs ys W1 := by
 have hk : Kept W W1 (fun q => q = gO) := Kept.of_grown hg (Kept.refl _ _) (fun k e => by cases e; exact .inl rfl)
 exact ⟨blk_kept h.1 hk (fun e => hG.2.2 e), hw, Kd.R_grown2 h.2.2.1 rfl hg (fun k e e2 => by cases e; exact (h.2.2.2.2.1 _ e2.symm).2.1 rfl), Kd.R_grown2 h.2.2.2.1 rfl hg (fun k e e2 => by cases e; exact (h.2.2.2.2.2.1 _ e2.symm).2 rfl), h.2.2.2.2.1, h.2.2.2.2.2.1, h.2.2.2.2.2.2.grown hg h.2.2.2.2.2.2.size (fun k e => by cases e; exact hG.2.1)⟩
set_option maxHeartbeats 8000000 in
set_option maxRecDepth 100000 in
theorem impl_sweepWord_1.calls (w0 : World) (gS gO : Nat) (hG : w0.heap.size ≤ gS ∧ w0.heap.size ≤ gO ∧ gS ≠ gO) (b : Int) (xs ys : List Int) (vs vo : Value) (W : World) (R : List Int × List Int) (hx : SwG w0 gS gO vs vo vs vo xs ys W) (hl : xs.length + ys.length ≤ 3000000) (hR : swPop xs.length xs ys b = R) :
  Calls Try.prog 90 (#[.int .i64 b] ++ #[.pointer (some ⟨gS, 0, none⟩), .pointer (some ⟨gO, 0, none⟩)]) W fun e W' => (∃ v, e = .returned v) ∧ ∃ vz uz, SwG w0 gS gO vz uz vz uz R.1 R.2 W' := by
 have HX := Aside0.mk hx
 have HG := Aside0.mk hG
 clear hx hG
 go_enter Try.func90, Try.ntmps90
 go_wp2
 go_loopg [4] xs.length (fun kq v4 w' => ∃ (xq yq : List Int) (vq uq : Value), Aside0 (xq.length = kq) ∧ Aside0 (swPop kq xq yq b = R) ∧ Aside0 (xq.length + yq.length ≤ 3000000) ∧ Aside0 (SwG w0 gS gO vq uq vq uq xq yq w'))
 case atStart => exact ⟨xs, ys, vs, vo, ⟨rfl⟩, ⟨hR⟩, ⟨hl⟩, HX⟩
 case round =>
  clear HX
  obtain ⟨xq, yq, vq, uq, HN, HR, HL, HX⟩ := hrel
  obtain ⟨As, cq, e_s⟩ := Kd.R_slice HX.out.2.2.1
  subst e_s
  obtain ⟨Ao, co, e_o⟩ := Kd.R_slice HX.out.2.2.2.1
  subst e_o
  have hlen := HN.out
  cases gk with
  | zero =>
   obtain rfl := List.eq_nil_of_length_eq_zero hlen
   have e1 : wr.cell? ⟨gS, 0, none⟩ = some (.slice As ([] : List Int).length cq) := (blk_cell HX.out.1 0).trans rfl
   obtain rfl : ([], yq) = R := HR.out
   clear HN HR HL hlen
   go_wp2
   go_end0
   exact ⟨⟨_, rfl⟩, _, _, HX.out⟩
  | succ d =>
   obtain ⟨ad, e_a, hc⟩ := last_cell HX.out.2.2.1 (by omega)
   subst e_a
   rw [show xq.length - 1 = d by omega] at hc
   have e1 : wr.cell? ⟨gS, 0, none⟩ = some (.slice (some ad) xq.length cq) := (blk_cell HX.out.1 0).trans rfl
   have e2 : wr.cell? ⟨gO, 0, none⟩ = some (.slice Ao yq.length co) := (blk_cell HX.out.2.1 0).trans rfl
   have c1 : decide ((0 : Int) < (xq.length : Int)) = true := decide_eq_true (by omega)
   have c1n : decide (0 < xq.length) = true := decide_eq_true (by omega)
   have p0 : (0 < xq.length) = True := eq_true (by omega)
   have pd : (d < xq.length) = True := eq_true (by omega)
   have pe : (d ≤ xq.length) = True := eq_true (by omega)
   obtain ⟨i0_, hi0_, _, _, _⟩ := info_parts swInfoI
   have hcut := cut_to (P := Try.prog) 24 3 .i64 Try.underlying24 hi0_ (some ad) xq.length cq (d : Int) (by omega) (by omega) (Kd.R_reads' HX.out.2.2.1).2.1
   (try rw [Int.toNat_natCast] at hcut)
   clear hi0_
   have qd : ((d : Int) ≤ (xq.length : Int)) = True := eq_true (by omega)
   have q0 : ((0 : Int) ≤ (d : Int)) = True := eq_true (by omega)
   obtain ⟨u, hu⟩ : ∃ u, lastOf xq = u := ⟨_, rfl⟩
   rw [hu] at hc
   have hr := HR.out
   rw [swPop, hu] at hr
   have hdb : xq.length ≤ 17592186044416 := by have := HL.out; omega
   have zd := sw_dn xq.length d (by omega) hdb
   clear hlen hdb
   by_cases hlt : u < b
   ·
    skip
    rw [if_pos hlt] at hr
    have HR2 := Aside0.mk hr
    have c2 : decide (u < b) = true := decide_eq_true hlt
    clear hr hlt hu HR
    go_wp2
    have nX := Aside0.mk (HX.out.below (below_drew (Below.refl _ _)))
    clear HX
    have HX := nX
    clear nX
    refine start_ (n := 10) (S := fun w' => w'.cell? ⟨gS, 0, none⟩ = some (.slice (some ad) xq.length cq) ∧ w'.cell? ⟨gO, 0, none⟩ = some (.slice Ao yq.length co)) (ds := [8, 9]) #[false, false, false, false, false, false, false, false, false, false] (by kernel_rfl) rfl rfl ⟨(blk_cell HX.out.1 0).trans rfl, (blk_cell HX.out.2.1 0).trans rfl⟩ (fun hHeld => ?_)
    generalize wr.drew = w5 at HX hHeld ⊢
    obtain ⟨l23, hl23⟩ : ∃ l_, l_ = ([79] : List Int) := ⟨_, rfl⟩
    refine take_ (i := 0) (N := some 17) (v := ?_) (a' := ?_) #[true, false, false, false, false, false, false, false, false, false] rfl rfl (by kernel_rfl) (fun _ _ _ h => h) (Or.inl ⟨by rfl, ?_⟩) hHeld ?_ ?_; rotate_left; (· rintro w' ⟨s0_, s1_⟩; go_simp; with_reducible rfl); rotate_left; (· simp only [Act.put, List.setIfInBounds_toArray, List.set_cons_zero, List.set_cons_succ, i64_w, i32_w]; rfl)
    refine take_ (i := 1) (N := some 18) (v := ?_) (a' := ?_) #[true, true, false, false, false, false, false, false, false, false] rfl rfl (by kernel_rfl) (fun _ _ _ h => h) (Or.inl ⟨by rfl, ?_⟩) hHeld ?_ ?_; rotate_left; (· rintro w' ⟨s0_, s1_⟩; go_simp; with_reducible rfl); rotate_left; (· simp only [Act.put, List.setIfInBounds_toArray, List.set_cons_zero, List.set_cons_succ, i64_w, i32_w]; rfl)
    refine pure_ (i := 2) (N := some 19) (v := ?_) (a' := ?_) #[true, true, true, false, false, false, false, false, false, false] rfl rfl (by kernel_rfl) (fun _ _ _ h => h) (Or.inl ⟨by rfl, ?_⟩) ?_ ?_; rotate_left; (· intro w'; go_simp; with_reducible rfl); rotate_left; (· simp only [Act.put, List.setIfInBounds_toArray, List.set_cons_zero, List.set_cons_succ, i64_w, i32_w]; rfl)
    refine pure_ (i := 3) (N := some 20) (v := ?_) (a' := ?_) #[true, true, true, true, false, false, false, false, false, false] rfl rfl (by kernel_rfl) (fun _ _ _ h => h) (Or.inl ⟨by rfl, ?_⟩) ?_ ?_; rotate_left; (· intro w'; go_simp; with_reducible rfl); rotate_left; (· simp only [Act.put, List.setIfInBounds_toArray, List.set_cons_zero, List.set_cons_succ, i64_w, i32_w]; rfl)
    refine pure_ (i := 4) (N := some 21) (v := ?_) (a' := ?_) #[true, true, true, true, true, false, false, false, false, false] rfl rfl (by kernel_rfl) (fun _ _ _ h => h) (Or.inl ⟨by rfl, ?_⟩) ?_ ?_; rotate_left; (· intro w'; go_simp; with_reducible rfl); rotate_left; (· simp only [Act.put, List.setIfInBounds_toArray, List.set_cons_zero, List.set_cons_succ, i64_w, i32_w]; rfl)
    refine take_ (i := 5) (N := some 22) (v := ?_) (a' := ?_) #[true, true, true, true, true, true, false, false, false, false] rfl rfl (by kernel_rfl) (fun _ _ _ h => h) (Or.inl ⟨by rfl, ?_⟩) hHeld ?_ ?_; rotate_left; (· rintro w' ⟨s0_, s1_⟩; go_simp; with_reducible rfl); rotate_left; (· simp only [Act.put, List.setIfInBounds_toArray, List.set_cons_zero, List.set_cons_succ, i64_w, i32_w]; rfl)
    refine one_ (i := 6) (N := some 23) #[true, true, true, true, true, true, true, false, false, false] rfl rfl (by kernel_rfl) (by decide) (fun K hK => ?_)
    refine Kd.R_lit_step (Kd.int .u8) _ 5 ?hg (N := 23) ?hd (xs := ([79] : List Int)) (inner := [.int .u8 79]) (ok := fun _ => True) (okp := fun _ => True) ?hr ?hp (fun _ hk => hk) trivial (Below.refl _ _) (Nat.le_refl _) (by simp) ?_; (case hd => rfl); (case hg => rfl); (case hr => first | (go_simp; done) | (go_simp; rfl)); (case hp => exact (Reps.one (show Kd.M (Kd.int .u8) _ _ _ 79 [.int .u8 79] from rfl) (Reps.none _ _)))
    intro v23 w6 ho hb hg_ hnew_
    clear hg_ hnew_
    rw [← hl23] at ho
    obtain ⟨A23, c23, e_23⟩ := Kd.R_slice ho
    subst e_23
    have H23 := Aside0.mk ho
    have nX := Aside0.mk (HX.out.below hb)
    clear HX
    have HX := nX
    clear nX ho hb
    refine hK.out _ _ ⟨(blk_cell HX.out.1 0).trans rfl, (blk_cell HX.out.2.1 0).trans rfl⟩ (fun hHeld => ?_)
    clear hK K
    refine norm_ (a' := ?_) ?_ ?_; rotate_left; (· show Act.put _ (some 23) _ = _; simp only [Act.put, List.setIfInBounds_toArray, List.set_cons_zero, List.set_cons_succ, i64_w, i32_w]; rfl)
    refine one_ (i := 7) (N := some 24) #[true, true, true, true, true, true, true, true, false, false] rfl rfl (by kernel_rfl) (by decide) (fun K hK => ?_)
    refine Kd.R_append_rows_step (Kd.int .u8) (w0 := w0) w0.heap.size (by rfl) (.tmp 22) (.tmp 23) 22 5 (.int .u8 0) 1 rfl Try.underlying22 swInfoB rfl (by decide) (by omega) (.slice Ao yq.length co) yq l23 _ _ _ (fun _ => True) (fun _ => False) rfl rfl ?aO ?aR (fun _ _ h => h) (fun _ h => h.elim) ?aF ?aB ?aS ?aL ?_
    (case aR => exact (Kd.R_reads' H23.out).2.2)
    (case aB => exact HX.out.2.2.2.2.2.2)
    (case aF => exact fun _ _ => trivial)
    (case aO => exact HX.out.2.2.2.1)
    (case aS => exact HX.out.2.2.2.2.2.2.size)
    (case aL => have := HL.out; rw [hl23, List.length_singleton]; omega)
    intro va_ w7 ho hb hg hat
    obtain ⟨A24, c24, e_24⟩ := Kd.R_slice ho
    subst e_24
    have nX := Aside0.mk (HX.out.appO ho hb hg hat)
    clear HX
    have HX := nX
    clear nX
    rw [hl23] at HX
    clear ho hb hg hat H23
    refine hK.out _ _ ⟨(blk_cell HX.out.1 0).trans rfl, (blk_cell HX.out.2.1 0).trans rfl⟩ (fun hHeld => ?_)
    clear hK K
    refine norm_ (a' := ?_) ?_ ?_; rotate_left; (· show Act.put _ (some 24) _ = _; simp only [Act.put, List.setIfInBounds_toArray, List.set_cons_zero, List.set_cons_succ, i64_w, i32_w]; rfl)
    rw [hl23]
    refine last_ (i := 8) (N := none) #[true, true, true, true, true, true, true, true, true, false] rfl rfl (by kernel_rfl) (by decide) (fun K hK => ?_)
    refine put_step (by rfl) (by rfl) (t := 24) (p := .tmp 1) (v := .tmp 21) (by rfl) (g := _) (off := 0) (#[.slice (some ad) d cq]) ([.slice (some ad) d cq]) (by rfl) (by rfl) HX.out.1 (by rfl) (by first | rfl | decide) (by simp [Value.oneCell']) ?hfit ?hc ?_
    case hfit => simp
    case hc => rfl
    intro w8 hw_ hgr_
    have nX := Aside0.mk ((HX.out.takeS (m := d) (by have := HN.out; omega)).putS HG.out hw_ hgr_)
    clear HX
    have HX := nX
    clear nX hw_ hgr_ hHeld
    refine hK.out _ _ ?_
    clear hK K
    refine last_ (i := 9) (N := none) #[true, true, true, true, true, true, true, true, true, true] rfl rfl (by kernel_rfl) (by decide) (fun K hK => ?_)
    refine put_step (by rfl) (by rfl) (t := 22) (p := .tmp 2) (v := .tmp 24) (by rfl) (g := _) (off := 0) (#[.slice A24 (yq ++ [79]).length c24]) ([.slice A24 (yq ++ [79]).length c24]) (by rfl) (by rfl) HX.out.2.1 (by rfl) (by first | rfl | decide) (by simp [Value.oneCell']) ?hfit ?hc ?_
    case hfit => simp
    case hc => rfl
    intro w9 hw_ hgr_
    have nX := Aside0.mk (HX.out.putO HG.out hw_ hgr_)
    clear HX
    have HX := nX
    clear nX hw_ hgr_
    refine hK.out _ _ ?_
    clear hK K
    refine done_ (by kernel_rfl) ?_
    go_wp2
    go_roundg d
    case measure => omega
    case rel => exact ⟨xq.take d, yq ++ [79], .slice (some ad) d cq, _, ⟨by rw [List.length_take]; have := HN.out; omega⟩, HR2, ⟨by have := HL.out; have := HN.out; rw [List.length_take, List.length_append, List.length_singleton]; omega⟩, HX⟩
   ·
    skip
    rw [if_neg hlt] at hr
    obtain rfl := hr
    have c2 : decide (u < b) = false := decide_eq_false hlt
    clear hlt hu HR HN HL
    go_wp2
    go_end0
    exact ⟨⟨_, rfl⟩, _, _, HX.out⟩
def impl_sweepWord.f (_k : Nat) (l0 : List Int) : Option ByteArray := if l0.length ≤ 1000000 then some (swWord l0) else none
theorem impl_sweepWord.mono : ∀ a0 k, LeO (impl_sweepWord.f k a0) (impl_sweepWord.f (k + 1) a0) := fun _ _ => LeO.refl _
set_option maxHeartbeats 8000000 in
set_option maxRecDepth 100000 in
theorem impl_sweepWord.calls (k : Nat) (A0 : Option Addr) (c0 : Nat) (l0 : List Int) (r : ByteArray) (w : World) (hr0 : Kd.C (Kd.int .i64) w A0 l0.length l0) (hc0 : l0.length ≤ c0) (h : impl_sweepWord.f k l0 = some r) :
  Calls Try.prog 85 #[.slice A0 l0.length c0] w fun e w' => e = .returned (.string r) ∧ Below w.heap.size w w' := by
 obtain ⟨hn, hS⟩ : l0.length ≤ 1000000 ∧ swWord l0 = r := by
  unfold impl_sweepWord.f at h
  split at h
  ·
   exact ⟨by assumption, Option.some.inj h⟩
  ·
   cases h
 have HN := Aside0.mk hn
 have HR0 := Aside0.mk hr0
 clear hr0 hc0 h hn
 obtain ⟨R, hR⟩ : ∃ R, swGo l0 [] [] = R := ⟨_, rfl⟩
 rw [swWord, hR] at hS
 go_enter Try.func85, Try.ntmps85
 (repeat ((fail_if_success (with_reducible refine gate_dst (N := 8) rfl ?_)); first | go_values | go_skip | go_guarded | go_step | go_upon))
 refine Kd.R_lit (Kd.int .i64) _ 3 ?hg (N := 8) ?hd (xs := ([] : List Int)) (inner := []) (ok := fun _ => True) (okp := fun _ => True) ?hr ?hp (fun _ hk => hk) trivial (Below.refl _ _) (Nat.le_refl _) (by simp) ?_
 case hd => rfl
 case hg => rfl
 case hr => first | (go_simp; done) | (go_simp; rfl)
 case hp => exact (Reps.none _ _)
 intro v8 w1 ho hb hg_ hnew_
 clear hg_ hnew_
 have HS := Aside0.mk ho
 have HB := Aside0.mk hb
 have SZ := hb.size
 clear ho hb
 (repeat ((fail_if_success (with_reducible refine gate_dst (N := 9) rfl ?_)); first | go_values | go_skip | go_guarded | go_step | go_upon))
 refine Kd.R_lit (Kd.int .u8) _ 5 ?hg (N := 9) ?hd (xs := ([] : List Int)) (inner := []) (ok := fun _ => True) (okp := fun _ => True) ?hr ?hp (fun _ hk => hk) trivial (Below.refl _ _) (Nat.le_refl _) (by simp) ?_
 case hd => rfl
 case hg => rfl
 case hr => first | (go_simp; done) | (go_simp; rfl)
 case hp => exact (Reps.none _ _)
 intro v9 w2 ho hb hg_ hnew_
 clear hg_ hnew_
 have HO := Aside0.mk ho
 have n0_ := Aside0.mk (Kd.R_below HS.out hb)
 have n1_ := Aside0.mk (below_step HB.out hb)
 have q1_ := Kd.R_lt HS.out
 have q2_ := Kd.R_base ho
 have hap_ : ∀ k, v8.ownBlock = some k → some k ≠ v9.ownBlock := fun k e1 e2 => by have h1_ := q1_ k e1; have h2_ := q2_ k e2.symm; omega
 clear HS HB ho hb q1_ q2_
 have HS := n0_; have HB := n1_
 clear n0_ n1_
 (repeat ((fail_if_success (with_reducible refine gate_dst (N := 3) rfl ?_)); first | go_values | go_skip | go_guarded | go_step | go_upon))
 refine box_event ?hg (N := 3) ?hd (cs := #[.slice none 0 0]) (t := 24) ?hr ?_
 case hd => rfl
 case hg => rfl
 case hr => first | (go_simp; done) | (go_simp; rfl)
 intro gS hg w3 hbox hb2
 have HGS := Aside0.mk (show w.heap.size ≤ gS by rw [hg]; exact HB.out.size)
 have q1_ := Kd.R_lt HS.out
 have q2_ := Kd.R_lt HO.out
 have hs_ : ∀ k, v8.ownBlock = some k → k ≠ gS := fun k e1 => by have h1_ := q1_ k e1; omega
 have ho_ : ∀ k, v9.ownBlock = some k → k ≠ gS := fun k e1 => by have h1_ := q2_ k e1; omega
 have n0_ := Aside0.mk (Kd.R_below HS.out hb2)
 have n1_ := Aside0.mk (Kd.R_below HO.out hb2)
 have n2_ := Aside0.mk (below_step HB.out hb2)
 have BS := Aside0.mk hbox
 clear HS HO HB hg hbox hb2 q1_ q2_
 have HS := n0_; have HO := n1_; have HB := n2_
 clear n0_ n1_ n2_
 (repeat ((fail_if_success (with_reducible refine gate_dst (N := 4) rfl ?_)); first | go_values | go_skip | go_guarded | go_step | go_upon))
 refine box_event ?hg (N := 4) ?hd (cs := #[.slice none 0 0]) (t := 22) ?hr ?_
 case hd => rfl
 case hg => rfl
 case hr => first | (go_simp; done) | (go_simp; rfl)
 intro gO hg w4 hbox hb2
 have HG := Aside0.mk (show w.heap.size ≤ gS ∧ w.heap.size ≤ gO ∧ gS ≠ gO from ⟨HGS.out, by rw [hg]; exact HB.out.size, by have h1_ := blk_lt BS.out; omega⟩)
 have q1_ := Kd.R_lt HS.out
 have q2_ := Kd.R_lt HO.out
 have HX := Aside0.mk (show SwG w gS gO (.slice none 0 0) (.slice none 0 0) v8 v9 [] [] w4 from ⟨blk_below BS.out hb2, hbox, Kd.R_below HS.out hb2, Kd.R_lower (Kd.R_below HO.out hb2) SZ, fun k e1 => ⟨hs_ k e1, by have h1_ := q1_ k e1; omega, hap_ k e1⟩, fun k e1 => ⟨ho_ k e1, by have h1_ := q2_ k e1; omega⟩, below_step HB.out hb2⟩)
 clear HS HO HB BS HGS hg hbox hb2 q1_ q2_ hs_ ho_ hap_
 obtain ⟨A8, c8, e_8⟩ := Kd.R_slice HX.out.2.2.1
 obtain ⟨A9, c9, e_9⟩ := Kd.R_slice HX.out.2.2.2.1
 subst e_8 e_9
 (repeat ((fail_if_success (with_reducible refine gate_store (t := 24) (p := 3) rfl ?_)); first | go_values | go_skip | go_guarded | go_step | go_upon))
 refine put_event (by rfl) (by rfl) (t := 24) (p := .tmp 3) (by rfl) (g := _) (off := 0) (#[.slice A8 ([] : List Int).length c8]) ([.slice A8 ([] : List Int).length c8]) (by rfl) (by rfl) HX.out.1 (by rfl) (by first | rfl | decide) (by simp [Value.oneCell']) ?hfit ?hc ?_
 case hfit => simp
 case hc => rfl
 intro w5 hw_ hgr_
 have nX := Aside0.mk (HX.out.putS HG.out hw_ hgr_)
 clear HX
 have HX := nX
 clear nX hw_ hgr_
 (repeat ((fail_if_success (with_reducible refine gate_store (t := 22) (p := 4) rfl ?_)); first | go_values | go_skip | go_guarded | go_step | go_upon))
 refine put_event (by rfl) (by rfl) (t := 22) (p := .tmp 4) (by rfl) (g := _) (off := 0) (#[.slice A9 ([] : List Int).length c9]) ([.slice A9 ([] : List Int).length c9]) (by rfl) (by rfl) HX.out.2.1 (by rfl) (by first | rfl | decide) (by simp [Value.oneCell']) ?hfit ?hc ?_
 case hfit => simp
 case hc => rfl
 intro w6 hw_ hgr_
 have nX := Aside0.mk (HX.out.putO HG.out hw_ hgr_)
 clear HX
 have HX := nX
 clear nX hw_ hgr_ SZ
 go_wp2
 go_loopg [7, 13] l0.length (fun kq v7 v13 w' => ∃ (i : Nat) (xq yq : List Int) (vq uq : Value), v13 = .int .i64 (i : Int) ∧ Aside0 (i + kq = l0.length) ∧ Aside0 (swGo (l0.drop i) xq yq = R) ∧ Aside0 (xq.length + yq.length ≤ 2 * i) ∧ Aside0 (SwG w gS gO vq uq vq uq xq yq w'))
 case atStart => exact ⟨0, [], [], _, _, rfl, ⟨by omega⟩, ⟨hR⟩, ⟨by simp⟩, HX⟩
 case round =>
  clear HX
  obtain ⟨i, xq, yq, vq, uq, rfl, HI, HR, HL, HX⟩ := hrel
  have hn_ := HN.out
  cases gk with
  | zero =>
   have c1 : decide (i < l0.length) = false := decide_eq_false (by have := HI.out; omega)
   have c1b : decide ((i : Int) < (l0.length : Int)) = false := decide_eq_false (by have := HI.out; omega)
   have hr := HR.out
   rw [List.drop_eq_nil_of_le (by have := HI.out; omega), swGo] at hr
   obtain ⟨w20, hw20⟩ : ∃ w', w' = wr := ⟨_, rfl⟩
   subst hw20
   (repeat ((fail_if_success (with_reducible refine gate_dst (N := 29) rfl ?_)); first | go_values | go_skip | go_guarded | go_step | go_upon))
   refine goesV_ (some 29) rfl rfl (enters_of Try.func90 (by kernel_rfl) rfl) #[.pointer (some ⟨gS, 0, none⟩), .pointer (some ⟨gO, 0, none⟩)] #[.int .i64 8] rfl rfl (by (try simp only [List.map_toArray, List.map_cons, List.map_nil]); first | done | rfl) ?_
   refine (impl_sweepWord_1.calls w gS gO HG.out 8 xq yq vq uq w20 _ HX.out (by have := HL.out; have := HI.out; omega) rfl).mono ?_
   rintro e w21 ⟨⟨v, rfl⟩, vz, uz, hx⟩
   refine ⟨_, rfl, ?_⟩
   obtain ⟨Ao, co, e_o⟩ := Kd.R_slice hx.2.2.2.1
   subst e_o
   have e2 : w21.cell? ⟨gO, 0, none⟩ = some (.slice Ao (swPop xq.length xq yq 8).2.length co) := (blk_cell hx.2.1 0).trans rfl
   have hcv := own_string (P := Try.prog) Try.underlying22 Try.underlying5 Try.underlying9 (Kd.own_of_R hx.2.2.2.1)
   have HB := Aside0.mk hx.2.2.2.2.2.2
   clear hx HX
   go_wp2
   go_ret
   subst hr hS
   exact ⟨rfl, HB.out⟩
  | succ d =>
   have hi_ : i < l0.length := by have := HI.out; omega
   have c1 : decide (i < l0.length) = true := decide_eq_true hi_
   have c1b : decide ((i : Int) < (l0.length : Int)) = true := decide_eq_true (by omega)
   have p1 : (i < l0.length) = True := eq_true hi_
   have zi := sw_up i (by omega)
   obtain ⟨n, hn⟩ : ∃ n, rd l0 (i : Int) = n := ⟨_, rfl⟩
   obtain ⟨ad1, e_1, y1⟩ := Kd.at_int (Kd.C_below HR0.out HX.out.2.2.2.2.2.2) (i : Int) (by omega) (by omega)
   rw [hn, Int.toNat_natCast] at y1
   subst e_1
   have hr := HR.out
   rw [List.drop_eq_getElem_cons hi_, show l0[i] = n by rw [← hn]; simp [rd, hi_], swGo] at hr
   have HR2 := Aside0.mk hr
   clear hr HR hn hi_
   obtain ⟨w20, hw20⟩ : ∃ w', w' = wr := ⟨_, rfl⟩
   subst hw20
   (repeat ((fail_if_success (with_reducible refine gate_dst (N := 19) rfl ?_)); first | go_values | go_skip | go_guarded | go_step | go_upon))
   refine goesV_ (some 19) rfl rfl (enters_of Try.func90 (by kernel_rfl) rfl) #[.pointer (some ⟨gS, 0, none⟩), .pointer (some ⟨gO, 0, none⟩)] #[.int .i64 n] rfl rfl (by (try simp only [List.map_toArray, List.map_cons, List.map_nil]); first | done | rfl) ?_
   refine (impl_sweepWord_1.calls w gS gO HG.out n xq yq vq uq w20 _ HX.out (by have := HL.out; have := HI.out; omega) rfl).mono ?_
   rintro e w21 ⟨⟨v, rfl⟩, vz, uz, hx⟩
   refine ⟨_, rfl, ?_⟩
   have HL2 := Aside0.mk (show (swPop xq.length xq yq n).1.length + (swPop xq.length xq yq n).2.length ≤ 2 * i by rw [swPop_len _ _ _ _ (Nat.le_refl _)]; exact HL.out)
   obtain ⟨p, hp⟩ : ∃ p, swPop xq.length xq yq n = p := ⟨_, rfl⟩
   rw [hp] at hx HR2 HL2
   obtain ⟨xz, yz⟩ := p
   obtain ⟨As, cq, e_s⟩ := Kd.R_slice hx.2.2.1
   subst e_s
   obtain ⟨Ao, co, e_o⟩ := Kd.R_slice hx.2.2.2.1
   subst e_o
   have nX := Aside0.mk hx
   have nL := Aside0.mk (show xz.length + yz.length ≤ 3000000 by have h1_ := HL2.out; have := HI.out; (try simp only [] at h1_); omega)
   clear hx hp y1 HX HL
   have HX := nX; have HL := nL
   clear nX nL
   (try simp only [] at HX)
   go_wp2
   have nX := Aside0.mk (HX.out.below (below_drew (Below.refl _ _)))
   clear HX
   have HX := nX
   clear nX
   refine start_ (n := 9) (S := fun w' => w'.cell? ⟨gS, 0, none⟩ = some (.slice As xz.length cq) ∧ w'.cell? ⟨gO, 0, none⟩ = some (.slice Ao yz.length co)) (ds := [7, 8]) #[false, false, false, false, false, false, false, false, false] (by kernel_rfl) rfl rfl ⟨(blk_cell HX.out.1 0).trans rfl, (blk_cell HX.out.2.1 0).trans rfl⟩ (fun hHeld => ?_)
   generalize w21.drew = w5 at HX hHeld ⊢
   obtain ⟨l22, hl22⟩ : ∃ l_, l_ = ([n] : List Int) := ⟨_, rfl⟩
   obtain ⟨l25, hl25⟩ : ∃ l_, l_ = ([73] : List Int) := ⟨_, rfl⟩
   refine take_ (i := 0) (N := some 20) (v := ?_) (a' := ?_) #[true, false, false, false, false, false, false, false, false] rfl rfl (by kernel_rfl) (fun _ _ _ h => h) (Or.inl ⟨by rfl, ?_⟩) hHeld ?_ ?_; rotate_left; (· rintro w' ⟨s0_, s1_⟩; go_simp; with_reducible rfl); rotate_left; (· simp only [Act.put, List.setIfInBounds_toArray, List.set_cons_zero, List.set_cons_succ, i64_w, i32_w]; rfl)
   refine pure_ (i := 1) (N := some 21) (v := ?_) (a' := ?_) #[true, true, false, false, false, false, false, false, false] rfl rfl (by kernel_rfl) (fun _ _ _ h => h) (Or.inl ⟨by rfl, ?_⟩) ?_ ?_; rotate_left; (· intro w'; go_simp; with_reducible rfl); rotate_left; (· simp only [Act.put, List.setIfInBounds_toArray, List.set_cons_zero, List.set_cons_succ, i64_w, i32_w]; rfl)
   refine take_ (i := 4) (N := some 24) (v := ?_) (a' := ?_) #[true, true, false, false, true, false, false, false, false] rfl rfl (by kernel_rfl) (fun _ _ _ h => h) (Or.inl ⟨by rfl, ?_⟩) hHeld ?_ ?_; rotate_left; (· rintro w' ⟨s0_, s1_⟩; go_simp; with_reducible rfl); rotate_left; (· simp only [Act.put, List.setIfInBounds_toArray, List.set_cons_zero, List.set_cons_succ, i64_w, i32_w]; rfl)
   refine join_ (σ := Value × Value × Value) 3 #[true, true, true, true, true, true, false, false, false] (fun s_ => [(22, s_.1), (23, s_.2.1), (25, s_.2.2)]) (fun s_ w' => (SwG w gS gO (.slice As xz.length cq) (.slice Ao yz.length co) s_.2.1 (.slice Ao yz.length co) (xz ++ l22) yz w') ∧ Kd.R (Kd.int .u8) 5 w' 0 (fun _ => True) s_.2.2 l25) ?cont ?start
   case start =>
    intro hCont
    refine two_ (i := 2) (j := 5) (Ni := some 22) (Nj := some 25) #[true, true, true, false, true, false, false, false, false] #[true, true, false, false, true, true, false, false, false] rfl rfl rfl rfl (by kernel_rfl) (by decide) (by decide) (fun K hK => ?_) (fun K hK => ?_)
    ·
     skip
     refine Kd.R_lit_step (Kd.int .i64) _ 3 ?hg (N := 22) ?hd (xs := ([n] : List Int)) (inner := [.int .i64 n]) (ok := fun _ => True) (okp := fun _ => True) ?hr ?hp (fun _ hk => hk) trivial (Below.refl _ _) (Nat.le_refl _) (by simp) ?_; (case hd => rfl); (case hg => rfl); (case hr => first | (go_simp; done) | (go_simp; rfl)); (case hp => exact (Reps.one (show Kd.M (Kd.int .i64) _ _ _ n [.int .i64 n] from rfl) (Reps.none _ _)))
     intro v22 w6 ho hb hg_ hnew_
     clear hg_ hnew_
     rw [← hl22] at ho
     obtain ⟨A22, c22, e_22⟩ := Kd.R_slice ho
     subst e_22
     have H22 := Aside0.mk ho
     have nX := Aside0.mk (HX.out.below hb)
     clear HX
     have HX := nX
     clear nX ho hb
     refine hK.out _ _ ⟨(blk_cell HX.out.1 0).trans rfl, (blk_cell HX.out.2.1 0).trans rfl⟩ (fun hHeld => ?_)
     clear hK K
     refine norm_ (a' := ?_) ?_ ?_; rotate_left; (· show Act.put _ (some 22) _ = _; simp only [Act.put, List.setIfInBounds_toArray, List.set_cons_zero, List.set_cons_succ, i64_w, i32_w]; rfl)
     refine two_ (i := 3) (j := 5) (Ni := some 23) (Nj := some 25) #[true, true, true, true, true, false, false, false, false] #[true, true, true, false, true, true, false, false, false] rfl rfl rfl rfl (by kernel_rfl) (by decide) (by decide) (fun K hK => ?_) (fun K hK => ?_)
     ·
      skip
      refine Kd.R_append_rows_step (Kd.int .i64) (w0 := w) w.heap.size (by rfl) (.tmp 20) (.tmp 22) 24 3 (.int .i64 0) 8 rfl Try.underlying24 swInfoI rfl (by decide) (by omega) (.slice As xz.length cq) xz l22 _ _ _ (fun _ => True) (fun _ => False) rfl rfl ?aO ?aR (fun _ _ h => h) (fun _ h => h.elim) ?aF ?aB ?aS ?aL ?_
      (case aR => exact (Kd.R_reads' H22.out).2.2)
      (case aB => exact HX.out.2.2.2.2.2.2)
      (case aF => exact fun _ _ => trivial)
      (case aO => exact HX.out.2.2.1)
      (case aS => exact HX.out.2.2.2.2.2.2.size)
      (case aL => have := HL.out; rw [hl22, List.length_singleton]; omega)
      intro va_ w7 ho hb hg hat
      have nX := Aside0.mk (HX.out.appS ho hb hg hat)
      clear HX
      have HX := nX
      clear nX ho hb hg hat H22
      refine hK.out _ _ ⟨(blk_cell HX.out.1 0).trans rfl, (blk_cell HX.out.2.1 0).trans rfl⟩ (fun hHeld => ?_)
      clear hK K
      refine norm_ (a' := ?_) ?_ ?_; rotate_left; (· show Act.put _ (some 23) _ = _; simp only [Act.put, List.setIfInBounds_toArray, List.set_cons_zero, List.set_cons_succ, i64_w, i32_w]; rfl)
      refine one_ (i := 5) (N := some 25) #[true, true, true, true, true, true, false, false, false] rfl rfl (by kernel_rfl) (by decide) (fun K hK => ?_)
      refine Kd.R_lit_step (Kd.int .u8) _ 5 ?hg (N := 25) ?hd (xs := ([73] : List Int)) (inner := [.int .u8 73]) (ok := fun _ => True) (okp := fun _ => True) ?hr ?hp (fun _ hk => hk) trivial (Below.refl _ _) (Nat.le_refl _) (by simp) ?_; (case hd => rfl); (case hg => rfl); (case hr => first | (go_simp; done) | (go_simp; rfl)); (case hp => exact (Reps.one (show Kd.M (Kd.int .u8) _ _ _ 73 [.int .u8 73] from rfl) (Reps.none _ _)))
      intro v25 w8 ho hb hg_ hnew_
      clear hg_ hnew_
      rw [← hl25] at ho
      obtain ⟨A25, c25, e_25⟩ := Kd.R_slice ho
      subst e_25
      have H25 := Aside0.mk ho
      have q1_ := Kd.R_base ho
      have q2_ := Kd.R_lt HX.out.2.2.1
      have hap25 : ∀ k, (Value.slice A25 l25.length c25).ownBlock = some k → va_.ownBlock ≠ some k := fun k e1 e2 => by have h1_ := q1_ k e1; have h2_ := q2_ k e2; omega
      clear q1_ q2_
      have nX := Aside0.mk (HX.out.below hb)
      clear HX
      have HX := nX
      clear nX ho hb
      refine hK.out _ _ ⟨(blk_cell HX.out.1 0).trans rfl, (blk_cell HX.out.2.1 0).trans rfl⟩ (fun hHeld => ?_)
      clear hK K
      refine norm_ (a' := ?_) ?_ ?_; rotate_left; (· show Act.put _ (some 25) _ = _; simp only [Act.put, List.setIfInBounds_toArray, List.set_cons_zero, List.set_cons_succ, i64_w, i32_w]; rfl)
      exact norm_ (by simp only [putAll, Act.put, List.setIfInBounds_toArray, List.set_cons_zero, List.set_cons_succ]) (hCont (.slice A22 l22.length c22, va_, .slice A25 l25.length c25) _ ⟨HX.out, Kd.R_lower H25.out (Nat.zero_le _)⟩)
     ·
      skip
      refine Kd.R_lit_step (Kd.int .u8) _ 5 ?hg (N := 25) ?hd (xs := ([73] : List Int)) (inner := [.int .u8 73]) (ok := fun _ => True) (okp := fun _ => True) ?hr ?hp (fun _ hk => hk) trivial (Below.refl _ _) (Nat.le_refl _) (by simp) ?_; (case hd => rfl); (case hg => rfl); (case hr => first | (go_simp; done) | (go_simp; rfl)); (case hp => exact (Reps.one (show Kd.M (Kd.int .u8) _ _ _ 73 [.int .u8 73] from rfl) (Reps.none _ _)))
      intro v25 w7 ho hb hg_ hnew_
      clear hg_ hnew_
      rw [← hl25] at ho
      obtain ⟨A25, c25, e_25⟩ := Kd.R_slice ho
      subst e_25
      have H25 := Aside0.mk ho
      have q1_ := Kd.R_base ho
      have q2_ := Kd.R_lt HX.out.2.2.1
      have hap25 : ∀ k, (Value.slice A25 l25.length c25).ownBlock = some k → (Value.slice As xz.length cq).ownBlock ≠ some k := fun k e1 e2 => by have h1_ := q1_ k e1; have h2_ := q2_ k e2; omega
      clear q1_ q2_
      have nX := Aside0.mk (HX.out.below hb)
      clear HX
      have HX := nX
      clear nX
      have n9_ := Aside0.mk (Kd.R_below H22.out hb)
      clear H22
      have H22 := n9_
      clear n9_ ho hb
      refine hK.out _ _ ⟨(blk_cell HX.out.1 0).trans rfl, (blk_cell HX.out.2.1 0).trans rfl⟩ (fun hHeld => ?_)
      clear hK K
      refine norm_ (a' := ?_) ?_ ?_; rotate_left; (· show Act.put _ (some 25) _ = _; simp only [Act.put, List.setIfInBounds_toArray, List.set_cons_zero, List.set_cons_succ, i64_w, i32_w]; rfl)
      refine one_ (i := 3) (N := some 23) #[true, true, true, true, true, true, false, false, false] rfl rfl (by kernel_rfl) (by decide) (fun K hK => ?_)
      refine Kd.R_append_rows_step (Kd.int .i64) (w0 := w) w.heap.size (by rfl) (.tmp 20) (.tmp 22) 24 3 (.int .i64 0) 8 rfl Try.underlying24 swInfoI rfl (by decide) (by omega) (.slice As xz.length cq) xz l22 _ _ _ (fun _ => True) (fun _ => False) rfl rfl ?aO ?aR (fun _ _ h => h) (fun _ h => h.elim) ?aF ?aB ?aS ?aL ?_
      (case aR => exact (Kd.R_reads' H22.out).2.2)
      (case aB => exact HX.out.2.2.2.2.2.2)
      (case aF => exact fun _ _ => trivial)
      (case aO => exact HX.out.2.2.1)
      (case aS => exact HX.out.2.2.2.2.2.2.size)
      (case aL => have := HL.out; rw [hl22, List.length_singleton]; omega)
      intro va_ w8 ho hb hg hat
      have n9_ := Aside0.mk (Kd.R_grown2 (show Kd.R (Kd.int .u8) 5 _ 0 (fun _ => True) (.slice A25 l25.length c25) l25 from Kd.R_lower H25.out (Nat.zero_le _)) rfl hg (fun k e1 e2 => (hap25 k e2.symm) e1))
      have nX := Aside0.mk (HX.out.appS ho hb hg hat)
      clear HX
      have HX := nX
      clear nX ho hb hg hat H22 H25
      have H25 := n9_
      clear n9_
      refine hK.out _ _ ⟨(blk_cell HX.out.1 0).trans rfl, (blk_cell HX.out.2.1 0).trans rfl⟩ (fun hHeld => ?_)
      clear hK K
      refine norm_ (a' := ?_) ?_ ?_; rotate_left; (· show Act.put _ (some 23) _ = _; simp only [Act.put, List.setIfInBounds_toArray, List.set_cons_zero, List.set_cons_succ, i64_w, i32_w]; rfl)
      exact norm_ (by simp only [putAll, Act.put, List.setIfInBounds_toArray, List.set_cons_zero, List.set_cons_succ]) (hCont (.slice A22 l22.length c22, va_, .slice A25 l25.length c25) _ ⟨HX.out, Kd.R_lower H25.out (Nat.zero_le _)⟩)
    ·
     skip
     refine Kd.R_lit_step (Kd.int .u8) _ 5 ?hg (N := 25) ?hd (xs := ([73] : List Int)) (inner := [.int .u8 73]) (ok := fun _ => True) (okp := fun _ => True) ?hr ?hp (fun _ hk => hk) trivial (Below.refl _ _) (Nat.le_refl _) (by simp) ?_; (case hd => rfl); (case hg => rfl); (case hr => first | (go_simp; done) | (go_simp; rfl)); (case hp => exact (Reps.one (show Kd.M (Kd.int .u8) _ _ _ 73 [.int .u8 73] from rfl) (Reps.none _ _)))
     intro v25 w6 ho hb hg_ hnew_
     clear hg_ hnew_
     rw [← hl25] at ho
     obtain ⟨A25, c25, e_25⟩ := Kd.R_slice ho
     subst e_25
     have H25 := Aside0.mk ho
     have q1_ := Kd.R_base ho
     have q2_ := Kd.R_lt HX.out.2.2.1
     have hap25 : ∀ k, (Value.slice A25 l25.length c25).ownBlock = some k → (Value.slice As xz.length cq).ownBlock ≠ some k := fun k e1 e2 => by have h1_ := q1_ k e1; have h2_ := q2_ k e2; omega
     clear q1_ q2_
     have nX := Aside0.mk (HX.out.below hb)
     clear HX
     have HX := nX
     clear nX ho hb
     refine hK.out _ _ ⟨(blk_cell HX.out.1 0).trans rfl, (blk_cell HX.out.2.1 0).trans rfl⟩ (fun hHeld => ?_)
     clear hK K
     refine norm_ (a' := ?_) ?_ ?_; rotate_left; (· show Act.put _ (some 25) _ = _; simp only [Act.put, List.setIfInBounds_toArray, List.set_cons_zero, List.set_cons_succ, i64_w, i32_w]; rfl)
     refine one_ (i := 2) (N := some 22) #[true, true, true, false, true, true, false, false, false] rfl rfl (by kernel_rfl) (by decide) (fun K hK => ?_)
     refine Kd.R_lit_step (Kd.int .i64) _ 3 ?hg (N := 22) ?hd (xs := ([n] : List Int)) (inner := [.int .i64 n]) (ok := fun _ => True) (okp := fun _ => True) ?hr ?hp (fun _ hk => hk) trivial (Below.refl _ _) (Nat.le_refl _) (by simp) ?_; (case hd => rfl); (case hg => rfl); (case hr => first | (go_simp; done) | (go_simp; rfl)); (case hp => exact (Reps.one (show Kd.M (Kd.int .i64) _ _ _ n [.int .i64 n] from rfl) (Reps.none _ _)))
     intro v22 w7 ho hb hg_ hnew_
     clear hg_ hnew_
     rw [← hl22] at ho
     obtain ⟨A22, c22, e_22⟩ := Kd.R_slice ho
     subst e_22
     have H22 := Aside0.mk ho
     have nX := Aside0.mk (HX.out.below hb)
     clear HX
     have HX := nX
     clear nX
     have n9_ := Aside0.mk (Kd.R_below H25.out hb)
     clear H25
     have H25 := n9_
     clear n9_ ho hb
     refine hK.out _ _ ⟨(blk_cell HX.out.1 0).trans rfl, (blk_cell HX.out.2.1 0).trans rfl⟩ (fun hHeld => ?_)
     clear hK K
     refine norm_ (a' := ?_) ?_ ?_; rotate_left; (· show Act.put _ (some 22) _ = _; simp only [Act.put, List.setIfInBounds_toArray, List.set_cons_zero, List.set_cons_succ, i64_w, i32_w]; rfl)
     refine one_ (i := 3) (N := some 23) #[true, true, true, true, true, true, false, false, false] rfl rfl (by kernel_rfl) (by decide) (fun K hK => ?_)
     refine Kd.R_append_rows_step (Kd.int .i64) (w0 := w) w.heap.size (by rfl) (.tmp 20) (.tmp 22) 24 3 (.int .i64 0) 8 rfl Try.underlying24 swInfoI rfl (by decide) (by omega) (.slice As xz.length cq) xz l22 _ _ _ (fun _ => True) (fun _ => False) rfl rfl ?aO ?aR (fun _ _ h => h) (fun _ h => h.elim) ?aF ?aB ?aS ?aL ?_
     (case aR => exact (Kd.R_reads' H22.out).2.2)
     (case aB => exact HX.out.2.2.2.2.2.2)
     (case aF => exact fun _ _ => trivial)
     (case aO => exact HX.out.2.2.1)
     (case aS => exact HX.out.2.2.2.2.2.2.size)
     (case aL => have := HL.out; rw [hl22, List.length_singleton]; omega)
     intro va_ w8 ho hb hg hat
     have n9_ := Aside0.mk (Kd.R_grown2 (show Kd.R (Kd.int .u8) 5 _ 0 (fun _ => True) (.slice A25 l25.length c25) l25 from Kd.R_lower H25.out (Nat.zero_le _)) rfl hg (fun k e1 e2 => (hap25 k e2.symm) e1))
     have nX := Aside0.mk (HX.out.appS ho hb hg hat)
     clear HX
     have HX := nX
     clear nX ho hb hg hat H22 H25
     have H25 := n9_
     clear n9_
     refine hK.out _ _ ⟨(blk_cell HX.out.1 0).trans rfl, (blk_cell HX.out.2.1 0).trans rfl⟩ (fun hHeld => ?_)
     clear hK K
     refine norm_ (a' := ?_) ?_ ?_; rotate_left; (· show Act.put _ (some 23) _ = _; simp only [Act.put, List.setIfInBounds_toArray, List.set_cons_zero, List.set_cons_succ, i64_w, i32_w]; rfl)
     exact norm_ (by simp only [putAll, Act.put, List.setIfInBounds_toArray, List.set_cons_zero, List.set_cons_succ]) (hCont (.slice A22 l22.length c22, va_, .slice A25 l25.length c25) _ ⟨HX.out, Kd.R_lower H25.out (Nat.zero_le _)⟩)
   case cont =>
    rintro ⟨v22, v23, v25⟩ w9 ⟨hx, hq⟩
    clear HX
    have HX := Aside0.mk hx
    clear hx
    obtain ⟨A25, c25, e_25⟩ := Kd.R_slice hq
    simp only [] at e_25
    subst e_25
    have H25 := Aside0.mk hq
    clear hq
    obtain ⟨A23, c23, e_23⟩ := Kd.R_slice HX.out.2.2.1
    simp only [] at e_23
    subst e_23
    skip
    refine norm_ (a' := ?_) ?_ ?_
    rotate_left
    ·
     simp only [putAll, Act.put, List.setIfInBounds_toArray, List.set_cons_zero, List.set_cons_succ]
     rfl
    refine one_ (i := 6) (N := some 26) #[true, true, true, true, true, true, true, false, false] rfl rfl (by kernel_rfl) (by decide) (fun K hK => ?_)
    refine Kd.R_append_rows_step (Kd.int .u8) (w0 := w) w.heap.size (by rfl) (.tmp 24) (.tmp 25) 22 5 (.int .u8 0) 1 rfl Try.underlying22 swInfoB rfl (by decide) (by omega) (.slice Ao yz.length co) yz l25 _ _ _ (fun _ => True) (fun _ => False) rfl rfl ?aO ?aR (fun _ _ h => h) (fun _ h => h.elim) ?aF ?aB ?aS ?aL ?_
    (case aR => exact (Kd.R_reads' H25.out).2.2)
    (case aB => exact HX.out.2.2.2.2.2.2)
    (case aF => exact fun _ _ => trivial)
    (case aO => exact HX.out.2.2.2.1)
    (case aS => exact HX.out.2.2.2.2.2.2.size)
    (case aL => have := HL.out; rw [hl25, List.length_singleton]; omega)
    intro va_ w10 ho hb hg hat
    obtain ⟨A26, c26, e_26⟩ := Kd.R_slice ho
    subst e_26
    have nX := Aside0.mk (HX.out.appO ho hb hg hat)
    clear HX
    have HX := nX
    clear nX ho hb hg hat H25
    refine hK.out _ _ ⟨(blk_cell HX.out.1 0).trans rfl, (blk_cell HX.out.2.1 0).trans rfl⟩ (fun hHeld => ?_)
    clear hK K
    refine norm_ (a' := ?_) ?_ ?_; rotate_left; (· show Act.put _ (some 26) _ = _; simp only [Act.put, List.setIfInBounds_toArray, List.set_cons_zero, List.set_cons_succ, i64_w, i32_w]; rfl)
    refine last_ (i := 7) (N := none) #[true, true, true, true, true, true, true, true, false] rfl rfl (by kernel_rfl) (by decide) (fun K hK => ?_)
    refine put_step (by rfl) (by rfl) (t := 24) (p := .tmp 3) (v := .tmp 23) (by rfl) (g := _) (off := 0) (#[.slice A23 (xz ++ l22).length c23]) ([.slice A23 (xz ++ l22).length c23]) (by rfl) (by rfl) HX.out.1 (by rfl) (by first | rfl | decide) (by simp [Value.oneCell']) ?hfit ?hc ?_
    case hfit => simp
    case hc => rfl
    intro w11 hw_ hgr_
    have nX := Aside0.mk (HX.out.putS HG.out hw_ hgr_)
    clear HX
    have HX := nX
    clear nX hw_ hgr_ hHeld
    refine hK.out _ _ ?_
    clear hK K
    refine last_ (i := 8) (N := none) #[true, true, true, true, true, true, true, true, true] rfl rfl (by kernel_rfl) (by decide) (fun K hK => ?_)
    refine put_step (by rfl) (by rfl) (t := 22) (p := .tmp 4) (v := .tmp 26) (by rfl) (g := _) (off := 0) (#[.slice A26 (yz ++ l25).length c26]) ([.slice A26 (yz ++ l25).length c26]) (by rfl) (by rfl) HX.out.2.1 (by rfl) (by first | rfl | decide) (by simp [Value.oneCell']) ?hfit ?hc ?_
    case hfit => simp
    case hc => rfl
    intro w12 hw_ hgr_
    have nX := Aside0.mk (HX.out.putO HG.out hw_ hgr_)
    clear HX
    have HX := nX
    clear nX hw_ hgr_
    refine hK.out _ _ ?_
    clear hK K
    refine done_ (by kernel_rfl) ?_
    subst hl22 hl25
    go_wp2
    go_roundg d
    case measure => omega
    case rel => exact ⟨i + 1, xz ++ [n], yz ++ [73], _, _, (by first | rfl | rw [zi]), ⟨by have := HI.out; omega⟩, HR2, ⟨by have h1_ := HL2.out; (try simp only [] at h1_); simp only [List.length_append, List.length_singleton]; omega⟩, HX⟩
end Go.Proofs.Ytfjbgmemjjjjoaa.PFnEndsCounts
