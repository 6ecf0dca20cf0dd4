-- laid by mkprint.py, a program of this claim's writer, over the kit's print program; parts of it are typed by hand
import Derived.Test.YtmgekfoiamjijaaPFnConflictsx0
import Derived.Test.YtmgekfoiamjijaaPFnConflictsx5
import Derived.Test.YtmgekfoiamjijaaPFnConflictsx7
import Derived.Test.YtmgekfoiamjijaaPFnConflictsx8
import Derived.Test.YtmgekfoiamjijaaPFnConflictsx10
import Derived.Test.YtmgekfoiamjijaaPFnConflictsx12
namespace Go.Proofs.Ytmgekfoiamjijaa.PFnConflicts
open Go.RowKit Go.Proofs.YtmgekfoiamjijaaW.PrintWords Go.Proofs.YtmgekfoiamjijaaW.PrintLast Go.Proofs.YtmgekfoiamjijaaW.PrintMore
attribute [local go_sem] max2_int min2_int max_two min_two max_three min_three max_four min_four
set_option linter.unusedVariables false
set_option linter.unusedSimpArgs false
theorem plSpS : (Try.prog.info? 24).map (fun i => (i.zero, i.size, i.bytes)) = some (some (.slice none 0 0), 1, 24) := by kernel_rfl
def spec_l7Moves.f (k : Nat) (l0 l1 : List Int) : Option Pl := if l1.length = l0.length ∧ l0.length ≤ 1000000 then movesGo k l0 l1 l0.length 0 Pl.zero else none
theorem spec_l7Moves.mono : ∀ a0 a1 k, LeO (spec_l7Moves.f k a0 a1) (spec_l7Moves.f (k + 1) a0 a1) := fun _ _ _ => LeO.ite (movesGo_mono _ _ _ _ _ _) (LeO.none _)
set_option maxHeartbeats 8000000 in
set_option maxRecDepth 100000 in
theorem spec_l7Moves.calls (k : Nat) (A0 : Option Addr) (c0 : Nat) (l0 : List Int) (A1 : Option Addr) (c1 : Nat) (l1 : List Int) (r : Pl) (w : World) (hr0 : Kd.C (Kd.int .i64) w A0 l0.length l0) (hc0 : l0.length ≤ c0) (hr1 : Kd.C (Kd.int .i64) w A1 l1.length l1) (hc1 : l1.length ≤ c1) (h : spec_l7Moves.f k l0 l1 = some r) :
    Calls Try.prog 44 #[.slice A0 l0.length c0, .slice A1 l1.length c1] w fun e w' => ∃ (gs : Nat) (vo : Value), e = .returned (.agg (seven gs r.mv vo r.d)) ∧ (Kd.int .i64).R 3 w' w.heap.size (fun _ => True) vo (r.x 4) ∧ Below w.heap.size w w' := by
  unfold spec_l7Moves.f at h
  by_cases hlen : l1.length = l0.length ∧ l0.length ≤ 1000000
  case neg => rw [if_neg hlen] at h; cases h
  rw [if_pos hlen] at h
  have HL := Aside0.mk hlen
  have HF := Aside0.mk h
  clear hlen h
  have HR0 := Aside0.mk hr0
  have HR1 := Aside0.mk hr1
  have HC0 := Aside0.mk hc0
  have HC1 := Aside0.mk hc1
  clear hr0 hr1 hc0 hc1
  go_enter Try.func44, Try.ntmps44
  (repeat ((fail_if_success (with_reducible refine gate_dst (N := 4) rfl ?_)); first | go_values | go_skip | go_guarded | go_step | go_upon))
  refine box_event ?hg (N := 4) ?hd (cs := #[.slice none 0 0, .string ⟨#[]⟩, .slice none 0 0, .int .i64 0, .int .i64 0, .int .i64 0, .int .i64 0]) (t := 61) ?hr ?_
  case hd => rfl
  case hg => rfl
  case hr => first | (go_simp; done) | (go_simp; rfl)
  intro gr hgr w1 hbx1 hb1
  have Hgr := Aside0.mk hgr
  clear hgr
  have hmk := fun W => make4 (P := Try.prog) 59 24 24 Try.underlying59 plSpS (by decide) W
  (repeat ((fail_if_success (with_reducible refine gate_dst (N := 8) rfl ?_)); first | go_values | go_skip | go_guarded | go_step | go_upon))
  refine slice_event ?hg (N := 8) ?hd (cs := quad (fun _ => .slice none 0 0)) (t := 24) (n := 4) ?hr ?_
  case hd => rfl
  case hg => rfl
  case hr => first | (go_simp; done) | (go_simp; rfl)
  intro gs hgs w2 hbx2 hb2
  have Hgs := Aside0.mk hgs
  clear hgs hmk
  (repeat ((fail_if_success (with_reducible refine gate_dst (N := 9) rfl ?_)); first | go_values | go_skip | go_guarded | go_step | go_upon))
  refine Kd.R_lit (Kd.int .i64) (w0 := w) w.heap.size 3 ?hg (N := 9) ?hd (xs := ([] : List Int)) (inner := []) (ok := fun _ => True) (okp := fun _ => True) ?hr (Reps.none _ _) (fun _ hk => hk) trivial (below_step hb1 hb2) (below_step hb1 hb2).size (by simp) ?_
  case hd => rfl
  case hg => rfl
  case hr => first | (go_simp; done) | (go_simp; rfl)
  intro vE w3 ho hbE hgE hnew
  obtain ⟨AE, cE, ev_⟩ := Kd.R_slice ho
  rw [List.length_nil] at ev_
  subst ev_
  (repeat ((fail_if_success (with_reducible refine gate_dst (N := 5) rfl ?_)); first | go_values | go_skip | go_guarded | go_step | go_upon))
  refine box_event ?hg (N := 5) ?hd (cs := #[.slice none 0 0, .string ⟨#[]⟩, .slice none 0 0, .int .i64 0, .int .i64 0, .int .i64 0, .int .i64 0]) (t := 61) ?hr ?_
  case hd => rfl
  case hg => rfl
  case hr => first | (go_simp; done) | (go_simp; rfl)
  intro gp hgp w4 hbx4 hb4
  have Hgp := Aside0.mk hgp
  clear hgp
  have l1_ := blk_lt hbx1
  have l2_ := blk_lt hbx2
  have q1_ := Hgr.out
  have q2_ := Hgs.out
  have q3_ := Hgp.out
  have q4_ := hb1.size
  have q5_ := hb2.size
  have q6_ := hgE.size
  have q7_ := hb4.size
  have HN := Aside0.mk (show PlN 3 5 61 24 61 w gp gs gr from ⟨⟨by omega, by omega, by omega⟩, ⟨by omega, by omega, by omega⟩, ⟨by decide, by decide, by decide⟩, ⟨by decide, by decide, by decide⟩, by decide⟩)
  have HX := Aside0.mk (show PlX 3 5 61 24 61 w w4 gp gs gr #[.slice none 0 0, .string ⟨#[]⟩, .slice none 0 0, .int .i64 0, .int .i64 0, .int .i64 0, .int .i64 0] (quad (upd (fun _ => .slice none 0 0) 4 (.slice AE 0 cE))) #[.slice none 0 0, .string ⟨#[]⟩, .slice none 0 0, .int .i64 0, .int .i64 0, .int .i64 0, .int .i64 0] (upd (fun _ => .slice none 0 0) 4 (.slice AE 0 cE)) (fun _ => []) (.slice none 0 0) [] from ⟨⟨hbx4, blk_below (blk_grown hbx2 hgE (by simp)) hb4, blk_below (blk_grown (blk_below hbx1 hb2) hgE (by simp)) hb4⟩, Five.below (by have h_ := (Five.nil 3 w2 w.heap.size 5).push (j := 4) (by decide) ho hgE (.inr hnew); rwa [show upd (fun _ : Nat => ([] : List Int)) 4 [] = fun _ => [] from by funext i; simp [upd]] at h_) hb4, Kd.R_nil _ _ _ _ _, below_step hbE hb4⟩)
  clear hbx1 hbx2 hbx4 hb1 hb2 hb4 ho hbE hgE hnew l1_ l2_ q1_ q2_ q3_ q4_ q5_ q6_ q7_ Hgr Hgs Hgp
  (repeat ((fail_if_success (with_reducible refine gate_store (t := 61) (p := 5) rfl ?_)); first | go_values | go_skip | go_guarded | go_step | go_upon))
  refine put_event (by rfl) (by rfl) (t := 61) (p := .tmp 5) (by rfl) (g := _) (off := 0) (seven gs [] (.slice AE 0 cE) (fun _ => 0)) ([.slice (some ⟨gs, 0, none⟩) 4 4, .string ⟨#[]⟩, .slice AE 0 cE, .int .i64 0, .int .i64 0, .int .i64 0, .int .i64 0]) (by rfl) (by rfl) HX.out.1.1 (by rfl) (by first | rfl | decide) (by simp [Value.oneCell']) ?hfit ?hc ?_
  case hfit => first | decide | (simp; done) | (simp [seven]; done)
  case hc => rfl
  intro w5 hw_ hgr_
  have nX := Aside0.mk (PlX.putP HN.out HX.out hw_ hgr_)
  clear HX hw_ hgr_
  have HX := nX
  clear nX
  go_wp2
  go_loopg [6] l0.length (fun kq v6 w' => ∃ (i : Nat) (s : Pl) (c : Nat → Value), v6 = .int .i64 (i : Int) ∧ Aside0 (i + kq = l0.length) ∧ Aside0 (movesGo k l0 l1 kq i s = some r) ∧ Aside0 (PlX 3 5 61 24 61 w w' gp gs gr (seven gs s.mv (c 4) s.d) (quad c) #[.slice none 0 0, .string ⟨#[]⟩, .slice none 0 0, .int .i64 0, .int .i64 0, .int .i64 0, .int .i64 0] c s.x (.slice none 0 0) []))
  case atStart => exact ⟨0, Pl.zero, (upd (fun _ => .slice none 0 0) 4 (.slice AE 0 cE)), rfl, ⟨by omega⟩, HF, HX⟩
  case round =>
    clear HX HF
    obtain ⟨i, s, c, rfl, HI, HA, HX⟩ := hrel
    cases gk with
    | zero =>
      have c1 : decide (i < l0.length) = false := decide_eq_false (by have := HI.out; omega)
      obtain rfl := Option.some.inj (show some s = some r from HA.out)
      clear HA
      have e0 : wr.cell? ⟨gp, 0, none⟩ = some (.slice (some ⟨gs, 0, none⟩) 4 4) := (blk_cell HX.out.1.1 0).trans rfl
      have e1 : wr.cell? ⟨gp, 1, none⟩ = some (.string (strOfNums s.mv)) := (blk_cell HX.out.1.1 1).trans rfl
      have e2 : wr.cell? ⟨gp, 2, none⟩ = some (c 4) := (blk_cell HX.out.1.1 2).trans rfl
      have e3 : wr.cell? ⟨gp, 3, none⟩ = some (.int .i64 (s.d 0)) := (blk_cell HX.out.1.1 3).trans rfl
      have e4 : wr.cell? ⟨gp, 4, none⟩ = some (.int .i64 (s.d 1)) := (blk_cell HX.out.1.1 4).trans rfl
      have e5 : wr.cell? ⟨gp, 5, none⟩ = some (.int .i64 (s.d 2)) := (blk_cell HX.out.1.1 5).trans rfl
      have e6 : wr.cell? ⟨gp, 6, none⟩ = some (.int .i64 (s.d 3)) := (blk_cell HX.out.1.1 6).trans rfl
      go_wp2_with (first | ((with_reducible refine gate_store (t := 61) (p := 4) rfl ?_); refine put_event (by rfl) (by rfl) (t := 61) (p := .tmp 4) (by rfl) (g := _) (off := 0) (seven gs s.mv (c 4) s.d) ([.slice (some ⟨gs, 0, none⟩) 4 4, .string (strOfNums s.mv), c 4, .int .i64 (s.d 0), .int .i64 (s.d 1), .int .i64 (s.d 2), .int .i64 (s.d 3)]) (by rfl) (by rfl) HX.out.1.2.2 (by rfl) (by first | rfl | decide) (seven_one (Kd.R_val (HX.out.row 4 (by decide))).2) ?hfit ?hc ?_; (case hfit => first | decide | (simp; done) | (simp [seven]; done)); (case hc => rfl); intro w6 hw_ hgr_; have nX := Aside0.mk (PlX.putR HN.out HX.out hw_ hgr_); clear HX hw_ hgr_; have HX := nX; clear nX))
      clear e0 e1 e2 e3 e4 e5 e6
      (try simp only [Exit.inBlock, Exit.then])
      refine bodyPost_ret (results_cell_row rfl _ _ gr 61 (seven gs s.mv (c 4) s.d) (0, 0) _ rfl HX.out.1.2.2 Try.underlying61 rfl (by kernel_rfl)) rfl ?_
      exact ⟨gs, c 4, rfl, HX.out.row 4 (by decide), HX.out.2.2.2⟩
    | succ d =>
      have c1 : decide (i < l0.length) = true := decide_eq_true (by have := HI.out; omega)
      have hA := HA.out
      rw [movesGo] at hA
      by_cases hown : (0 ≤ rd l1 (i : Int) ∧ rd l1 (i : Int) < 4) ∧ s.ok
      case neg => rw [if_neg hown] at hA; exact absurd hA (by simp)
      rw [if_pos hown] at hA
      have HO := Aside0.mk hown
      clear HA
      obtain ⟨own, hown2⟩ : ∃ o : Nat, rd l1 (i : Int) = (o : Int) := ⟨_, (Int.toNat_of_nonneg hown.1.1).symm⟩
      rw [hown2, Int.toNat_natCast] at hA
      have hlt : own < 4 := by have := hown.1.2; omega
      obtain ⟨nn, hnn⟩ : ∃ n : Int, rd l0 (i : Int) = n := ⟨_, rfl⟩
      rw [hnn] at hA
      obtain ⟨t, h1, h2⟩ := Option.bind_eq_some_iff.1 hA
      have HT := Aside0.mk h1
      have HA := Aside0.mk h2
      have HLT := Aside0.mk hlt
      clear hA h1 h2 hown
      obtain ⟨ad0, e0_, x0⟩ := Kd.at_int (Kd.C_below HR0.out HX.out.2.2.2) (i : Int) (by omega) (by have := HI.out; omega)
      obtain ⟨ad1, e1_, x1⟩ := Kd.at_int (Kd.C_below HR1.out HX.out.2.2.2) (i : Int) (by omega) (by have := HI.out; have := HL.out; omega)
      subst e0_ e1_
      rw [hnn] at x0
      rw [hown2] at x1
      rw [Int.toNat_natCast] at x0 x1
      have HNN := Aside0.mk hnn
      clear hown2 hnn
      have p1 : (i < l0.length) = True := eq_true (by have := HI.out; omega)
      have p2 : (i < l1.length) = True := eq_true (by have := HI.out; have := HL.out; omega)
      have p3 : ((own : Int) < 4) = True := eq_true (by have := HLT.out; omega)
      have p4 : (own < 4) = True := eq_true HLT.out
      obtain ⟨As, cs, eS⟩ := Kd.R_slice (HX.out.row own (by have := HLT.out; omega))
      have HS := Aside0.mk eS
      clear eS hlt
      go_wp2
      have nX := Aside0.mk (HX.out.below (below_drew (Below.refl _ _)))
      refine start_ (n := 16) (S := fun w' => w'.cell? ⟨gp, 0, none⟩ = some (.slice (some ⟨gs, 0, none⟩) 4 4) ∧ w'.cell? ⟨gs, own, none⟩ = some (.slice As (s.x own).length cs) ∧ w'.cell? (ad0.add i) = some (.int .i64 nn)) (ds := [15]) #[false, false, false, false, false, false, false, false, false, false, false, false, false, false, false, false] (by kernel_rfl) rfl rfl ⟨pw_cell_below (below_drew (Below.refl _ _)) ((blk_cell HX.out.1.1 0).trans rfl), pw_cell_below (below_drew (Below.refl _ _)) ((blk_cell HX.out.1.2.1 own).trans ((quad_get c own HLT.out).trans (congrArg some HS.out))), pw_cell_below (below_drew (Below.refl _ _)) x0⟩ (fun hHeld => ?_)
      clear HX x0 x1
      have HX := nX
      clear nX
      generalize wr.drew = w7 at HX hHeld ⊢
      refine pure_ (i := 0) (N := some 21) (v := ?_) (a' := ?_) #[true, false, false, false, false, false, false, false, false, false, false, false, false, false, false, false] rfl rfl (by kernel_rfl) (fun _ _ _ h => h) (Or.inl ⟨by rfl, ?_⟩) ?_ ?_
      rotate_left
      · intro w'
        go_simp
        with_reducible rfl
      rotate_left
      · simp only [Act.put, List.setIfInBounds_toArray, List.set_cons_zero, List.set_cons_succ, i64_w, i32_w]
        rfl
      refine take_ (i := 1) (N := some 22) (v := ?_) (a' := ?_) #[true, true, false, false, false, false, false, false, false, false, false, false, false, false, false, false] rfl rfl (by kernel_rfl) (fun _ _ _ h => h) (Or.inl ⟨by rfl, ?_⟩) hHeld ?_ ?_
      rotate_left
      · rintro w' ⟨s0_, s1_⟩
        go_simp
        with_reducible rfl
      rotate_left
      · simp only [Act.put, List.setIfInBounds_toArray, List.set_cons_zero, List.set_cons_succ, i64_w, i32_w]
        rfl
      refine pure_ (i := 2) (N := some 23) (v := ?_) (a' := ?_) #[true, true, true, false, false, false, false, false, false, false, false, false, false, false, false, false] rfl rfl (by kernel_rfl) (fun _ _ _ h => h) (Or.inl ⟨by rfl, ?_⟩) ?_ ?_
      rotate_left
      · intro w'
        go_simp
        with_reducible rfl
      rotate_left
      · simp only [Act.put, List.setIfInBounds_toArray, List.set_cons_zero, List.set_cons_succ, i64_w, i32_w]
        rfl
      refine pure_ (i := 3) (N := some 24) (v := ?_) (a' := ?_) #[true, true, true, true, false, false, false, false, false, false, false, false, false, false, false, false] rfl rfl (by kernel_rfl) (fun _ _ _ h => h) (Or.inl ⟨by rfl, ?_⟩) ?_ ?_
      rotate_left
      · intro w'
        go_simp
        with_reducible rfl
      rotate_left
      · simp only [Act.put, List.setIfInBounds_toArray, List.set_cons_zero, List.set_cons_succ, i64_w, i32_w]
        rfl
      refine take_ (i := 4) (N := some 25) (v := ?_) (a' := ?_) #[true, true, true, true, true, false, false, false, false, false, false, false, false, false, false, false] rfl rfl (by kernel_rfl) (fun _ _ _ h => h) (Or.inl ⟨by rfl, ?_⟩) hHeld ?_ ?_
      rotate_left
      · rintro w' ⟨s0_, s1_⟩
        go_simp
        with_reducible rfl
      rotate_left
      · simp only [Act.put, List.setIfInBounds_toArray, List.set_cons_zero, List.set_cons_succ, i64_w, i32_w]
        rfl
      refine pure_ (i := 5) (N := some 26) (v := ?_) (a' := ?_) #[true, true, true, true, true, true, false, false, false, false, false, false, false, false, false, false] rfl rfl (by kernel_rfl) (fun _ _ _ h => h) (Or.inl ⟨by rfl, ?_⟩) ?_ ?_
      rotate_left
      · intro w'
        go_simp
        with_reducible rfl
      rotate_left
      · simp only [Act.put, List.setIfInBounds_toArray, List.set_cons_zero, List.set_cons_succ, i64_w, i32_w]
        rfl
      refine pure_ (i := 6) (N := some 27) (v := ?_) (a' := ?_) #[true, true, true, true, true, true, true, false, false, false, false, false, false, false, false, false] rfl rfl (by kernel_rfl) (fun _ _ _ h => h) (Or.inl ⟨by rfl, ?_⟩) ?_ ?_
      rotate_left
      · intro w'
        go_simp
        with_reducible rfl
      rotate_left
      · simp only [Act.put, List.setIfInBounds_toArray, List.set_cons_zero, List.set_cons_succ, i64_w, i32_w]
        rfl
      refine take_ (i := 7) (N := some 28) (v := ?_) (a' := ?_) #[true, true, true, true, true, true, true, true, false, false, false, false, false, false, false, false] rfl rfl (by kernel_rfl) (fun _ _ _ h => h) (Or.inl ⟨by rfl, ?_⟩) hHeld ?_ ?_
      rotate_left
      · rintro w' ⟨s0_, s1_⟩
        go_simp
        with_reducible rfl
      rotate_left
      · simp only [Act.put, List.setIfInBounds_toArray, List.set_cons_zero, List.set_cons_succ, i64_w, i32_w]
        rfl
      refine pure_ (i := 8) (N := some 29) (v := ?_) (a' := ?_) #[true, true, true, true, true, true, true, true, true, false, false, false, false, false, false, false] rfl rfl (by kernel_rfl) (fun _ _ _ h => h) (Or.inl ⟨by rfl, ?_⟩) ?_ ?_
      rotate_left
      · intro w'
        go_simp
        with_reducible rfl
      rotate_left
      · simp only [Act.put, List.setIfInBounds_toArray, List.set_cons_zero, List.set_cons_succ, i64_w, i32_w]
        rfl
      refine pure_ (i := 9) (N := some 30) (v := ?_) (a' := ?_) #[true, true, true, true, true, true, true, true, true, true, false, false, false, false, false, false] rfl rfl (by kernel_rfl) (fun _ _ _ h => h) (Or.inl ⟨by rfl, ?_⟩) ?_ ?_
      rotate_left
      · intro w'
        go_simp
        with_reducible rfl
      rotate_left
      · simp only [Act.put, List.setIfInBounds_toArray, List.set_cons_zero, List.set_cons_succ, i64_w, i32_w]
        rfl
      refine pure_ (i := 10) (N := some 31) (v := ?_) (a' := ?_) #[true, true, true, true, true, true, true, true, true, true, true, false, false, false, false, false] rfl rfl (by kernel_rfl) (fun _ _ _ h => h) (Or.inl ⟨by rfl, ?_⟩) ?_ ?_
      rotate_left
      · intro w'
        go_simp
        with_reducible rfl
      rotate_left
      · simp only [Act.put, List.setIfInBounds_toArray, List.set_cons_zero, List.set_cons_succ, i64_w, i32_w]
        rfl
      refine take_ (i := 11) (N := some 32) (v := ?_) (a' := ?_) #[true, true, true, true, true, true, true, true, true, true, true, true, false, false, false, false] rfl rfl (by kernel_rfl) (fun _ _ _ h => h) (Or.inl ⟨by rfl, ?_⟩) hHeld ?_ ?_
      rotate_left
      · rintro w' ⟨s0_, s1_⟩
        go_simp
        with_reducible rfl
      rotate_left
      · simp only [Act.put, List.setIfInBounds_toArray, List.set_cons_zero, List.set_cons_succ, i64_w, i32_w]
        rfl
      refine one_ (i := 12) (N := some 33) #[true, true, true, true, true, true, true, true, true, true, true, true, true, false, false, false] rfl rfl (by kernel_rfl) (by decide) (fun K hK => ?_)
      refine event_step (w1 := w7.alloc (.cells [.int .i64 nn].toArray 3)) (v := .slice (some ⟨w7.heap.size, 0, none⟩) 1 1) (by rfl) ?hr ?_
      case hr => first | (go_simp; done) | (go_simp; rfl)
      refine hK.out _ _ ⟨pw_cell_below (below_alloc (Below.refl _ _) _) hHeld.1, pw_cell_below (below_alloc (Below.refl _ _) _) hHeld.2.1, pw_cell_below (below_alloc (Below.refl _ _) _) hHeld.2.2⟩ (fun hHeld => ?_)
      clear hK K
      refine norm_ (a' := ?_) ?_ ?_
      rotate_left
      · show Act.put _ (some 33) _ = _
        simp only [Act.put, List.setIfInBounds_toArray, List.set_cons_zero, List.set_cons_succ, i64_w, i32_w]
        rfl
      refine one_ (i := 13) (N := some 34) #[true, true, true, true, true, true, true, true, true, true, true, true, true, true, false, false] rfl rfl (by kernel_rfl) (by decide) (fun K hK => ?_)
      refine Kd.R_append_step (Kd.int .i64) (w0 := w) w.heap.size (by rfl) (.tmp 28) (.tmp 33) 24 3 (.int .i64 0) 8 (by rfl) Try.underlying24 plSpI rfl (by decide) (by omega) (.slice As (s.x own).length cs) (s.x own) nn [.int .i64 nn] (fun q_ => some q_ = (.slice As (s.x own).length cs : Value).ownBlock ∨ w7.heap.size ≤ q_) (fun _ => False) (by rfl) (by rfl) ?aP (fun _ hk => hk.elim) ?aF ?aO ?aB ?aS ?aL ?_
      case aP => exact rfl
      case aF => exact (fun _ h_ => .inr h_)
      case aO => exact (by have h1_ := HX.out.2.1.own own (by have := HLT.out; omega); rw [HS.out] at h1_; exact h1_)
      case aB => exact HX.out.2.2.2
      case aS => exact HX.out.2.2.2.size
      case aL => have h1_ := HO.out.2.2 own HLT.out; omega
      intro v6 w8 ho hb_ hg_ hat_
      obtain ⟨A6, c6, ev_⟩ := Kd.R_slice ho
      rw [List.length_append, List.length_singleton] at ev_
      subst ev_
      have nX := Aside0.mk (PlX.app HN.out HX.out (j := own) (by have := HLT.out; omega) ho (by rw [HS.out]; exact hg_) (by rw [HS.out]; exact hat_) hb_)
      clear HX ho hb_ hg_ hat_ hHeld
      have HX := nX
      clear nX
      refine hK.out _ _ ⟨(blk_cell HX.out.1.1 0).trans rfl, (blk_cell HX.out.1.2.1 own).trans ((quad_get c own HLT.out).trans (congrArg some HS.out)), came HR0.out HX.out.2.2.2 i (by have := HI.out; omega) HNN.out⟩ (fun hHeld => ?_)
      clear hK K
      refine norm_ (a' := ?_) ?_ ?_
      rotate_left
      · show Act.put _ (some 34) _ = _
        simp only [Act.put, List.setIfInBounds_toArray, List.set_cons_zero, List.set_cons_succ, i64_w, i32_w]
        rfl
      refine pure_ (i := 14) (N := some 35) (v := ?_) (a' := ?_) #[true, true, true, true, true, true, true, true, true, true, true, true, true, true, true, false] rfl rfl (by kernel_rfl) (fun _ _ _ h => h) (Or.inl ⟨by rfl, ?_⟩) ?_ ?_
      rotate_left
      · intro w'
        go_simp
        with_reducible rfl
      rotate_left
      · simp only [Act.put, List.setIfInBounds_toArray, List.set_cons_zero, List.set_cons_succ, i64_w, i32_w]
        rfl
      refine last_ (i := 15) (N := none) #[true, true, true, true, true, true, true, true, true, true, true, true, true, true, true, true] rfl rfl (by kernel_rfl) (by decide) (fun K hK => ?_)
      refine put_step (by rfl) (by rfl) (t := 24) (p := .tmp 35) (v := .tmp 34) (by rfl) (g := _) (off := own) (quad (upd c own (.slice A6 ((s.x own).length + 1) c6))) ([(.slice A6 ((s.x own).length + 1) c6)]) (by rfl) (by rfl) HX.out.1.2.1 (by rfl) (by first | rfl | decide) (by simp [Value.oneCell']) ?hfit ?hc ?_
      case hfit => show own + 1 ≤ 4; have := HLT.out; omega
      case hc => exact quad_put c own (.slice A6 ((s.x own).length + 1) c6) HLT.out
      intro w9 hw_ hgr_
      have nX := Aside0.mk (PlX.putS HN.out HX.out hw_ hgr_)
      clear HX hw_ hgr_
      have HX := nX
      clear nX
      have hc4_ : c 4 = upd c own (.slice A6 ((s.x own).length + 1) c6) 4 := (upd_ne c _ (by have := HLT.out; omega)).symm
      rw [hc4_] at HX
      clear hc4_
      obtain ⟨c2, hc2_⟩ : ∃ c2, c2 = upd c own (.slice A6 ((s.x own).length + 1) c6) := ⟨_, rfl⟩
      rw [← hc2_] at HX
      have HC2 := Aside0.mk (show c2 own = (.slice A6 ((s.x own).length + 1) c6) from by rw [hc2_]; exact upd_same _ _ _)
      clear hc2_ HS
      refine hK.out _ _ ?_
      clear hK K
      refine done_ (by kernel_rfl) ?_
      go_wp2
      have nX := Aside0.mk (HX.out.below (below_drew (Below.refl _ _)))
      refine start_ (n := 9) (S := fun w' => w'.cell? ⟨gp, 1, none⟩ = some (.string (strOfNums s.mv)) ∧ True) (ds := [8]) #[false, false, false, false, false, false, false, false, false] (by kernel_rfl) rfl rfl ⟨pw_cell_below (below_drew (Below.refl _ _)) ((blk_cell HX.out.1.1 1).trans rfl), trivial⟩ (fun hHeld => ?_)
      clear HX
      have HX := nX
      clear nX
      generalize w9.drew = w10 at HX hHeld ⊢
      refine pure_ (i := 0) (N := some 36) (v := ?_) (a' := ?_) #[true, false, false, false, false, false, false, false, false] rfl rfl (by kernel_rfl) (fun _ _ _ h => h) (Or.inl ⟨by rfl, ?_⟩) ?_ ?_
      rotate_left
      · intro w'
        go_simp
        with_reducible rfl
      rotate_left
      · simp only [Act.put, List.setIfInBounds_toArray, List.set_cons_zero, List.set_cons_succ, i64_w, i32_w]
        rfl
      refine take_ (i := 1) (N := some 37) (v := ?_) (a' := ?_) #[true, true, false, false, false, false, false, false, false] rfl rfl (by kernel_rfl) (fun _ _ _ h => h) (Or.inl ⟨by rfl, ?_⟩) hHeld ?_ ?_
      rotate_left
      · rintro w' ⟨s0_, s1_⟩
        go_simp
        with_reducible rfl
      rotate_left
      · simp only [Act.put, List.setIfInBounds_toArray, List.set_cons_zero, List.set_cons_succ, i64_w, i32_w]
        rfl
      refine pure_ (i := 2) (N := some 38) (v := ?_) (a' := ?_) #[true, true, true, false, false, false, false, false, false] rfl rfl (by kernel_rfl) (fun _ _ _ h => h) (Or.inl ⟨by rfl, ?_⟩) ?_ ?_
      rotate_left
      · intro w'
        go_simp
        with_reducible rfl
      rotate_left
      · simp only [Act.put, List.setIfInBounds_toArray, List.set_cons_zero, List.set_cons_succ, i64_w, i32_w]
        rfl
      refine pure_ (i := 3) (N := some 39) (v := ?_) (a' := ?_) #[true, true, true, true, false, false, false, false, false] rfl rfl (by kernel_rfl) (fun _ _ _ h => h) (Or.inl ⟨by rfl, ?_⟩) ?_ ?_
      rotate_left
      · intro w'
        go_simp
        with_reducible rfl
      rotate_left
      · simp only [Act.put, List.setIfInBounds_toArray, List.set_cons_zero, List.set_cons_succ, i64_w, i32_w]
        rfl
      have zj1 : wrap64 ((own : Int) + 1) = (own : Int) + 1 := w64_ (by have := HLT.out; omega)
      have hsl : ∀ w', Sem.run Try.prog (Instr.slice 9 (.string (⟨#[65, 66, 67, 68]⟩ : ByteArray)) (some (.int .i64 (own : Int))) (some (.int .i64 ((own : Int) + 1))) none) w' = .ok (.string (strOfNums [65 + (own : Int)])) w' := fun w' => sub_one (P := Try.prog) 9 Try.underlying9 (⟨#[65, 66, 67, 68]⟩ : ByteArray) 65 rfl up4 own HLT.out
      have hz : (9223372036854775807 < (strOfNums s.mv).size + (strOfNums [65 + (own : Int)]).size) = False := eq_false (by rw [strOfNums_size, strOfNums_size]; have h1_ := HO.out.2.1.2; simp only [List.length_singleton]; omega)
      refine pure_ (i := 4) (N := some 40) (v := ?_) (a' := ?_) #[true, true, true, true, true, false, false, false, false] rfl rfl (by kernel_rfl) (fun _ _ _ h => h) (Or.inl ⟨by rfl, ?_⟩) ?_ ?_
      rotate_left
      · intro w'
        go_simp
        with_reducible rfl
      rotate_left
      · simp only [Act.put, List.setIfInBounds_toArray, List.set_cons_zero, List.set_cons_succ, i64_w, i32_w]
        rfl
      refine pure_ (i := 5) (N := some 41) (v := ?_) (a' := ?_) #[true, true, true, true, true, true, false, false, false] rfl rfl (by kernel_rfl) (fun _ _ _ h => h) (Or.inl ⟨by rfl, ?_⟩) ?_ ?_
      rotate_left
      · intro w'
        go_simp
        with_reducible rfl
      rotate_left
      · simp only [Act.put, List.setIfInBounds_toArray, List.set_cons_zero, List.set_cons_succ, i64_w, i32_w]
        rfl
      refine pure_ (i := 6) (N := some 42) (v := ?_) (a' := ?_) #[true, true, true, true, true, true, true, false, false] rfl rfl (by kernel_rfl) (fun _ _ _ h => h) (Or.inl ⟨by rfl, ?_⟩) ?_ ?_
      rotate_left
      · intro w'
        go_simp
        with_reducible rfl
      rotate_left
      · simp only [Act.put, List.setIfInBounds_toArray, List.set_cons_zero, List.set_cons_succ, i64_w, i32_w]
        rfl
      refine pure_ (i := 7) (N := some 43) (v := ?_) (a' := ?_) #[true, true, true, true, true, true, true, true, false] rfl rfl (by kernel_rfl) (fun _ _ _ h => h) (Or.inl ⟨by rfl, ?_⟩) ?_ ?_
      rotate_left
      · intro w'
        go_simp
        with_reducible rfl
      rotate_left
      · simp only [Act.put, List.setIfInBounds_toArray, List.set_cons_zero, List.set_cons_succ, i64_w, i32_w]
        rfl
      refine last_ (i := 8) (N := none) #[true, true, true, true, true, true, true, true, true] rfl rfl (by kernel_rfl) (by decide) (fun K hK => ?_)
      refine put_step (by rfl) (by rfl) (t := 9) (p := .tmp 43) (v := .tmp 42) (by rfl) (g := _) (off := 1) (seven gs (s.mv ++ [65 + (own : Int)]) (c2 4) s.d) ([.string (strOfNums s.mv ++ strOfNums [65 + (own : Int)])]) (by rfl) (by rfl) HX.out.1.1 (by rfl) (by first | rfl | decide) (by simp [Value.oneCell']) ?hfit ?hc ?_
      case hfit => show 1 + 1 ≤ 7; decide
      case hc => rw [← strOfNums_snoc]; exact seven_put1 _ _ _ _ _
      intro w11 hw_ hgr_
      have nX := Aside0.mk (PlX.putP HN.out HX.out hw_ hgr_)
      clear HX hw_ hgr_
      have HX := nX
      clear nX
      refine hK.out _ _ ?_
      clear hK K hHeld hsl hz zj1
      refine done_ (by kernel_rfl) ?_
      go_wp2
      have nX := Aside0.mk (HX.out.below (below_drew (Below.refl _ _)))
      refine start_ (n := 15) (S := fun w' => w'.cell? ⟨gp, 3 + own, none⟩ = some (.int .i64 (s.d own)) ∧ w'.cell? ⟨gp, 0, none⟩ = some (.slice (some ⟨gs, 0, none⟩) 4 4) ∧ w'.cell? ⟨gs, own, none⟩ = some (.slice A6 ((s.x own).length + 1) c6)) (ds := [11, 14]) #[false, false, false, false, false, false, false, false, false, false, false, false, false, false, false] (by kernel_rfl) rfl rfl ⟨pw_cell_below (below_drew (Below.refl _ _)) ((blk_cell HX.out.1.1 (3 + own)).trans (seven_d _ _ _ _ own HLT.out)), pw_cell_below (below_drew (Below.refl _ _)) ((blk_cell HX.out.1.1 0).trans rfl), pw_cell_below (below_drew (Below.refl _ _)) ((blk_cell HX.out.1.2.1 own).trans ((quad_get c2 own HLT.out).trans (congrArg some HC2.out)))⟩ (fun hHeld => ?_)
      clear HX
      have HX := nX
      clear nX
      generalize w11.drew = w12 at HX hHeld ⊢
      refine pure_ (i := 0) (N := some 44) (v := ?_) (a' := ?_) #[true, false, false, false, false, false, false, false, false, false, false, false, false, false, false] rfl rfl (by kernel_rfl) (fun _ _ _ h => h) (Or.inl ⟨by rfl, ?_⟩) ?_ ?_
      rotate_left
      · intro w'
        go_simp
        with_reducible rfl
      rotate_left
      · simp only [Act.put, List.setIfInBounds_toArray, List.set_cons_zero, List.set_cons_succ, i64_w, i32_w]
        rfl
      refine pure_ (i := 1) (N := some 45) (v := ?_) (a' := ?_) #[true, true, false, false, false, false, false, false, false, false, false, false, false, false, false] rfl rfl (by kernel_rfl) (fun _ _ _ h => h) (Or.inl ⟨by rfl, ?_⟩) ?_ ?_
      rotate_left
      · intro w'
        go_simp
        with_reducible rfl
      rotate_left
      · simp only [Act.put, List.setIfInBounds_toArray, List.set_cons_zero, List.set_cons_succ, i64_w, i32_w]
        rfl
      refine pure_ (i := 2) (N := some 46) (v := ?_) (a' := ?_) #[true, true, true, false, false, false, false, false, false, false, false, false, false, false, false] rfl rfl (by kernel_rfl) (fun _ _ _ h => h) (Or.inl ⟨by rfl, ?_⟩) ?_ ?_
      rotate_left
      · intro w'
        go_simp
        with_reducible rfl
      rotate_left
      · simp only [Act.put, List.setIfInBounds_toArray, List.set_cons_zero, List.set_cons_succ, i64_w, i32_w]
        rfl
      refine pure_ (i := 3) (N := some 47) (v := ?_) (a' := ?_) #[true, true, true, true, false, false, false, false, false, false, false, false, false, false, false] rfl rfl (by kernel_rfl) (fun _ _ _ h => h) (Or.inl ⟨by rfl, ?_⟩) ?_ ?_
      rotate_left
      · intro w'
        go_simp
        with_reducible rfl
      rotate_left
      · simp only [Act.put, List.setIfInBounds_toArray, List.set_cons_zero, List.set_cons_succ, i64_w, i32_w]
        rfl
      refine take_ (i := 4) (N := some 48) (v := ?_) (a' := ?_) #[true, true, true, true, true, false, false, false, false, false, false, false, false, false, false] rfl rfl (by kernel_rfl) (fun _ _ _ h => h) (Or.inl ⟨by rfl, ?_⟩) hHeld ?_ ?_
      rotate_left
      · rintro w' ⟨s0_, s1_⟩
        go_simp
        with_reducible rfl
      rotate_left
      · simp only [Act.put, List.setIfInBounds_toArray, List.set_cons_zero, List.set_cons_succ, i64_w, i32_w]
        rfl
      refine pure_ (i := 5) (N := some 49) (v := ?_) (a' := ?_) #[true, true, true, true, true, true, false, false, false, false, false, false, false, false, false] rfl rfl (by kernel_rfl) (fun _ _ _ h => h) (Or.inl ⟨by rfl, ?_⟩) ?_ ?_
      rotate_left
      · intro w'
        go_simp
        with_reducible rfl
      rotate_left
      · simp only [Act.put, List.setIfInBounds_toArray, List.set_cons_zero, List.set_cons_succ, i64_w, i32_w]
        rfl
      refine take_ (i := 6) (N := some 50) (v := ?_) (a' := ?_) #[true, true, true, true, true, true, true, false, false, false, false, false, false, false, false] rfl rfl (by kernel_rfl) (fun _ _ _ h => h) (Or.inl ⟨by rfl, ?_⟩) hHeld ?_ ?_
      rotate_left
      · rintro w' ⟨s0_, s1_⟩
        go_simp
        with_reducible rfl
      rotate_left
      · simp only [Act.put, List.setIfInBounds_toArray, List.set_cons_zero, List.set_cons_succ, i64_w, i32_w]
        rfl
      refine pure_ (i := 7) (N := some 51) (v := ?_) (a' := ?_) #[true, true, true, true, true, true, true, true, false, false, false, false, false, false, false] rfl rfl (by kernel_rfl) (fun _ _ _ h => h) (Or.inl ⟨by rfl, ?_⟩) ?_ ?_
      rotate_left
      · intro w'
        go_simp
        with_reducible rfl
      rotate_left
      · simp only [Act.put, List.setIfInBounds_toArray, List.set_cons_zero, List.set_cons_succ, i64_w, i32_w]
        rfl
      refine pure_ (i := 8) (N := some 52) (v := ?_) (a' := ?_) #[true, true, true, true, true, true, true, true, true, false, false, false, false, false, false] rfl rfl (by kernel_rfl) (fun _ _ _ h => h) (Or.inl ⟨by rfl, ?_⟩) ?_ ?_
      rotate_left
      · intro w'
        go_simp
        with_reducible rfl
      rotate_left
      · simp only [Act.put, List.setIfInBounds_toArray, List.set_cons_zero, List.set_cons_succ, i64_w, i32_w]
        rfl
      refine take_ (i := 9) (N := some 53) (v := ?_) (a' := ?_) #[true, true, true, true, true, true, true, true, true, true, false, false, false, false, false] rfl rfl (by kernel_rfl) (fun _ _ _ h => h) (Or.inl ⟨by rfl, ?_⟩) hHeld ?_ ?_
      rotate_left
      · rintro w' ⟨s0_, s1_⟩
        go_simp
        with_reducible rfl
      rotate_left
      · simp only [Act.put, List.setIfInBounds_toArray, List.set_cons_zero, List.set_cons_succ, i64_w, i32_w]
        rfl
      refine pure_ (i := 10) (N := some 54) (v := ?_) (a' := ?_) #[true, true, true, true, true, true, true, true, true, true, true, false, false, false, false] rfl rfl (by kernel_rfl) (fun _ _ _ h => h) (Or.inl ⟨by rfl, ?_⟩) ?_ ?_
      rotate_left
      · intro w'
        go_simp
        with_reducible rfl
      rotate_left
      · simp only [Act.put, List.setIfInBounds_toArray, List.set_cons_zero, List.set_cons_succ, i64_w, i32_w]
        rfl
      refine pure_ (i := 12) (N := some 56) (v := ?_) (a' := ?_) #[true, true, true, true, true, true, true, true, true, true, true, false, true, false, false] rfl rfl (by kernel_rfl) (fun _ _ _ h => h) (Or.inl ⟨by rfl, ?_⟩) ?_ ?_
      rotate_left
      · intro w'
        go_simp
        with_reducible rfl
      rotate_left
      · simp only [Act.put, List.setIfInBounds_toArray, List.set_cons_zero, List.set_cons_succ, i64_w, i32_w]
        rfl
      refine last_ (i := 11) (N := some 55) #[true, true, true, true, true, true, true, true, true, true, true, true, true, false, false] rfl rfl (by kernel_rfl) (by decide) (fun K hK => ?_)
      refine goes_ Try.func72 (by kernel_rfl) rfl #[.int .i64 (s.d own), .int .i64 (((s.x own).length : Int) + 1)] (by rfl) rfl rfl (by (try simp only [List.map_toArray, List.map_cons, List.map_nil]); first | done | rfl) ?_
      refine (spec_l1Most.calls (s.d own) (((s.x own).length : Int) + 1) (mx (s.d own) (((s.x own).length : Int) + 1)) _ (by unfold spec_l1Most.f mx; split <;> split <;> first | rfl | (congr 1; omega))).mono ?_
      rintro e w13 ⟨rfl, hdr⟩
      refine ⟨_, rfl, ?_⟩
      have nX := Aside0.mk (HX.out.below hdr.below)
      clear HX hdr hHeld
      have HX := nX
      clear nX
      generalize hdm_ : mx (s.d own) (((s.x own).length : Int) + 1) = dm
      have HDM := Aside0.mk hdm_
      clear hdm_
      refine hK.out _ _ ?_
      clear hK K
      refine norm_ (a' := ?_) ?_ ?_
      rotate_left
      · show Act.put _ (some 55) _ = _
        simp only [Act.put, List.setIfInBounds_toArray, List.set_cons_zero, List.set_cons_succ, i64_w, i32_w]
        rfl
      refine pure_ (i := 13) (N := some 57) (v := ?_) (a' := ?_) #[true, true, true, true, true, true, true, true, true, true, true, true, true, true, false] rfl rfl (by kernel_rfl) (fun _ _ _ h => h) (Or.inl ⟨by rfl, ?_⟩) ?_ ?_
      rotate_left
      · intro w'
        go_simp
        with_reducible rfl
      rotate_left
      · simp only [Act.put, List.setIfInBounds_toArray, List.set_cons_zero, List.set_cons_succ, i64_w, i32_w]
        rfl
      refine last_ (i := 14) (N := none) #[true, true, true, true, true, true, true, true, true, true, true, true, true, true, true] rfl rfl (by kernel_rfl) (by decide) (fun K hK => ?_)
      refine put_step (by rfl) (by rfl) (t := 3) (p := .tmp 57) (v := .tmp 55) (by rfl) (g := _) (off := 3 + own) (seven gs (s.mv ++ [65 + (own : Int)]) (c2 4) (upd s.d own dm)) ([.int .i64 dm]) (by rfl) (by rfl) HX.out.1.1 (by rfl) (by first | rfl | decide) (by simp [Value.oneCell']) ?hfit ?hc ?_
      case hfit => show 3 + own + 1 ≤ 7; have := HLT.out; omega
      case hc => exact seven_putd _ _ _ _ own _ HLT.out
      intro w14 hw_ hgr_
      have nX := Aside0.mk (PlX.putP HN.out HX.out hw_ hgr_)
      clear HX hw_ hgr_
      have HX := nX
      clear nX
      refine hK.out _ _ ?_
      clear hK K
      refine done_ (by kernel_rfl) ?_
      have hT_ := HT.out
      obtain ⟨s2, hs2⟩ : ∃ s2, s2 = s.push own nn := ⟨_, rfl⟩
      rw [← hs2] at hT_
      have HT2 := Aside0.mk hT_
      have NX := Aside0.mk (show PlX 3 5 61 24 61 w w14 gp gs gr (seven gs s2.mv (c2 4) s2.d) (quad c2) #[.slice none 0 0, .string ⟨#[]⟩, .slice none 0 0, .int .i64 0, .int .i64 0, .int .i64 0, .int .i64 0] c2 s2.x (.slice none 0 0) [] from by rw [hs2]; unfold Pl.push; simp only []; rw [HDM.out]; exact HX.out)
      clear HX HT hT_ hs2 HDM HC2 HO HLT p1 p2 p3 p4 c1
      have HX := NX
      clear NX
      have e0 : w14.cell? ⟨gp, 0, none⟩ = some (.slice (some ⟨gs, 0, none⟩) 4 4) := (blk_cell HX.out.1.1 0).trans rfl
      have e1 : w14.cell? ⟨gp, 1, none⟩ = some (.string (strOfNums s2.mv)) := (blk_cell HX.out.1.1 1).trans rfl
      have e2 : w14.cell? ⟨gp, 2, none⟩ = some (c2 4) := (blk_cell HX.out.1.1 2).trans rfl
      have e3 : w14.cell? ⟨gp, 3, none⟩ = some (.int .i64 (s2.d 0)) := (blk_cell HX.out.1.1 3).trans rfl
      have e4 : w14.cell? ⟨gp, 4, none⟩ = some (.int .i64 (s2.d 1)) := (blk_cell HX.out.1.1 4).trans rfl
      have e5 : w14.cell? ⟨gp, 5, none⟩ = some (.int .i64 (s2.d 2)) := (blk_cell HX.out.1.1 5).trans rfl
      have e6 : w14.cell? ⟨gp, 6, none⟩ = some (.int .i64 (s2.d 3)) := (blk_cell HX.out.1.1 6).trans rfl
      (repeat ((fail_if_success (with_reducible refine gate_dst (N := 59) rfl ?_)); first | go_values | go_skip | go_guarded | go_step | go_upon))
      refine goesL_ (some 59) rfl rfl Try.func73 (by kernel_rfl) rfl #[.agg (seven gs s2.mv (c2 4) s2.d)] rfl (by (try simp only [List.map_toArray, List.map_cons, List.map_nil]); first | done | rfl) ?_
      refine (spec_l7Pop.calls k gs c2 s2 t w _ HX.out.1.2.1 HN.out.1.2.1 HX.out.2.1 HX.out.2.2.2 HT2.out).mono ?_
      rintro e w15 ⟨c3, rfl, hs_, h5_, hb_, hk_⟩
      refine ⟨_, rfl, ?_⟩
      have nX := Aside0.mk (show PlX 3 5 61 24 61 w w15 gp gs gr (seven gs s2.mv (c2 4) s2.d) (quad c3) #[.slice none 0 0, .string ⟨#[]⟩, .slice none 0 0, .int .i64 0, .int .i64 0, .int .i64 0, .int .i64 0] c3 t.x (.slice none 0 0) [] from ⟨⟨hk_.2 _ _ HX.out.1.1, hs_, hk_.2 _ _ HX.out.1.2.2⟩, h5_, Kd.R_nil _ _ _ _ _, hb_⟩)
      clear HX hs_ h5_ hb_ hk_ e0 e1 e2 e3 e4 e5 e6
      have HX := nX
      clear nX
      (repeat ((fail_if_success (with_reducible refine gate_store (t := 61) (p := 5) rfl ?_)); first | go_values | go_skip | go_guarded | go_step | go_upon))
      refine put_event (by rfl) (by rfl) (t := 61) (p := .tmp 5) (by rfl) (g := _) (off := 0) (seven gs t.mv (c3 4) t.d) ([.slice (some ⟨gs, 0, none⟩) 4 4, .string (strOfNums t.mv), c3 4, .int .i64 (t.d 0), .int .i64 (t.d 1), .int .i64 (t.d 2), .int .i64 (t.d 3)]) (by rfl) (by rfl) HX.out.1.1 (by rfl) (by first | rfl | decide) (seven_one (Kd.R_val (HX.out.row 4 (by decide))).2) ?hfit ?hc ?_
      case hfit => first | decide | (simp; done) | (simp [seven]; done)
      case hc => rfl
      intro w16 hw_ hgr_
      have nX := Aside0.mk (PlX.putP HN.out HX.out hw_ hgr_)
      clear HX hw_ hgr_
      have HX := nX
      clear nX
      have zi := wup_ i (by have := HI.out; have := HL.out; omega)
      go_wp2
      go_roundg d
      case measure => omega
      case rel => exact ⟨i + 1, t, c3, (by first | rfl | rw [zi]), ⟨by have := HI.out; omega⟩, HA, HX⟩
def spec_MovesOf.f (k : Nat) (l0 l1 : List Int) : Option (ByteArray × Bool) := (spec_l7Sharing.f k l0 l1).bind fun t => if t = true then (spec_l7Moves.f k l0 l1).bind fun q => some (strOfNums q.mv, true) else some (⟨#[]⟩, false)
theorem spec_MovesOf.mono : ∀ a0 a1 k, LeO (spec_MovesOf.f k a0 a1) (spec_MovesOf.f (k + 1) a0 a1) := fun _ _ _ => LeO.bind (spec_l7Sharing.mono _ _ _) (fun _ => LeO.ite (LeO.bind (spec_l7Moves.mono _ _ _) (fun _ => LeO.refl _)) (LeO.refl _))
set_option maxHeartbeats 8000000 in
set_option maxRecDepth 100000 in
theorem spec_MovesOf.calls (k : Nat) (A0 : Option Addr) (c0 : Nat) (l0 : List Int) (A1 : Option Addr) (c1 : Nat) (l1 : List Int) (r1 : ByteArray) (r2 : Bool) (w : World) (hr0 : Kd.C (Kd.int .i64) w A0 l0.length l0) (hc0 : l0.length ≤ c0) (hr1 : Kd.C (Kd.int .i64) w A1 l1.length l1) (hc1 : l1.length ≤ c1) (h : spec_MovesOf.f k l0 l1 = some (r1, r2)) :
    Calls Try.prog 10 #[.slice A0 l0.length c0, .slice A1 l1.length c1] w fun e w' => e = .returned (.tuple #[.string r1, .bool r2]) ∧ Below w.heap.size w w' := by
  have HR0 := Aside0.mk hr0
  have HR1 := Aside0.mk hr1
  have HC0 := Aside0.mk hc0
  have HC1 := Aside0.mk hc1
  have HB := Aside0.mk (Below.refl w.heap.size w)
  unfold spec_MovesOf.f at h
  obtain ⟨t, h1, H⟩ := Option.bind_eq_some_iff.1 h
  have A2 := Aside0.mk h1
  clear hr0 hr1 hc0 hc1 h h1
  cases t with
  | false =>
    rw [if_neg (by simp)] at H
    obtain ⟨rfl, rfl⟩ := Prod.mk.inj (Option.some.inj H)
    clear H
    go_enter Try.func10, Try.ntmps10
    (repeat ((fail_if_success (with_reducible refine gate_dst (N := 8) rfl ?_)); first | go_values | go_skip | go_guarded | go_step | go_upon))
    refine goesL_ (some 8) rfl rfl Try.func41 (by kernel_rfl) rfl #[.slice A0 l0.length c0, .slice A1 l1.length c1] rfl (by (try simp only [List.map_toArray, List.map_cons, List.map_nil]); first | done | rfl) ?_
    refine (spec_l7Sharing.calls k A0 c0 l0 A1 c1 l1 _ w (Kd.C_below HR0.out HB.out) HC0.out (Kd.C_below HR1.out HB.out) HC1.out A2.out).mono ?_
    rintro e wS ⟨rfl, hdr⟩
    refine ⟨_, rfl, ?_⟩
    have nb_ := Aside0.mk (below_step HB.out hdr.below)
    clear HB hdr
    have HB := nb_
    clear nb_
    go_wp2
    go_ret2
    exact ⟨rfl, HB.out⟩
  | true =>
    rw [if_pos rfl] at H
    obtain ⟨q, h1, H⟩ := Option.bind_eq_some_iff.1 H
    have A3 := Aside0.mk h1
    clear h1
    obtain ⟨rfl, rfl⟩ := Prod.mk.inj (Option.some.inj H)
    clear H
    go_enter Try.func10, Try.ntmps10
    (repeat ((fail_if_success (with_reducible refine gate_dst (N := 8) rfl ?_)); first | go_values | go_skip | go_guarded | go_step | go_upon))
    refine goesL_ (some 8) rfl rfl Try.func41 (by kernel_rfl) rfl #[.slice A0 l0.length c0, .slice A1 l1.length c1] rfl (by (try simp only [List.map_toArray, List.map_cons, List.map_nil]); first | done | rfl) ?_
    refine (spec_l7Sharing.calls k A0 c0 l0 A1 c1 l1 _ w (Kd.C_below HR0.out HB.out) HC0.out (Kd.C_below HR1.out HB.out) HC1.out A2.out).mono ?_
    rintro e wS ⟨rfl, hdr⟩
    refine ⟨_, rfl, ?_⟩
    have nb_ := Aside0.mk (below_step HB.out hdr.below)
    clear HB hdr
    have HB := nb_
    clear nb_
    (repeat ((fail_if_success (with_reducible refine gate_dst (N := 12) rfl ?_)); first | go_values | go_skip | go_guarded | go_step | go_upon))
    refine goesL_ (some 12) rfl rfl Try.func44 (by kernel_rfl) rfl #[.slice A0 l0.length c0, .slice A1 l1.length c1] rfl (by (try simp only [List.map_toArray, List.map_cons, List.map_nil]); first | done | rfl) ?_
    refine (spec_l7Moves.calls k A0 c0 l0 A1 c1 l1 q wS (Kd.C_below HR0.out HB.out) HC0.out (Kd.C_below HR1.out HB.out) HC1.out A3.out).mono ?_
    rintro e wP ⟨gs, vo, rfl, ho_, hb_⟩
    refine ⟨_, rfl, ?_⟩
    unfold seven
    have HO_ := Aside0.mk (Kd.R_lower ho_ HB.out.size)
    have nb_ := Aside0.mk (below_step HB.out hb_)
    clear HB ho_ hb_
    have HB := nb_
    clear nb_
    have hfd := fun w' : World => run_field_one (P := Try.prog) (w := w') 61 _ 1 _ (#[.slice (some ⟨gs, 0, none⟩) 4 4, .string (strOfNums q.mv), vo, .int .i64 (q.d 0), .int .i64 (q.d 1), .int .i64 (q.d 2), .int .i64 (q.d 3)]) _ _ Try.underlying61 rfl Try.underlying9 rfl rfl
    go_wp2
    go_ret2
    exact ⟨rfl, HB.out⟩
def impl_ComesOut.f (k : Nat) (l0 l1 : List Int) : Option (List Int × Bool) := (impl_isSharing.f k l0 l1).bind fun t => if t = true then (impl_play.f k l0 l1).bind fun q => some (q.x 4, true) else some ([], false)
theorem impl_ComesOut.mono : ∀ a0 a1 k, LeO (impl_ComesOut.f k a0 a1) (impl_ComesOut.f (k + 1) a0 a1) := fun _ _ _ => LeO.bind (impl_isSharing.mono _ _ _) (fun _ => LeO.ite (LeO.bind (impl_play.mono _ _ _) (fun _ => LeO.refl _)) (LeO.refl _))
set_option maxHeartbeats 8000000 in
set_option maxRecDepth 100000 in
theorem impl_ComesOut.calls (k : Nat) (A0 : Option Addr) (c0 : Nat) (l0 : List Int) (A1 : Option Addr) (c1 : Nat) (l1 : List Int) (r1 : List Int) (r2 : Bool) (w : World) (hr0 : Kd.C (Kd.int .i64) w A0 l0.length l0) (hc0 : l0.length ≤ c0) (hr1 : Kd.C (Kd.int .i64) w A1 l1.length l1) (hc1 : l1.length ≤ c1) (h : impl_ComesOut.f k l0 l1 = some (r1, r2)) :
    Calls Try.prog 11 #[.slice A0 l0.length c0, .slice A1 l1.length c1] w fun e w' => ∃ v0_ : Value, e = .returned (.tuple #[v0_, .bool r2]) ∧ Kd.R (Kd.int .i64) 3 w' w.heap.size (fun _ => True) v0_ r1 ∧ Below w.heap.size w w' := by
  have HR0 := Aside0.mk hr0
  have HR1 := Aside0.mk hr1
  have HC0 := Aside0.mk hc0
  have HC1 := Aside0.mk hc1
  have HB := Aside0.mk (Below.refl w.heap.size w)
  unfold impl_ComesOut.f at h
  obtain ⟨t, h1, H⟩ := Option.bind_eq_some_iff.1 h
  have A2 := Aside0.mk h1
  clear hr0 hr1 hc0 hc1 h h1
  cases t with
  | false =>
    rw [if_neg (by simp)] at H
    obtain ⟨rfl, rfl⟩ := Prod.mk.inj (Option.some.inj H)
    clear H
    go_enter Try.func11, Try.ntmps11
    (repeat ((fail_if_success (with_reducible refine gate_dst (N := 8) rfl ?_)); first | go_values | go_skip | go_guarded | go_step | go_upon))
    refine goesL_ (some 8) rfl rfl Try.func39 (by kernel_rfl) rfl #[.slice A0 l0.length c0, .slice A1 l1.length c1] rfl (by (try simp only [List.map_toArray, List.map_cons, List.map_nil]); first | done | rfl) ?_
    refine (impl_isSharing.calls k A0 c0 l0 A1 c1 l1 _ w (Kd.C_below HR0.out HB.out) HC0.out (Kd.C_below HR1.out HB.out) HC1.out A2.out).mono ?_
    rintro e wS ⟨rfl, hdr⟩
    refine ⟨_, rfl, ?_⟩
    have nb_ := Aside0.mk (below_step HB.out hdr.below)
    clear HB hdr
    have HB := nb_
    clear nb_
    go_wp2
    go_ret2
    exact ⟨_, rfl, Kd.R_nil _ _ _ _ _, HB.out⟩
  | true =>
    rw [if_pos rfl] at H
    obtain ⟨q, h1, H⟩ := Option.bind_eq_some_iff.1 H
    have A3 := Aside0.mk h1
    clear h1
    obtain ⟨rfl, rfl⟩ := Prod.mk.inj (Option.some.inj H)
    clear H
    go_enter Try.func11, Try.ntmps11
    (repeat ((fail_if_success (with_reducible refine gate_dst (N := 8) rfl ?_)); first | go_values | go_skip | go_guarded | go_step | go_upon))
    refine goesL_ (some 8) rfl rfl Try.func39 (by kernel_rfl) rfl #[.slice A0 l0.length c0, .slice A1 l1.length c1] rfl (by (try simp only [List.map_toArray, List.map_cons, List.map_nil]); first | done | rfl) ?_
    refine (impl_isSharing.calls k A0 c0 l0 A1 c1 l1 _ w (Kd.C_below HR0.out HB.out) HC0.out (Kd.C_below HR1.out HB.out) HC1.out A2.out).mono ?_
    rintro e wS ⟨rfl, hdr⟩
    refine ⟨_, rfl, ?_⟩
    have nb_ := Aside0.mk (below_step HB.out hdr.below)
    clear HB hdr
    have HB := nb_
    clear nb_
    (repeat ((fail_if_success (with_reducible refine gate_dst (N := 12) rfl ?_)); first | go_values | go_skip | go_guarded | go_step | go_upon))
    refine goesL_ (some 12) rfl rfl Try.func43 (by kernel_rfl) rfl #[.slice A0 l0.length c0, .slice A1 l1.length c1] rfl (by (try simp only [List.map_toArray, List.map_cons, List.map_nil]); first | done | rfl) ?_
    refine (impl_play.calls k A0 c0 l0 A1 c1 l1 q wS (Kd.C_below HR0.out HB.out) HC0.out (Kd.C_below HR1.out HB.out) HC1.out A3.out).mono ?_
    rintro e wP ⟨vm, vo, rfl, hm_, ho_, hb_⟩
    refine ⟨_, rfl, ?_⟩
    unfold six
    have HO_ := Aside0.mk (Kd.R_lower ho_ HB.out.size)
    have nb_ := Aside0.mk (below_step HB.out hb_)
    have HM_ := Aside0.mk hm_
    clear HB ho_ hb_ hm_
    have HB := nb_
    clear nb_
    have hfd := fun w' : World => run_field_one (P := Try.prog) (w := w') 57 _ 1 _ (#[vm, vo, .int .i64 (q.d 0), .int .i64 (q.d 1), .int .i64 (q.d 2), .int .i64 (q.d 3)]) _ _ Try.underlying57 rfl Try.underlying24 rfl rfl
    go_wp2
    go_ret2
    exact ⟨_, rfl, HO_.out, HB.out⟩
end Go.Proofs.Ytmgekfoiamjijaa.PFnConflicts
