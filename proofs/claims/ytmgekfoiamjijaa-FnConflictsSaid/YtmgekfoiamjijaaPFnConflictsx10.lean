-- laid by mkprint.py, a program of this claim's writer, over the kit's print program; parts of it are typed by hand
import Derived.Test.YtmgekfoiamjijaaPFnConflictsx0
namespace Go.Proofs.Ytmgekfoiamjijaa.PFnConflicts
open Go.RowKit Go.Proofs.YtmgekfoiamjijaaW.PrintWords Go.Proofs.YtmgekfoiamjijaaW.PrintLast Go.Proofs.YtmgekfoiamjijaaW.PrintMore
attribute [local go_sem] max2_int min2_int max_two min_two max_three min_three max_four min_four
set_option linter.unusedVariables false
set_option linter.unusedSimpArgs false
theorem plInfoI : (Try.prog.info? 3).map (fun i => (i.zero, i.size, i.bytes)) = some (some (.int .i64 0), 1, 8) := by kernel_rfl
theorem plInfoB : (Try.prog.info? 5).map (fun i => (i.zero, i.size, i.bytes)) = some (some (.int .u8 0), 1, 1) := by kernel_rfl
def impl_play.f (k : Nat) (l0 l1 : List Int) : Option Pl := if l1.length = l0.length ∧ l0.length ≤ 1000000 then playGo k l0 l1 l0.length 0 Pl.zero else none
theorem impl_play.mono : ∀ a0 a1 k, LeO (impl_play.f k a0 a1) (impl_play.f (k + 1) a0 a1) := fun _ _ _ => LeO.ite (playGo_mono _ _ _ _ _ _) (LeO.none _)
set_option maxHeartbeats 8000000 in
set_option maxRecDepth 100000 in
theorem impl_play.calls (k : Nat) (A0 : Option Addr) (c0 : Nat) (l0 : List Int) (A1 : Option Addr) (c1 : Nat) (l1 : List Int) (r : Pl) (w : World) (hr0 : Kd.C (Kd.int .i64) w A0 l0.length l0) (hc0 : l0.length ≤ c0) (hr1 : Kd.C (Kd.int .i64) w A1 l1.length l1) (hc1 : l1.length ≤ c1) (h : impl_play.f k l0 l1 = some r) :
    Calls Try.prog 43 #[.slice A0 l0.length c0, .slice A1 l1.length c1] w fun e w' => ∃ vm vo : Value, e = .returned (.agg (six vm vo r.d)) ∧ (Kd.int .u8).R 5 w' w.heap.size (fun _ => True) vm r.mv ∧ (Kd.int .i64).R 3 w' w.heap.size (fun _ => True) vo (r.x 4) ∧ Below w.heap.size w w' := by
  unfold impl_play.f at h
  by_cases hlen : l1.length = l0.length ∧ l0.length ≤ 1000000
  case neg => rw [if_neg hlen] at h; cases h
  rw [if_pos hlen] at h
  have HL := Aside0.mk hlen
  have HF := Aside0.mk h
  clear hlen h
  have HR0 := Aside0.mk hr0
  have HR1 := Aside0.mk hr1
  have HC0 := Aside0.mk hc0
  have HC1 := Aside0.mk hc1
  clear hr0 hr1 hc0 hc1
  go_enter Try.func43, Try.ntmps43
  (repeat ((fail_if_success (with_reducible refine gate_dst (N := 4) rfl ?_)); first | go_values | go_skip | go_guarded | go_step | go_upon))
  refine box_event ?hg (N := 4) ?hd (cs := #[.slice none 0 0, .slice none 0 0, .int .i64 0, .int .i64 0, .int .i64 0, .int .i64 0]) (t := 57) ?hr ?_
  case hd => rfl
  case hg => rfl
  case hr => first | (go_simp; done) | (go_simp; rfl)
  intro gr hgr w1 hbx1 hb1
  have Hgr := Aside0.mk hgr
  clear hgr
  (repeat ((fail_if_success (with_reducible refine gate_dst (N := 5) rfl ?_)); first | go_values | go_skip | go_guarded | go_step | go_upon))
  refine box_event ?hg (N := 5) ?hd (cs := #[.slice none 0 0, .slice none 0 0, .int .i64 0, .int .i64 0, .int .i64 0, .int .i64 0]) (t := 57) ?hr ?_
  case hd => rfl
  case hg => rfl
  case hr => first | (go_simp; done) | (go_simp; rfl)
  intro gp hgp w2 hbx2 hb2
  have Hgp := Aside0.mk hgp
  clear hgp
  (repeat ((fail_if_success (with_reducible refine gate_dst (N := 6) rfl ?_)); first | go_values | go_skip | go_guarded | go_step | go_upon))
  refine box_event ?hg (N := 6) ?hd (cs := #[.slice none 0 0, .slice none 0 0, .slice none 0 0, .slice none 0 0]) (t := 81) ?hr ?_
  case hd => rfl
  case hg => rfl
  case hr => first | (go_simp; done) | (go_simp; rfl)
  intro gs hgs w3 hbx3 hb3
  have Hgs := Aside0.mk hgs
  clear hgs
  have l1_ := blk_lt hbx1
  have q1_ := Hgr.out
  have q2_ := Hgp.out
  have q3_ := Hgs.out
  have l2_ := blk_lt hbx2
  have l3_ := hb1.size
  have l4_ := hb2.size
  have l5_ := hb3.size
  have HN := Aside0.mk (show PlN 3 5 57 81 57 w gp gs gr from ⟨⟨by omega, by omega, by omega⟩, ⟨by omega, by omega, by omega⟩, ⟨by decide, by decide, by decide⟩, ⟨by decide, by decide, by decide⟩, by decide⟩)
  have HX := Aside0.mk (show PlX 3 5 57 81 57 w w3 gp gs gr (six (.slice none 0 0) (.slice none 0 0) (fun _ => 0)) (quad (fun _ => .slice none 0 0)) #[.slice none 0 0, .slice none 0 0, .int .i64 0, .int .i64 0, .int .i64 0, .int .i64 0] (fun _ => .slice none 0 0) (fun _ => []) (.slice none 0 0) [] from ⟨⟨blk_below hbx2 hb3, hbx3, blk_below (blk_below hbx1 hb2) hb3⟩, Five.nil _ _ _ _, Kd.R_nil _ _ _ _ _, below_step (below_step hb1 hb2) hb3⟩)
  clear hbx1 hbx2 hbx3 hb1 hb2 hb3 l1_ l2_ l3_ l4_ l5_ q1_ q2_ q3_ Hgr Hgp Hgs
  (repeat ((fail_if_success (with_reducible refine gate_store (t := 57) (p := 5) rfl ?_)); first | go_values | go_skip | go_guarded | go_step | go_upon))
  refine put_event (by rfl) (by rfl) (t := 57) (p := .tmp 5) (by rfl) (g := _) (off := 0) (six (.slice none 0 0) (.slice none 0 0) (fun _ => 0)) ([.slice none 0 0, .slice none 0 0, .int .i64 0, .int .i64 0, .int .i64 0, .int .i64 0]) (by rfl) (by rfl) HX.out.1.1 (by rfl) (by first | rfl | decide) (by simp [Value.oneCell']) ?hfit ?hc ?_
  case hfit => first | decide | (simp; done) | (simp [six, quad]; done) | (simp [six, quad]; omega)
  case hc => rfl
  intro w4 hw_ hgr_
  have nX := Aside0.mk (PlX.putP HN.out HX.out hw_ hgr_)
  clear HX hw_ hgr_
  have HX := nX
  clear nX
  (repeat ((fail_if_success (with_reducible refine gate_store (t := 81) (p := 6) rfl ?_)); first | go_values | go_skip | go_guarded | go_step | go_upon))
  refine put_event (by rfl) (by rfl) (t := 81) (p := .tmp 6) (by rfl) (g := _) (off := 0) (quad (fun _ => .slice none 0 0)) ([.slice none 0 0, .slice none 0 0, .slice none 0 0, .slice none 0 0]) (by rfl) (by rfl) HX.out.1.2.1 (by rfl) (by first | rfl | decide) (by simp [Value.oneCell']) ?hfit ?hc ?_
  case hfit => first | decide | (simp; done) | (simp [six, quad]; done) | (simp [six, quad]; omega)
  case hc => rfl
  intro w5 hw_ hgr_
  have nX := Aside0.mk (PlX.putS HN.out HX.out hw_ hgr_)
  clear HX hw_ hgr_
  have HX := nX
  clear nX
  go_wp2
  go_loopg [18] l0.length (fun kq v18 w' => ∃ (i : Nat) (s : Pl), v18 = .int .i64 (i : Int) ∧ Aside0 (i + kq = l0.length) ∧ Aside0 (playGo k l0 l1 kq i s = some r) ∧ Aside0 (∃ (c : Nat → Value) (vm : Value), PlX 3 5 57 81 57 w w' gp gs gr (six vm (c 4) s.d) (quad c) #[.slice none 0 0, .slice none 0 0, .int .i64 0, .int .i64 0, .int .i64 0, .int .i64 0] c s.x vm s.mv))
  case atStart => exact ⟨0, Pl.zero, rfl, ⟨by omega⟩, HF, ⟨fun _ => .slice none 0 0, .slice none 0 0, HX.out⟩⟩
  case round =>
    clear HX HF
    obtain ⟨i, s, rfl, HI, HA, HX⟩ := hrel
    obtain ⟨c, vm, hX⟩ := HX.out
    clear HX
    have HX := Aside0.mk hX
    clear hX
    cases gk with
    | zero =>
      have c1 : decide (i < l0.length) = false := decide_eq_false (by have := HI.out; omega)
      obtain rfl := Option.some.inj (show some s = some r from HA.out)
      clear HA
      have e0 : wr.cell? ⟨gp, 0, none⟩ = some (vm) := (blk_cell HX.out.1.1 0).trans rfl
      have e1 : wr.cell? ⟨gp, 1, none⟩ = some (c 4) := (blk_cell HX.out.1.1 1).trans rfl
      have e2 : wr.cell? ⟨gp, 2, none⟩ = some (.int .i64 (s.d 0)) := (blk_cell HX.out.1.1 2).trans rfl
      have e3 : wr.cell? ⟨gp, 3, none⟩ = some (.int .i64 (s.d 1)) := (blk_cell HX.out.1.1 3).trans rfl
      have e4 : wr.cell? ⟨gp, 4, none⟩ = some (.int .i64 (s.d 2)) := (blk_cell HX.out.1.1 4).trans rfl
      have e5 : wr.cell? ⟨gp, 5, none⟩ = some (.int .i64 (s.d 3)) := (blk_cell HX.out.1.1 5).trans rfl
      go_wp2_with (first | ((with_reducible refine gate_store (t := 57) (p := 4) rfl ?_); refine put_event (by rfl) (by rfl) (t := 57) (p := .tmp 4) (by rfl) (g := _) (off := 0) (six vm (c 4) s.d) ([vm, c 4, .int .i64 (s.d 0), .int .i64 (s.d 1), .int .i64 (s.d 2), .int .i64 (s.d 3)]) (by rfl) (by rfl) HX.out.1.2.2 (by rfl) (by first | rfl | decide) (six_one (Kd.R_val HX.out.2.2.1).2 (Kd.R_val (HX.out.row 4 (by decide))).2) ?hfit ?hc ?_; (case hfit => first | decide | (simp; done) | (simp [six, quad]; done) | (simp [six, quad]; omega)); (case hc => rfl); intro w6 hw_ hgr_; have nX := Aside0.mk (PlX.putR HN.out HX.out hw_ hgr_); clear HX hw_ hgr_; have HX := nX; clear nX))
      clear e0 e1 e2 e3 e4 e5
      (try simp only [Exit.inBlock, Exit.then])
      refine bodyPost_ret (results_cell_row rfl _ _ gr 57 (six vm (c 4) s.d) (0, 0) _ rfl HX.out.1.2.2 Try.underlying57 rfl (by kernel_rfl)) rfl ?_
      exact ⟨vm, c 4, rfl, HX.out.2.2.1, HX.out.row 4 (by decide), HX.out.2.2.2⟩
    | succ d =>
      have c1 : decide (i < l0.length) = true := decide_eq_true (by have := HI.out; omega)
      have hA := HA.out
      rw [playGo] at hA
      by_cases hown : (0 ≤ rd l1 (i : Int) ∧ rd l1 (i : Int) < 4) ∧ s.ok
      case neg => rw [if_neg hown] at hA; exact absurd hA (by simp)
      rw [if_pos hown] at hA
      have HO := Aside0.mk hown
      clear HA
      obtain ⟨own, hown2⟩ : ∃ o : Nat, rd l1 (i : Int) = (o : Int) := ⟨_, (Int.toNat_of_nonneg hown.1.1).symm⟩
      rw [hown2, Int.toNat_natCast] at hA
      have hlt : own < 4 := by have := hown.1.2; omega
      obtain ⟨nn, hnn⟩ : ∃ n : Int, rd l0 (i : Int) = n := ⟨_, rfl⟩
      rw [hnn] at hA
      obtain ⟨t, h1, h2⟩ := Option.bind_eq_some_iff.1 hA
      have HT := Aside0.mk h1
      have HA := Aside0.mk h2
      have HLT := Aside0.mk hlt
      clear hA h1 h2 hown
      obtain ⟨ad0, e0_, x0⟩ := Kd.at_int (Kd.C_below HR0.out HX.out.2.2.2) (i : Int) (by omega) (by have := HI.out; omega)
      obtain ⟨ad1, e1_, x1⟩ := Kd.at_int (Kd.C_below HR1.out HX.out.2.2.2) (i : Int) (by omega) (by have := HI.out; have := HL.out; omega)
      subst e0_ e1_
      rw [hnn] at x0
      rw [hown2] at x1
      rw [Int.toNat_natCast] at x0 x1
      clear hown2 hnn
      have p1 : (i < l0.length) = True := eq_true (by have := HI.out; omega)
      have p2 : (i < l1.length) = True := eq_true (by have := HI.out; have := HL.out; omega)
      have p3 : ((own : Int) < 4) = True := eq_true (by have := HLT.out; omega)
      have p4 : (own < 4) = True := eq_true HLT.out
      obtain ⟨As, cs, eS⟩ := Kd.R_slice (HX.out.row own (by have := HLT.out; omega))
      have HS := Aside0.mk eS
      have xs : wr.cell? ⟨gs, own, none⟩ = some (.slice As (s.x own).length cs) := (blk_cell HX.out.1.2.1 own).trans ((quad_get c own HLT.out).trans (congrArg some eS))
      clear eS hlt
      have e0 : wr.cell? ⟨gp, 0, none⟩ = some (vm) := (blk_cell HX.out.1.1 0).trans rfl
      have e1 : wr.cell? ⟨gp, 1, none⟩ = some (c 4) := (blk_cell HX.out.1.1 1).trans rfl
      have e2 : wr.cell? ⟨gp, 2, none⟩ = some (.int .i64 (s.d 0)) := (blk_cell HX.out.1.1 2).trans rfl
      have e3 : wr.cell? ⟨gp, 3, none⟩ = some (.int .i64 (s.d 1)) := (blk_cell HX.out.1.1 3).trans rfl
      have e4 : wr.cell? ⟨gp, 4, none⟩ = some (.int .i64 (s.d 2)) := (blk_cell HX.out.1.1 4).trans rfl
      have e5 : wr.cell? ⟨gp, 5, none⟩ = some (.int .i64 (s.d 3)) := (blk_cell HX.out.1.1 5).trans rfl
      (repeat ((fail_if_success (with_reducible refine gate_dst (N := 33) rfl ?_)); first | go_values | go_skip | go_guarded | go_step | go_upon))
      at_builtin
      refine Kd.R_append (Kd.int .i64) (w0 := w) w.heap.size rfl (.tmp 30) (.tmp 32) 24 3 (.int .i64 0) 8 rfl Try.underlying24 plInfoI rfl (by decide) (by omega) (.slice As (s.x own).length cs) (s.x own) (nn) [.int .i64 (nn)] (fun q_ => some q_ = ((.slice As (s.x own).length cs) : Value).ownBlock ∨ wr.heap.size ≤ q_) (fun _ => False) rfl rfl ?aP (fun _ hk => hk.elim) ?aF ?aO ?aB ?aS ?aL ?_
      case aP => exact rfl
      case aF => exact (fun _ h_ => .inr h_)
      case aO => exact (by have h1_ := HX.out.2.1.own own (by have := HLT.out; omega); rw [HS.out] at h1_; exact h1_)
      case aB => exact HX.out.2.2.2
      case aS => exact HX.out.2.2.2.size
      case aL => have h1_ := HO.out.2.2 own HLT.out; omega
      intro v6 w6 ho hb_ hg_ hat_
      obtain ⟨A6, c6, ev_⟩ := Kd.R_slice ho
      rw [List.length_append, List.length_singleton] at ev_
      subst ev_
      have nX := Aside0.mk (PlX.app HN.out HX.out (j := own) (by have := HLT.out; omega) ho (by rw [HS.out]; exact hg_) (by rw [HS.out]; exact hat_) hb_)
      have NV := Aside0.mk (Kd.R_val ho).2
      clear HX ho hb_ hg_ hat_ xs x0 x1 e0 e1 e2 e3 e4 e5
      have HX := nX
      clear nX
      (repeat ((fail_if_success (with_reducible refine gate_store (t := 24) (p := 34) rfl ?_)); first | go_values | go_skip | go_guarded | go_step | go_upon))
      refine put_event (by rfl) (by rfl) (t := 24) (p := .tmp 34) (by rfl) (g := _) (off := own) (quad (upd c own (.slice A6 ((s.x own).length + 1) c6))) ([(.slice A6 ((s.x own).length + 1) c6)]) (by rfl) (by rfl) HX.out.1.2.1 (by rfl) (by first | rfl | decide) (one_one NV.out) ?hfit ?hc ?_
      case hfit => show own + 1 ≤ 4; have := HLT.out; omega
      case hc => exact quad_put c own (.slice A6 ((s.x own).length + 1) c6) HLT.out
      intro w7 hw_ hgr_
      have nX := Aside0.mk (PlX.putS HN.out HX.out hw_ hgr_)
      clear HX hw_ hgr_
      have HX := nX
      clear nX
      have hc4_ : c 4 = upd c own (.slice A6 ((s.x own).length + 1) c6) 4 := (upd_ne c _ (by have := HLT.out; omega)).symm
      rw [hc4_] at HX
      clear hc4_
      obtain ⟨c2, hc2_⟩ : ∃ c2, c2 = upd c own (.slice A6 ((s.x own).length + 1) c6) := ⟨_, rfl⟩
      rw [← hc2_] at HX
      have HC2 := Aside0.mk (show c2 own = (.slice A6 ((s.x own).length + 1) c6) from by rw [hc2_]; exact upd_same _ _ _)
      clear hc2_ HS NV
      have e0 : w7.cell? ⟨gp, 0, none⟩ = some vm := (blk_cell HX.out.1.1 0).trans rfl
      (repeat ((fail_if_success (with_reducible refine gate_dst (N := 41) rfl ?_)); first | go_values | go_skip | go_guarded | go_step | go_upon))
      at_builtin
      refine Kd.R_append (Kd.int .u8) (w0 := w) w.heap.size rfl (.tmp 36) (.tmp 40) 22 5 (.int .u8 0) 1 rfl Try.underlying22 plInfoB rfl (by decide) (by omega) vm s.mv (wrap64 (65 + (own : Int)) % 256) [.int .u8 (wrap64 (65 + (own : Int)) % 256)] (fun _ => True) (fun _ => False) rfl rfl ?aP (fun _ hk => hk.elim) ?aF ?aO ?aB ?aS ?aL ?_
      case aP => exact rfl
      case aF => exact (fun _ h_ => trivial)
      case aO => exact HX.out.2.2.1
      case aB => exact HX.out.2.2.2
      case aS => exact HX.out.2.2.2.size
      case aL => have h1_ := HO.out.1; have h2_ := HO.out.2.1.2; omega
      intro v7 w8 ho hb_ hg_ hat_
      obtain ⟨A7, c7, ev_⟩ := Kd.R_slice ho
      rw [List.length_append, List.length_singleton] at ev_
      subst ev_
      have nX := Aside0.mk (PlX.appm HN.out HX.out ho hg_ hb_)
      rw [show wrap64 (65 + (own : Int)) % 256 = 65 + (own : Int) from by rw [w64_ (by have := HLT.out; omega)]; have := HLT.out; omega] at nX
      clear HX ho hb_ hg_ hat_ e0
      have HX := nX
      clear nX
      (repeat ((fail_if_success (with_reducible refine gate_store (t := 22) (p := 42) rfl ?_)); first | go_values | go_skip | go_guarded | go_step | go_upon))
      refine put_event (by rfl) (by rfl) (t := 22) (p := .tmp 42) (by rfl) (g := _) (off := 0) (six (.slice A7 (s.mv.length + 1) c7) (c2 4) s.d) ([(.slice A7 (s.mv.length + 1) c7)]) (by rfl) (by rfl) HX.out.1.1 (by rfl) (by first | rfl | decide) (by simp [Value.oneCell']) ?hfit ?hc ?_
      case hfit => first | decide | (simp; done) | (simp [six, quad]; done) | (simp [six, quad]; omega)
      case hc => exact six_put0 _ _ _ _
      intro w9 hw_ hgr_
      have nX := Aside0.mk (PlX.putP HN.out HX.out hw_ hgr_)
      clear HX hw_ hgr_
      have HX := nX
      clear nX
      go_wp2
      have nX := Aside0.mk (HX.out.below (below_drew (Below.refl _ _)))
      clear HX
      have HX := nX
      clear nX
      refine start_ (n := 13) (S := fun w' => w'.cell? ⟨gp, 2 + own, none⟩ = some (.int .i64 (s.d own)) ∧ w'.cell? ⟨gs, own, none⟩ = some (.slice A6 ((s.x own).length + 1) c6)) (ds := [12]) #[false, false, false, false, false, false, false, false, false, false, false, false, false] (by kernel_rfl) rfl rfl ⟨(blk_cell HX.out.1.1 (2 + own)).trans (six_d _ _ _ own HLT.out), (blk_cell HX.out.1.2.1 own).trans ((quad_get c2 own HLT.out).trans (congrArg some HC2.out))⟩ (fun hHeld => ?_)
      generalize w9.drew = w10 at HX hHeld ⊢
      refine pure_ (i := 0) (N := some 43) (v := ?_) (a' := ?_) #[true, false, false, false, false, false, false, false, false, false, false, false, false] rfl rfl (by kernel_rfl) (fun _ _ _ h => h) (Or.inl ⟨by rfl, ?_⟩) ?_ ?_
      rotate_left
      · intro w'
        go_simp
        with_reducible rfl
      rotate_left
      · simp only [Act.put, List.setIfInBounds_toArray, List.set_cons_zero, List.set_cons_succ, i64_w, i32_w]
        rfl
      refine pure_ (i := 1) (N := some 44) (v := ?_) (a' := ?_) #[true, true, false, false, false, false, false, false, false, false, false, false, false] rfl rfl (by kernel_rfl) (fun _ _ _ h => h) (Or.inl ⟨by rfl, ?_⟩) ?_ ?_
      rotate_left
      · intro w'
        go_simp
        with_reducible rfl
      rotate_left
      · simp only [Act.put, List.setIfInBounds_toArray, List.set_cons_zero, List.set_cons_succ, i64_w, i32_w]
        rfl
      refine pure_ (i := 2) (N := some 45) (v := ?_) (a' := ?_) #[true, true, true, false, false, false, false, false, false, false, false, false, false] rfl rfl (by kernel_rfl) (fun _ _ _ h => h) (Or.inl ⟨by rfl, ?_⟩) ?_ ?_
      rotate_left
      · intro w'
        go_simp
        with_reducible rfl
      rotate_left
      · simp only [Act.put, List.setIfInBounds_toArray, List.set_cons_zero, List.set_cons_succ, i64_w, i32_w]
        rfl
      refine pure_ (i := 3) (N := some 46) (v := ?_) (a' := ?_) #[true, true, true, true, false, false, false, false, false, false, false, false, false] rfl rfl (by kernel_rfl) (fun _ _ _ h => h) (Or.inl ⟨by rfl, ?_⟩) ?_ ?_
      rotate_left
      · intro w'
        go_simp
        with_reducible rfl
      rotate_left
      · simp only [Act.put, List.setIfInBounds_toArray, List.set_cons_zero, List.set_cons_succ, i64_w, i32_w]
        rfl
      refine take_ (i := 4) (N := some 47) (v := ?_) (a' := ?_) #[true, true, true, true, true, false, false, false, false, false, false, false, false] rfl rfl (by kernel_rfl) (fun _ _ _ h => h) (Or.inl ⟨by rfl, ?_⟩) hHeld ?_ ?_
      rotate_left
      · rintro w' ⟨s0_, s1_⟩
        go_simp
        with_reducible rfl
      rotate_left
      · simp only [Act.put, List.setIfInBounds_toArray, List.set_cons_zero, List.set_cons_succ, i64_w, i32_w]
        rfl
      refine pure_ (i := 5) (N := some 48) (v := ?_) (a' := ?_) #[true, true, true, true, true, true, false, false, false, false, false, false, false] rfl rfl (by kernel_rfl) (fun _ _ _ h => h) (Or.inl ⟨by rfl, ?_⟩) ?_ ?_
      rotate_left
      · intro w'
        go_simp
        with_reducible rfl
      rotate_left
      · simp only [Act.put, List.setIfInBounds_toArray, List.set_cons_zero, List.set_cons_succ, i64_w, i32_w]
        rfl
      refine pure_ (i := 6) (N := some 49) (v := ?_) (a' := ?_) #[true, true, true, true, true, true, true, false, false, false, false, false, false] rfl rfl (by kernel_rfl) (fun _ _ _ h => h) (Or.inl ⟨by rfl, ?_⟩) ?_ ?_
      rotate_left
      · intro w'
        go_simp
        with_reducible rfl
      rotate_left
      · simp only [Act.put, List.setIfInBounds_toArray, List.set_cons_zero, List.set_cons_succ, i64_w, i32_w]
        rfl
      refine take_ (i := 7) (N := some 50) (v := ?_) (a' := ?_) #[true, true, true, true, true, true, true, true, false, false, false, false, false] rfl rfl (by kernel_rfl) (fun _ _ _ h => h) (Or.inl ⟨by rfl, ?_⟩) hHeld ?_ ?_
      rotate_left
      · rintro w' ⟨s0_, s1_⟩
        go_simp
        with_reducible rfl
      rotate_left
      · simp only [Act.put, List.setIfInBounds_toArray, List.set_cons_zero, List.set_cons_succ, i64_w, i32_w]
        rfl
      refine pure_ (i := 8) (N := some 51) (v := ?_) (a' := ?_) #[true, true, true, true, true, true, true, true, true, false, false, false, false] rfl rfl (by kernel_rfl) (fun _ _ _ h => h) (Or.inl ⟨by rfl, ?_⟩) ?_ ?_
      rotate_left
      · intro w'
        go_simp
        with_reducible rfl
      rotate_left
      · simp only [Act.put, List.setIfInBounds_toArray, List.set_cons_zero, List.set_cons_succ, i64_w, i32_w]
        rfl
      refine pure_ (i := 9) (N := some 52) (v := ?_) (a' := ?_) #[true, true, true, true, true, true, true, true, true, true, false, false, false] rfl rfl (by kernel_rfl) (fun _ _ _ h => h) (Or.inl ⟨by rfl, ?_⟩) ?_ ?_
      rotate_left
      · intro w'
        go_simp
        with_reducible rfl
      rotate_left
      · simp only [Act.put, List.setIfInBounds_toArray, List.set_cons_zero, List.set_cons_succ, i64_w, i32_w]
        rfl
      generalize hdm_ : (if s.d own < (((s.x own).length : Int) + 1) then (((s.x own).length : Int) + 1) else s.d own) = dm
      have HDM := Aside0.mk (show mx (s.d own) (((s.x own).length : Int) + 1) = dm from hdm_)
      clear hdm_
      refine pure_ (i := 10) (N := some 53) (v := ?_) (a' := ?_) #[true, true, true, true, true, true, true, true, true, true, true, false, false] rfl rfl (by kernel_rfl) (fun _ _ _ h => h) (Or.inl ⟨by rfl, ?_⟩) ?_ ?_
      rotate_left
      · intro w'
        go_simp
        with_reducible rfl
      rotate_left
      · simp only [Act.put, List.setIfInBounds_toArray, List.set_cons_zero, List.set_cons_succ, i64_w, i32_w]
        rfl
      refine pure_ (i := 11) (N := some 54) (v := ?_) (a' := ?_) #[true, true, true, true, true, true, true, true, true, true, true, true, false] rfl rfl (by kernel_rfl) (fun _ _ _ h => h) (Or.inl ⟨by rfl, ?_⟩) ?_ ?_
      rotate_left
      · intro w'
        go_simp
        with_reducible rfl
      rotate_left
      · simp only [Act.put, List.setIfInBounds_toArray, List.set_cons_zero, List.set_cons_succ, i64_w, i32_w]
        rfl
      refine last_ (i := 12) (N := none) #[true, true, true, true, true, true, true, true, true, true, true, true, true] rfl rfl (by kernel_rfl) (by decide) (fun K hK => ?_)
      refine put_step (by rfl) (by rfl) (t := 3) (p := .tmp 54) (v := .tmp 52) (by rfl) (g := _) (off := 2 + own) (six (.slice A7 (s.mv.length + 1) c7) (c2 4) (upd s.d own dm)) ([.int .i64 dm]) (by rfl) (by rfl) HX.out.1.1 (by rfl) (by first | rfl | decide) (by simp [Value.oneCell']) ?hfit ?hc ?_
      case hfit => show 2 + own + 1 ≤ 6; have := HLT.out; omega
      case hc => exact six_putd _ _ _ own _ HLT.out
      intro w11 hw_ hgr_
      have nX := Aside0.mk (PlX.putP HN.out HX.out hw_ hgr_)
      clear HX hw_ hgr_
      have HX := nX
      clear nX
      clear hHeld
      refine hK.out _ _ ?_
      clear hK K
      refine done_ (by kernel_rfl) ?_
      have hT_ := HT.out
      obtain ⟨s2, hs2⟩ : ∃ s2, s2 = s.push own nn := ⟨_, rfl⟩
      rw [← hs2] at hT_
      have HT2 := Aside0.mk hT_
      have HX2 := Aside0.mk (show ∃ (c : Nat → Value) (vm : Value), PlX 3 5 57 81 57 w w11 gp gs gr (six vm (c 4) s2.d) (quad c) #[.slice none 0 0, .slice none 0 0, .int .i64 0, .int .i64 0, .int .i64 0, .int .i64 0] c s2.x vm s2.mv from ⟨c2, (.slice A7 (s.mv.length + 1) c7), by rw [hs2]; unfold Pl.push; simp only []; rw [HDM.out]; exact HX.out⟩)
      clear HX HT hT_ hs2 HDM HC2 HO HLT p1 p2 p3 p4 c1
      go_wp2
      go_loopg [10] k (fun kq v10 w' => ∃ (b : Bool) (s2 : Pl), v10 = .bool b ∧ Aside0 ((b = true ∧ playAll kq s2 = some t) ∨ (b = false ∧ s2 = t)) ∧ Aside0 (∃ (c : Nat → Value) (vm : Value), PlX 3 5 57 81 57 w w' gp gs gr (six vm (c 4) s2.d) (quad c) #[.slice none 0 0, .slice none 0 0, .int .i64 0, .int .i64 0, .int .i64 0, .int .i64 0] c s2.x vm s2.mv))
      case atStart => exact ⟨true, s2, rfl, ⟨.inl ⟨rfl, HT2.out⟩⟩, HX2⟩
      case round =>
        clear HX2 HT2
        obtain ⟨b, s2, rfl, HP, HX⟩ := hrel
        obtain ⟨c, vm, hX⟩ := HX.out
        clear HX
        have HX := Aside0.mk hX
        clear hX
        cases b with
        | false =>
          obtain rfl : s2 = t := by rcases HP.out with h_ | h_; exact absurd h_.1 (by simp); exact h_.2
          clear HP
          go_wp2
          have zi := wup_ i (by have := HI.out; have := HL.out; omega)
          go_roundg d
          case measure => omega
          case rel => exact ⟨i + 1, s2, (by rw [zi]), ⟨by have := HI.out; omega⟩, HA, ⟨_, _, HX.out⟩⟩
        | true =>
          have hP : playAll gk s2 = some t := by rcases HP.out with h_ | h_; exact h_.2; exact absurd h_.1 (by simp)
          clear HP
          cases gk with
          | zero => exact absurd hP (by simp [playAll])
          | succ m =>
            rw [playAll] at hP
            obtain ⟨q, h1, h2⟩ := Option.bind_eq_some_iff.1 hP
            have HQ := Aside0.mk h1
            have HP := Aside0.mk h2
            clear hP h1 h2
            have q0 : wr.cell? ⟨gs, 0, none⟩ = some (c 0) := (blk_cell HX.out.1.2.1 0).trans rfl
            have q1 : wr.cell? ⟨gs, 1, none⟩ = some (c 1) := (blk_cell HX.out.1.2.1 1).trans rfl
            have q2 : wr.cell? ⟨gs, 2, none⟩ = some (c 2) := (blk_cell HX.out.1.2.1 2).trans rfl
            have q3 : wr.cell? ⟨gs, 3, none⟩ = some (c 3) := (blk_cell HX.out.1.2.1 3).trans rfl
            go_wp2
            clear q0 q1 q2 q3
            go_loopg [10, 57] 4 (fun kq v10 v57 w' => ∃ (b : Bool) (j : Nat) (s3 : Pl), v10 = .bool b ∧ v57 = .int .i64 (j : Int) ∧ Aside0 (j + kq = 4) ∧ Aside0 (playPass kq j s3 b = some q) ∧ Aside0 (∃ (c3 : Nat → Value) (vm : Value), (PlX 3 5 57 81 57 w w' gp gs gr (six vm (c3 4) s3.d) (quad c3) #[.slice none 0 0, .slice none 0 0, .int .i64 0, .int .i64 0, .int .i64 0, .int .i64 0] c3 s3.x vm s3.mv) ∧ ∀ y, j ≤ y → y < 4 → c3 y = c y))
            case atStart => exact ⟨false, 0, s2, rfl, rfl, ⟨by omega⟩, HQ, ⟨c, vm, HX.out, fun _ _ _ => rfl⟩⟩
            case round =>
              clear HQ HX
              obtain ⟨b, j, s3, rfl, rfl, HJ, HQ, HX⟩ := hrel
              obtain ⟨c3, vm3, hX, hsame⟩ := HX.out
              clear HX
              have HX := Aside0.mk hX
              have HSM := Aside0.mk hsame
              clear hX hsame
              cases gk with
              | zero =>
                have c1 : decide (j < 4) = false := decide_eq_false (by have := HJ.out; omega)
                have c1b : decide ((j : Int) < 4) = false := decide_eq_false (by have := HJ.out; omega)
                obtain rfl := Option.some.inj (show some (s3, b) = some q from HQ.out)
                clear HQ
                go_wp2
                go_roundg m
                case measure => omega
                case rel => exact ⟨b, s3, rfl, ⟨by have h_ := HP.out; cases b with | false => exact .inr ⟨rfl, by simpa using h_⟩ | true => exact .inl ⟨rfl, by simpa using h_⟩⟩, ⟨_, _, HX.out⟩⟩
              | succ e =>
                have HJ4 := Aside0.mk (show j < 4 by have := HJ.out; omega)
                have c1 : decide (j < 4) = true := decide_eq_true HJ4.out
                have c1b : decide ((j : Int) < 4) = true := decide_eq_true (by have := HJ4.out; omega)
                have p4b : ((j : Int) < 4) = True := eq_true (by have := HJ4.out; omega)
                have p4 : (j < 4) = True := eq_true HJ4.out
                obtain ⟨As3, cs3, eS⟩ := Kd.R_slice (HX.out.row j (by have := HJ4.out; omega))
                have HS := Aside0.mk eS
                have hq := run_index_arr (P := Try.prog) (w := wr) 81 24 4 #[c 0, c 1, c 2, c 3] .i64 j _ _ Try.underlying81 rfl Try.underlying24 rfl HJ4.out ((quad_get c j HJ4.out).trans (congrArg some ((HSM.out j (Nat.le_refl _) HJ4.out).symm.trans eS)))
                clear eS
                have hQ := HQ.out
                rw [playPass] at hQ
                clear HQ
                by_cases hok : s3.ok
                case neg => simp only [if_neg hok, ite_self] at hQ; cases hQ
                simp only [if_pos hok] at hQ
                have HOK := Aside0.mk hok
                clear hok
                rcases Nat.eq_zero_or_pos (s3.x j).length with hlen | hlen
                · skip
                  rw [if_neg (show ¬ s3.hit j from fun h_ => by have := h_.1; omega)] at hQ
                  have HQ := Aside0.mk hQ
                  clear hQ
                  have zm : wrap64 (((s3.x j).length : Int) - 1) = -1 := by rw [hlen, w64_ (by omega)]; rfl
                  clear hlen
                  go_wp2
                  have nX := Aside0.mk (HX.out.below (below_drew (Below.refl _ _)))
                  clear HX
                  have HX := nX
                  clear nX
                  refine start_ (n := 13) (S := fun w' => True) (ds := []) #[false, false, false, false, false, false, false, false, false, false, false, false, false] (by kernel_rfl) rfl rfl trivial (fun hHeld => ?_)
                  generalize wr.drew = w12 at HX ⊢
                  refine pure_ (i := 0) (N := some 64) (v := ?_) (a' := ?_) #[true, false, false, false, false, false, false, false, false, false, false, false, false] rfl rfl (by kernel_rfl) (fun _ _ _ h => h) (Or.inl ⟨by rfl, ?_⟩) ?_ ?_
                  rotate_left
                  · intro w'
                    go_simp
                    with_reducible rfl
                  rotate_left
                  · simp only [Act.put, List.setIfInBounds_toArray, List.set_cons_zero, List.set_cons_succ, i64_w, i32_w]
                    rfl
                  refine pure_ (i := 1) (N := some 65) (v := ?_) (a' := ?_) #[true, true, false, false, false, false, false, false, false, false, false, false, false] rfl rfl (by kernel_rfl) (fun _ _ _ h => h) (Or.inl ⟨by rfl, ?_⟩) ?_ ?_
                  rotate_left
                  · intro w'
                    go_simp
                    with_reducible rfl
                  rotate_left
                  · simp only [Act.put, List.setIfInBounds_toArray, List.set_cons_zero, List.set_cons_succ, i64_w, i32_w]
                    rfl
                  refine pure_ (i := 2) (N := some 66) (v := ?_) (a' := ?_) #[true, true, true, false, false, false, false, false, false, false, false, false, false] rfl rfl (by kernel_rfl) (fun _ _ _ h => h) (Or.inl ⟨by rfl, ?_⟩) ?_ ?_
                  rotate_left
                  · intro w'
                    go_simp
                    with_reducible rfl
                  rotate_left
                  · simp only [Act.put, List.setIfInBounds_toArray, List.set_cons_zero, List.set_cons_succ, i64_w, i32_w]
                    rfl
                  refine pure_ (i := 3) (N := some 67) (v := undef) (a' := ?_) #[true, true, true, true, false, false, false, false, false, false, false, false, false] rfl rfl (by kernel_rfl) (fun _ _ _ h => h) (Or.inr ⟨by rfl, rfl⟩) ?_ ?_
                  rotate_left
                  · simp only [Act.put, List.setIfInBounds_toArray, List.set_cons_zero, List.set_cons_succ, i64_w, i32_w]
                    rfl
                  refine pure_ (i := 4) (N := some 68) (v := undef) (a' := ?_) #[true, true, true, true, true, false, false, false, false, false, false, false, false] rfl rfl (by kernel_rfl) (fun _ _ _ h => h) (Or.inr ⟨by rfl, rfl⟩) ?_ ?_
                  rotate_left
                  · simp only [Act.put, List.setIfInBounds_toArray, List.set_cons_zero, List.set_cons_succ, i64_w, i32_w]
                    rfl
                  refine pure_ (i := 5) (N := some 69) (v := undef) (a' := ?_) #[true, true, true, true, true, true, false, false, false, false, false, false, false] rfl rfl (by kernel_rfl) (fun _ _ _ h => h) (Or.inr ⟨by rfl, rfl⟩) ?_ ?_
                  rotate_left
                  · simp only [Act.put, List.setIfInBounds_toArray, List.set_cons_zero, List.set_cons_succ, i64_w, i32_w]
                    rfl
                  refine pure_ (i := 6) (N := some 70) (v := undef) (a' := ?_) #[true, true, true, true, true, true, true, false, false, false, false, false, false] rfl rfl (by kernel_rfl) (fun _ _ _ h => h) (Or.inr ⟨by rfl, rfl⟩) ?_ ?_
                  rotate_left
                  · simp only [Act.put, List.setIfInBounds_toArray, List.set_cons_zero, List.set_cons_succ, i64_w, i32_w]
                    rfl
                  refine pure_ (i := 7) (N := some 71) (v := undef) (a' := ?_) #[true, true, true, true, true, true, true, true, false, false, false, false, false] rfl rfl (by kernel_rfl) (fun _ _ _ h => h) (Or.inr ⟨by rfl, rfl⟩) ?_ ?_
                  rotate_left
                  · simp only [Act.put, List.setIfInBounds_toArray, List.set_cons_zero, List.set_cons_succ, i64_w, i32_w]
                    rfl
                  refine pure_ (i := 8) (N := some 72) (v := undef) (a' := ?_) #[true, true, true, true, true, true, true, true, true, false, false, false, false] rfl rfl (by kernel_rfl) (fun _ _ _ h => h) (Or.inr ⟨by rfl, rfl⟩) ?_ ?_
                  rotate_left
                  · simp only [Act.put, List.setIfInBounds_toArray, List.set_cons_zero, List.set_cons_succ, i64_w, i32_w]
                    rfl
                  refine pure_ (i := 9) (N := some 73) (v := undef) (a' := ?_) #[true, true, true, true, true, true, true, true, true, true, false, false, false] rfl rfl (by kernel_rfl) (fun _ _ _ h => h) (Or.inr ⟨by rfl, rfl⟩) ?_ ?_
                  rotate_left
                  · simp only [Act.put, List.setIfInBounds_toArray, List.set_cons_zero, List.set_cons_succ, i64_w, i32_w]
                    rfl
                  refine pure_ (i := 10) (N := some 74) (v := undef) (a' := ?_) #[true, true, true, true, true, true, true, true, true, true, true, false, false] rfl rfl (by kernel_rfl) (fun _ _ _ h => h) (Or.inr ⟨by rfl, rfl⟩) ?_ ?_
                  rotate_left
                  · simp only [Act.put, List.setIfInBounds_toArray, List.set_cons_zero, List.set_cons_succ, i64_w, i32_w]
                    rfl
                  refine pure_ (i := 11) (N := some 75) (v := undef) (a' := ?_) #[true, true, true, true, true, true, true, true, true, true, true, true, false] rfl rfl (by kernel_rfl) (fun _ _ _ h => h) (Or.inr ⟨by rfl, rfl⟩) ?_ ?_
                  rotate_left
                  · simp only [Act.put, List.setIfInBounds_toArray, List.set_cons_zero, List.set_cons_succ, i64_w, i32_w]
                    rfl
                  refine pure_ (i := 12) (N := some 76) (v := ?_) (a' := ?_) #[true, true, true, true, true, true, true, true, true, true, true, true, true] rfl rfl (by kernel_rfl) (fun _ _ _ h => h) (Or.inl ⟨by rfl, ?_⟩) ?_ ?_
                  rotate_left
                  · intro w'
                    go_simp
                    with_reducible rfl
                  rotate_left
                  · simp only [Act.put, List.setIfInBounds_toArray, List.set_cons_zero, List.set_cons_succ, i64_w, i32_w]
                    rfl
                  refine done_ (by kernel_rfl) ?_
                  clear hHeld hq zm
                  go_wp2
                  have zj := wup_ j (by have := HJ4.out; omega)
                  go_roundg e
                  case measure => omega
                  case rel => exact ⟨b, j + 1, s3, rfl, (by rw [zj]), ⟨by have := HJ.out; omega⟩, HQ, ⟨_, _, HX.out, fun y h1 h2 => HSM.out y (by omega) h2⟩⟩
                · skip
                  obtain ⟨ln, hln⟩ : ∃ ln : Nat, (s3.x j).length = ln + 1 := ⟨(s3.x j).length - 1, by omega⟩
                  have zm : wrap64 (((s3.x j).length : Int) - 1) = (ln : Int) := by rw [hln, w64_ (by have := HOK.out.2 j HJ4.out; omega)]; omega
                  obtain ⟨ad3, eA3, hcl⟩ := last_cell (HS.out ▸ HX.out.row j (by have := HJ4.out; omega)) hlen
                  rw [hln, Nat.add_sub_cancel] at hcl
                  subst eA3
                  obtain ⟨lv, hlv⟩ : ∃ lv : Int, lastOf (s3.x j) = lv := ⟨_, rfl⟩
                  rw [hlv] at hcl
                  obtain ⟨Ao, co, eO⟩ := Kd.R_slice (HX.out.row 4 (by decide))
                  have HO4 := Aside0.mk eO
                  obtain ⟨o1, ho1⟩ : ∃ o1 : Int, ((s3.x 4).length : Int) + 1 = o1 := ⟨_, rfl⟩
                  have zo : wrap64 (((s3.x 4).length : Int) + 1) = o1 := by rw [← ho1]; exact w64_ (by have := HOK.out.1.1; omega)
                  have xo : wr.cell? ⟨gp, 1, none⟩ = some (.slice Ao (s3.x 4).length co) := (blk_cell HX.out.1.1 1).trans (congrArg some eO)
                  have HLN := Aside0.mk hln
                  have HLV := Aside0.mk hlv
                  have HO1 := Aside0.mk ho1
                  have p5 : (ln < (s3.x j).length) = True := eq_true (by omega)
                  have p6 : ((ln : Int) < ((s3.x j).length : Int)) = True := eq_true (by omega)
                  clear hlen hln hlv ho1 eO
                  go_wp2
                  have nX := Aside0.mk (HX.out.below (below_drew (Below.refl _ _)))
                  clear HX
                  have HX := nX
                  clear nX
                  refine start_ (n := 13) (S := fun w' => w'.cell? (ad3.add ln) = some (.int .i64 lv) ∧ w'.cell? ⟨gp, 1, none⟩ = some (.slice Ao (s3.x 4).length co)) (ds := []) #[false, false, false, false, false, false, false, false, false, false, false, false, false] (by kernel_rfl) rfl rfl ⟨pw_cell_below (below_drew (Below.refl _ _)) hcl, pw_cell_below (below_drew (Below.refl _ _)) xo⟩ (fun hHeld => ?_)
                  generalize wr.drew = w12 at HX hHeld ⊢
                  refine pure_ (i := 0) (N := some 64) (v := ?_) (a' := ?_) #[true, false, false, false, false, false, false, false, false, false, false, false, false] rfl rfl (by kernel_rfl) (fun _ _ _ h => h) (Or.inl ⟨by rfl, ?_⟩) ?_ ?_
                  rotate_left
                  · intro w'
                    go_simp
                    with_reducible rfl
                  rotate_left
                  · simp only [Act.put, List.setIfInBounds_toArray, List.set_cons_zero, List.set_cons_succ, i64_w, i32_w]
                    rfl
                  refine pure_ (i := 1) (N := some 65) (v := ?_) (a' := ?_) #[true, true, false, false, false, false, false, false, false, false, false, false, false] rfl rfl (by kernel_rfl) (fun _ _ _ h => h) (Or.inl ⟨by rfl, ?_⟩) ?_ ?_
                  rotate_left
                  · intro w'
                    go_simp
                    with_reducible rfl
                  rotate_left
                  · simp only [Act.put, List.setIfInBounds_toArray, List.set_cons_zero, List.set_cons_succ, i64_w, i32_w]
                    rfl
                  refine pure_ (i := 2) (N := some 66) (v := ?_) (a' := ?_) #[true, true, true, false, false, false, false, false, false, false, false, false, false] rfl rfl (by kernel_rfl) (fun _ _ _ h => h) (Or.inl ⟨by rfl, ?_⟩) ?_ ?_
                  rotate_left
                  · intro w'
                    go_simp
                    with_reducible rfl
                  rotate_left
                  · simp only [Act.put, List.setIfInBounds_toArray, List.set_cons_zero, List.set_cons_succ, i64_w, i32_w]
                    rfl
                  refine pure_ (i := 3) (N := some 67) (v := ?_) (a' := ?_) #[true, true, true, true, false, false, false, false, false, false, false, false, false] rfl rfl (by kernel_rfl) (fun _ _ _ h => h) (Or.inl ⟨by rfl, ?_⟩) ?_ ?_
                  rotate_left
                  · intro w'
                    go_simp
                    with_reducible rfl
                  rotate_left
                  · simp only [Act.put, List.setIfInBounds_toArray, List.set_cons_zero, List.set_cons_succ, i64_w, i32_w]
                    rfl
                  refine pure_ (i := 4) (N := some 68) (v := ?_) (a' := ?_) #[true, true, true, true, true, false, false, false, false, false, false, false, false] rfl rfl (by kernel_rfl) (fun _ _ _ h => h) (Or.inl ⟨by rfl, ?_⟩) ?_ ?_
                  rotate_left
                  · intro w'
                    go_simp
                    with_reducible rfl
                  rotate_left
                  · simp only [Act.put, List.setIfInBounds_toArray, List.set_cons_zero, List.set_cons_succ, i64_w, i32_w]
                    rfl
                  refine pure_ (i := 5) (N := some 69) (v := ?_) (a' := ?_) #[true, true, true, true, true, true, false, false, false, false, false, false, false] rfl rfl (by kernel_rfl) (fun _ _ _ h => h) (Or.inl ⟨by rfl, ?_⟩) ?_ ?_
                  rotate_left
                  · intro w'
                    go_simp
                    with_reducible rfl
                  rotate_left
                  · simp only [Act.put, List.setIfInBounds_toArray, List.set_cons_zero, List.set_cons_succ, i64_w, i32_w]
                    rfl
                  refine take_ (i := 6) (N := some 70) (v := ?_) (a' := ?_) #[true, true, true, true, true, true, true, false, false, false, false, false, false] rfl rfl (by kernel_rfl) (fun _ _ _ h => h) (Or.inl ⟨by rfl, ?_⟩) hHeld ?_ ?_
                  rotate_left
                  · rintro w' ⟨s0_, s1_⟩
                    go_simp
                    with_reducible rfl
                  rotate_left
                  · simp only [Act.put, List.setIfInBounds_toArray, List.set_cons_zero, List.set_cons_succ, i64_w, i32_w]
                    rfl
                  refine pure_ (i := 7) (N := some 71) (v := ?_) (a' := ?_) #[true, true, true, true, true, true, true, true, false, false, false, false, false] rfl rfl (by kernel_rfl) (fun _ _ _ h => h) (Or.inl ⟨by rfl, ?_⟩) ?_ ?_
                  rotate_left
                  · intro w'
                    go_simp
                    with_reducible rfl
                  rotate_left
                  · simp only [Act.put, List.setIfInBounds_toArray, List.set_cons_zero, List.set_cons_succ, i64_w, i32_w]
                    rfl
                  refine take_ (i := 8) (N := some 72) (v := ?_) (a' := ?_) #[true, true, true, true, true, true, true, true, true, false, false, false, false] rfl rfl (by kernel_rfl) (fun _ _ _ h => h) (Or.inl ⟨by rfl, ?_⟩) hHeld ?_ ?_
                  rotate_left
                  · rintro w' ⟨s0_, s1_⟩
                    go_simp
                    with_reducible rfl
                  rotate_left
                  · simp only [Act.put, List.setIfInBounds_toArray, List.set_cons_zero, List.set_cons_succ, i64_w, i32_w]
                    rfl
                  refine pure_ (i := 9) (N := some 73) (v := ?_) (a' := ?_) #[true, true, true, true, true, true, true, true, true, true, false, false, false] rfl rfl (by kernel_rfl) (fun _ _ _ h => h) (Or.inl ⟨by rfl, ?_⟩) ?_ ?_
                  rotate_left
                  · intro w'
                    go_simp
                    with_reducible rfl
                  rotate_left
                  · simp only [Act.put, List.setIfInBounds_toArray, List.set_cons_zero, List.set_cons_succ, i64_w, i32_w]
                    rfl
                  refine pure_ (i := 10) (N := some 74) (v := ?_) (a' := ?_) #[true, true, true, true, true, true, true, true, true, true, true, false, false] rfl rfl (by kernel_rfl) (fun _ _ _ h => h) (Or.inl ⟨by rfl, ?_⟩) ?_ ?_
                  rotate_left
                  · intro w'
                    go_simp
                    with_reducible rfl
                  rotate_left
                  · simp only [Act.put, List.setIfInBounds_toArray, List.set_cons_zero, List.set_cons_succ, i64_w, i32_w]
                    rfl
                  refine pure_ (i := 11) (N := some 75) (v := ?_) (a' := ?_) #[true, true, true, true, true, true, true, true, true, true, true, true, false] rfl rfl (by kernel_rfl) (fun _ _ _ h => h) (Or.inl ⟨by rfl, ?_⟩) ?_ ?_
                  rotate_left
                  · intro w'
                    go_simp
                    with_reducible rfl
                  rotate_left
                  · simp only [Act.put, List.setIfInBounds_toArray, List.set_cons_zero, List.set_cons_succ, i64_w, i32_w]
                    rfl
                  refine pure_ (i := 12) (N := some 76) (v := ?_) (a' := ?_) #[true, true, true, true, true, true, true, true, true, true, true, true, true] rfl rfl (by kernel_rfl) (fun _ _ _ h => h) (Or.inl ⟨by rfl, ?_⟩) ?_ ?_
                  rotate_left
                  · intro w'
                    go_simp
                    with_reducible rfl
                  rotate_left
                  · simp only [Act.put, List.setIfInBounds_toArray, List.set_cons_zero, List.set_cons_succ, i64_w, i32_w]
                    rfl
                  refine done_ (by kernel_rfl) ?_
                  have HH := Aside0.mk hHeld
                  clear hHeld hq zo hcl xo
                  by_cases hhit : s3.hit j
                  · skip
                    rw [if_pos hhit] at hQ
                    have HQ := Aside0.mk hQ
                    have d1 : (lv == o1) = true := by rw [beq_iff_eq, ← HLV.out, ← HO1.out]; exact hhit.2
                    clear hQ hhit
                    obtain ⟨i0, hi0, _, hsz_, _⟩ := info_parts plInfoI
                    have hcut := cut_to (P := Try.prog) 24 3 .i64 Try.underlying24 hi0 (some ad3) (s3.x j).length cs3 (ln : Int) (by omega) (by have := HLN.out; omega) (Kd.R_reads' (HS.out ▸ HX.out.row j (by have := HJ4.out; omega))).2.1
                    clear hi0 hsz_
                    go_wp2
                    have nX := Aside0.mk (HX.out.below (below_drew (Below.refl _ _)))
                    clear HX
                    have HX := nX
                    clear nX
                    refine start_ (n := 16) (S := fun w' => w'.cell? (ad3.add ln) = some (.int .i64 lv) ∧ w'.cell? ⟨gp, 1, none⟩ = some (.slice Ao (s3.x 4).length co)) (ds := [8, 13, 15]) #[false, false, false, false, false, false, false, false, false, false, false, false, false, false, false, false] (by kernel_rfl) rfl rfl ⟨pw_cell_below (below_drew (Below.refl _ _)) HH.out.1, pw_cell_below (below_drew (Below.refl _ _)) HH.out.2⟩ (fun hHeld => ?_)
                    generalize w12.drew = w13 at HX hHeld ⊢
                    refine pure_ (i := 0) (N := some 77) (v := ?_) (a' := ?_) #[true, false, false, false, false, false, false, false, false, false, false, false, false, false, false, false] rfl rfl (by kernel_rfl) (fun _ _ _ h => h) (Or.inl ⟨by rfl, ?_⟩) ?_ ?_
                    rotate_left
                    · intro w'
                      go_simp
                      with_reducible rfl
                    rotate_left
                    · simp only [Act.put, List.setIfInBounds_toArray, List.set_cons_zero, List.set_cons_succ, i64_w, i32_w]
                      rfl
                    refine pure_ (i := 1) (N := some 78) (v := ?_) (a' := ?_) #[true, true, false, false, false, false, false, false, false, false, false, false, false, false, false, false] rfl rfl (by kernel_rfl) (fun _ _ _ h => h) (Or.inl ⟨by rfl, ?_⟩) ?_ ?_
                    rotate_left
                    · intro w'
                      go_simp
                      with_reducible rfl
                    rotate_left
                    · simp only [Act.put, List.setIfInBounds_toArray, List.set_cons_zero, List.set_cons_succ, i64_w, i32_w]
                      rfl
                    refine take_ (i := 2) (N := some 79) (v := ?_) (a' := ?_) #[true, true, true, false, false, false, false, false, false, false, false, false, false, false, false, false] rfl rfl (by kernel_rfl) (fun _ _ _ h => h) (Or.inl ⟨by rfl, ?_⟩) hHeld ?_ ?_
                    rotate_left
                    · rintro w' ⟨s0_, s1_⟩
                      go_simp
                      with_reducible rfl
                    rotate_left
                    · simp only [Act.put, List.setIfInBounds_toArray, List.set_cons_zero, List.set_cons_succ, i64_w, i32_w]
                      rfl
                    refine pure_ (i := 3) (N := some 80) (v := ?_) (a' := ?_) #[true, true, true, true, false, false, false, false, false, false, false, false, false, false, false, false] rfl rfl (by kernel_rfl) (fun _ _ _ h => h) (Or.inl ⟨by rfl, ?_⟩) ?_ ?_
                    rotate_left
                    · intro w'
                      go_simp
                      with_reducible rfl
                    rotate_left
                    · simp only [Act.put, List.setIfInBounds_toArray, List.set_cons_zero, List.set_cons_succ, i64_w, i32_w]
                      rfl
                    refine pure_ (i := 4) (N := some 81) (v := ?_) (a' := ?_) #[true, true, true, true, true, false, false, false, false, false, false, false, false, false, false, false] rfl rfl (by kernel_rfl) (fun _ _ _ h => h) (Or.inl ⟨by rfl, ?_⟩) ?_ ?_
                    rotate_left
                    · intro w'
                      go_simp
                      with_reducible rfl
                    rotate_left
                    · simp only [Act.put, List.setIfInBounds_toArray, List.set_cons_zero, List.set_cons_succ, i64_w, i32_w]
                      rfl
                    refine pure_ (i := 5) (N := some 82) (v := ?_) (a' := ?_) #[true, true, true, true, true, true, false, false, false, false, false, false, false, false, false, false] rfl rfl (by kernel_rfl) (fun _ _ _ h => h) (Or.inl ⟨by rfl, ?_⟩) ?_ ?_
                    rotate_left
                    · intro w'
                      go_simp
                      with_reducible rfl
                    rotate_left
                    · simp only [Act.put, List.setIfInBounds_toArray, List.set_cons_zero, List.set_cons_succ, i64_w, i32_w]
                      rfl
                    refine take_ (i := 6) (N := some 83) (v := ?_) (a' := ?_) #[true, true, true, true, true, true, true, false, false, false, false, false, false, false, false, false] rfl rfl (by kernel_rfl) (fun _ _ _ h => h) (Or.inl ⟨by rfl, ?_⟩) hHeld ?_ ?_
                    rotate_left
                    · rintro w' ⟨s0_, s1_⟩
                      go_simp
                      with_reducible rfl
                    rotate_left
                    · simp only [Act.put, List.setIfInBounds_toArray, List.set_cons_zero, List.set_cons_succ, i64_w, i32_w]
                      rfl
                    refine pure_ (i := 9) (N := some 86) (v := ?_) (a' := ?_) #[true, true, true, true, true, true, true, false, false, true, false, false, false, false, false, false] rfl rfl (by kernel_rfl) (fun _ _ _ h => h) (Or.inl ⟨by rfl, ?_⟩) ?_ ?_
                    rotate_left
                    · intro w'
                      go_simp
                      with_reducible rfl
                    rotate_left
                    · simp only [Act.put, List.setIfInBounds_toArray, List.set_cons_zero, List.set_cons_succ, i64_w, i32_w]
                      rfl
                    refine pure_ (i := 10) (N := some 87) (v := ?_) (a' := ?_) #[true, true, true, true, true, true, true, false, false, true, true, false, false, false, false, false] rfl rfl (by kernel_rfl) (fun _ _ _ h => h) (Or.inl ⟨by rfl, ?_⟩) ?_ ?_
                    rotate_left
                    · intro w'
                      go_simp
                      with_reducible rfl
                    rotate_left
                    · simp only [Act.put, List.setIfInBounds_toArray, List.set_cons_zero, List.set_cons_succ, i64_w, i32_w]
                      rfl
                    refine pure_ (i := 11) (N := some 88) (v := ?_) (a' := ?_) #[true, true, true, true, true, true, true, false, false, true, true, true, false, false, false, false] rfl rfl (by kernel_rfl) (fun _ _ _ h => h) (Or.inl ⟨by rfl, ?_⟩) ?_ ?_
                    rotate_left
                    · intro w'
                      go_simp
                      with_reducible rfl
                    rotate_left
                    · simp only [Act.put, List.setIfInBounds_toArray, List.set_cons_zero, List.set_cons_succ, i64_w, i32_w]
                      rfl
                    refine one_ (i := 7) (N := some 84) #[true, true, true, true, true, true, true, true, false, true, true, true, false, false, false, false] rfl rfl (by kernel_rfl) (by decide) (fun K hK => ?_)
                    refine event_step (w1 := w13.alloc (.cells [.int .i64 lv].toArray 3)) (v := .slice (some ⟨w13.heap.size, 0, none⟩) 1 1) (by rfl) ?hr ?_
                    case hr => first | (go_simp; done) | (go_simp; rfl)
                    refine hK.out _ _ ⟨pw_cell_below (below_alloc (Below.refl _ _) _) hHeld.1, pw_cell_below (below_alloc (Below.refl _ _) _) hHeld.2⟩ (fun hHeld => ?_)
                    clear hK K
                    refine norm_ (a' := ?_) ?_ ?_
                    rotate_left
                    · show Act.put _ (some 84) _ = _
                      simp only [Act.put, List.setIfInBounds_toArray, List.set_cons_zero, List.set_cons_succ, i64_w, i32_w]
                      rfl
                    refine last_ (i := 8) (N := some 85) #[true, true, true, true, true, true, true, true, true, true, true, true, false, false, false, false] rfl rfl (by kernel_rfl) (by decide) (fun K hK => ?_)
                    refine Kd.R_append_step (Kd.int .i64) (w0 := w) w.heap.size (by rfl) (.tmp 79) (.tmp 84) 24 3 (.int .i64 0) 8 (by rfl) Try.underlying24 plInfoI rfl (by decide) (by omega) (.slice Ao (s3.x 4).length co) (s3.x 4) lv [.int .i64 lv] (fun q_ => some q_ = (.slice Ao (s3.x 4).length co : Value).ownBlock ∨ w13.heap.size ≤ q_) (fun _ => False) (by rfl) (by rfl) ?aP (fun _ hk => hk.elim) ?aF ?aO ?aB ?aS ?aL ?_
                    case aP => exact rfl
                    case aF => exact (fun _ h_ => .inr h_)
                    case aO => exact (by have h1_ := HX.out.2.1.own 4 (by decide); rw [HO4.out] at h1_; exact h1_)
                    case aB => exact HX.out.2.2.2
                    case aS => exact HX.out.2.2.2.size
                    case aL => have h1_ := HOK.out.1.1; omega
                    intro v8 w14 ho hb_ hg_ hat_
                    obtain ⟨A8, c8, ev_⟩ := Kd.R_slice ho
                    rw [List.length_append, List.length_singleton] at ev_
                    subst ev_
                    have nX := Aside0.mk (PlX.app HN.out HX.out (j := 4) (by decide) ho (by rw [HO4.out]; exact hg_) (by rw [HO4.out]; exact hat_) hb_)
                    clear HX ho hb_ hg_ hat_ hHeld HH
                    have HX := nX
                    clear nX
                    refine hK.out _ _ ?_
                    clear hK K
                    refine norm_ (a' := ?_) ?_ ?_
                    rotate_left
                    · show Act.put _ (some 85) _ = _
                      simp only [Act.put, List.setIfInBounds_toArray, List.set_cons_zero, List.set_cons_succ, i64_w, i32_w]
                      rfl
                    refine pure_ (i := 12) (N := some 89) (v := ?_) (a' := ?_) #[true, true, true, true, true, true, true, true, true, true, true, true, true, false, false, false] rfl rfl (by kernel_rfl) (fun _ _ _ h => h) (Or.inl ⟨by rfl, ?_⟩) ?_ ?_
                    rotate_left
                    · intro w'
                      go_simp
                      with_reducible rfl
                    rotate_left
                    · simp only [Act.put, List.setIfInBounds_toArray, List.set_cons_zero, List.set_cons_succ, i64_w, i32_w]
                      rfl
                    refine last_ (i := 13) (N := none) #[true, true, true, true, true, true, true, true, true, true, true, true, true, true, false, false] rfl rfl (by kernel_rfl) (by decide) (fun K hK => ?_)
                    refine put_step (by rfl) (by rfl) (t := 24) (p := .tmp 89) (v := .tmp 85) (by rfl) (g := _) (off := 1) (six vm3 (.slice A8 ((s3.x 4).length + 1) c8) s3.d) ([(.slice A8 ((s3.x 4).length + 1) c8)]) (by rfl) (by rfl) HX.out.1.1 (by rfl) (by first | rfl | decide) (by simp [Value.oneCell']) ?hfit ?hc ?_
                    case hfit => first | decide | (simp; done) | (simp [six, quad]; done) | (simp [six, quad]; omega)
                    case hc => exact six_put1 _ _ _ _
                    intro w15 hw_ hgr_
                    have nX := Aside0.mk (PlX.putP HN.out HX.out hw_ hgr_)
                    clear HX hw_ hgr_
                    have HX := nX
                    clear nX
                    refine hK.out _ _ ?_
                    clear hK K
                    refine pure_ (i := 14) (N := some 90) (v := ?_) (a' := ?_) #[true, true, true, true, true, true, true, true, true, true, true, true, true, true, true, false] rfl rfl (by kernel_rfl) (fun _ _ _ h => h) (Or.inl ⟨by rfl, ?_⟩) ?_ ?_
                    rotate_left
                    · intro w'
                      go_simp
                      with_reducible rfl
                    rotate_left
                    · simp only [Act.put, List.setIfInBounds_toArray, List.set_cons_zero, List.set_cons_succ, i64_w, i32_w]
                      rfl
                    refine last_ (i := 15) (N := none) #[true, true, true, true, true, true, true, true, true, true, true, true, true, true, true, true] rfl rfl (by kernel_rfl) (by decide) (fun K hK => ?_)
                    refine put_step (by rfl) (by rfl) (t := 24) (p := .tmp 90) (v := .tmp 88) (by rfl) (g := _) (off := j) (quad (upd (upd c3 4 (.slice A8 ((s3.x 4).length + 1) c8)) j (.slice (some ad3) ln cs3))) ([(.slice (some ad3) ln cs3)]) (by rfl) (by rfl) HX.out.1.2.1 (by rfl) (by first | rfl | decide) (by simp [Value.oneCell']) ?hfit ?hc ?_
                    case hfit => show j + 1 ≤ 4; have := HJ4.out; omega
                    case hc => exact quad_put (upd c3 4 (.slice A8 ((s3.x 4).length + 1) c8)) j _ HJ4.out
                    intro w16 hw_ hgr_
                    have nX := Aside0.mk (PlX.putS HN.out HX.out hw_ hgr_)
                    clear HX hw_ hgr_
                    have HX := nX
                    clear nX
                    have nX := Aside0.mk (PlX.cut HX.out (j := j) (m := ln) (l := (s3.x j).length) (cp := cs3) (A := some ad3) (by have := HJ4.out; omega) (by rw [upd_ne _ _ (by have := HJ4.out; omega)]; exact HS.out) (by rw [upd_ne _ _ (by have := HJ4.out; omega)]; have := HLN.out; omega))
                    clear HX
                    have HX := nX
                    clear nX
                    refine hK.out _ _ ?_
                    clear hK K
                    refine done_ (by kernel_rfl) ?_
                    clear hcut zm p5 p6 d1
                    have e0 : w16.cell? ⟨gp, 0, none⟩ = some vm3 := (blk_cell HX.out.1.1 0).trans rfl
                    (repeat ((fail_if_success (with_reducible refine gate_dst (N := 97) rfl ?_)); first | go_values | go_skip | go_guarded | go_step | go_upon))
                    at_builtin
                    refine Kd.R_append (Kd.int .u8) (w0 := w) w.heap.size rfl (.tmp 92) (.tmp 96) 22 5 (.int .u8 0) 1 rfl Try.underlying22 plInfoB rfl (by decide) (by omega) vm3 s3.mv (wrap64 (97 + (j : Int)) % 256) [.int .u8 (wrap64 (97 + (j : Int)) % 256)] (fun _ => True) (fun _ => False) rfl rfl ?aP (fun _ hk => hk.elim) ?aF ?aO ?aB ?aS ?aL ?_
                    case aP => exact rfl
                    case aF => exact (fun _ h_ => trivial)
                    case aO => exact HX.out.2.2.1
                    case aB => exact HX.out.2.2.2
                    case aS => exact HX.out.2.2.2.size
                    case aL => have h1_ := HOK.out.1.2; omega
                    intro v9 w17 ho hb_ hg_ hat_
                    obtain ⟨A9, c9, ev_⟩ := Kd.R_slice ho
                    rw [List.length_append, List.length_singleton] at ev_
                    subst ev_
                    have nX := Aside0.mk (PlX.appm HN.out HX.out ho hg_ hb_)
                    rw [show wrap64 (97 + (j : Int)) % 256 = 97 + (j : Int) from by rw [w64_ (by have := HJ4.out; omega)]; have := HJ4.out; omega] at nX
                    clear HX ho hb_ hg_ hat_ e0
                    have HX := nX
                    clear nX
                    (repeat ((fail_if_success (with_reducible refine gate_store (t := 22) (p := 98) rfl ?_)); first | go_values | go_skip | go_guarded | go_step | go_upon))
                    refine put_event (by rfl) (by rfl) (t := 22) (p := .tmp 98) (by rfl) (g := _) (off := 0) (six (.slice A9 (s3.mv.length + 1) c9) (.slice A8 ((s3.x 4).length + 1) c8) s3.d) ([(.slice A9 (s3.mv.length + 1) c9)]) (by rfl) (by rfl) HX.out.1.1 (by rfl) (by first | rfl | decide) (by simp [Value.oneCell']) ?hfit ?hc ?_
                    case hfit => first | decide | (simp; done) | (simp [six, quad]; done) | (simp [six, quad]; omega)
                    case hc => exact six_put0 _ _ _ _
                    intro w18 hw_ hgr_
                    have nX := Aside0.mk (PlX.putP HN.out HX.out hw_ hgr_)
                    clear HX hw_ hgr_
                    have HX := nX
                    clear nX
                    have hx_ : s3.pop j = ⟨upd (upd s3.x 4 (s3.x 4 ++ [lv])) j ((upd s3.x 4 (s3.x 4 ++ [lv]) j).take ln), s3.mv ++ [97 + (j : Int)], s3.d⟩ := by unfold Pl.pop; rw [HLV.out, upd_ne s3.x _ (show j ≠ 4 by have := HJ4.out; omega), HLN.out, Nat.add_sub_cancel]
                    have hc4_ : (upd (upd c3 4 (.slice A8 ((s3.x 4).length + 1) c8)) j (.slice (some ad3) ln cs3)) 4 = (.slice A8 ((s3.x 4).length + 1) c8) := by rw [upd_ne _ _ (by have := HJ4.out; omega), upd_same]
                    have NX := Aside0.mk (show PlX 3 5 57 81 57 w w18 gp gs gr (six (.slice A9 (s3.mv.length + 1) c9) ((upd (upd c3 4 (.slice A8 ((s3.x 4).length + 1) c8)) j (.slice (some ad3) ln cs3)) 4) (s3.pop j).d) (quad (upd (upd c3 4 (.slice A8 ((s3.x 4).length + 1) c8)) j (.slice (some ad3) ln cs3))) #[.slice none 0 0, .slice none 0 0, .int .i64 0, .int .i64 0, .int .i64 0, .int .i64 0] (upd (upd c3 4 (.slice A8 ((s3.x 4).length + 1) c8)) j (.slice (some ad3) ln cs3)) (s3.pop j).x (.slice A9 (s3.mv.length + 1) c9) (s3.pop j).mv from by rw [hx_, hc4_]; exact HX.out)
                    have NS := Aside0.mk (show ∀ y, j + 1 ≤ y → y < 4 → (upd (upd c3 4 (.slice A8 ((s3.x 4).length + 1) c8)) j (.slice (some ad3) ln cs3)) y = c y from fun y h1 h2 => by rw [upd_ne _ _ (by omega), upd_ne _ _ (by omega)]; exact HSM.out y (by omega) h2)
                    clear hx_ hc4_ HX HSM
                    go_wp2
                    have zj := wup_ j (by have := HJ4.out; omega)
                    go_roundg e
                    case measure => omega
                    case rel => exact ⟨true, j + 1, s3.pop j, rfl, (by rw [zj]), ⟨by have := HJ.out; omega⟩, HQ, ⟨_, _, NX.out, NS.out⟩⟩
                  · skip
                    rw [if_neg hhit] at hQ
                    have HQ := Aside0.mk hQ
                    have d1 : (lv == o1) = false := by rw [beq_eq_false_iff_ne, ← HLV.out, ← HO1.out]; intro h_; exact hhit ⟨by have := HLN.out; omega, h_⟩
                    clear hQ hhit zm p5 p6
                    go_wp2
                    have zj := wup_ j (by have := HJ4.out; omega)
                    go_roundg e
                    case measure => omega
                    case rel => exact ⟨b, j + 1, s3, rfl, (by rw [zj]), ⟨by have := HJ.out; omega⟩, HQ, ⟨_, _, HX.out, fun y h1 h2 => HSM.out y (by omega) h2⟩⟩
end Go.Proofs.Ytmgekfoiamjijaa.PFnConflicts
