-- laid by mkprint.py, a program of this claim's writer, over the kit's print program; parts of it are typed by hand
import Derived.Test.YtmgekfoiamjijaaPFnConflictsx0
import Derived.Test.YtmgekfoiamjijaaPFnConflictsx7
import Derived.Test.YtmgekfoiamjijaaPFnConflictsx8
import Derived.Test.YtmgekfoiamjijaaPFnConflictsx10
import Derived.Test.YtmgekfoiamjijaaPFnConflictsx13
namespace Go.Proofs.Ytmgekfoiamjijaa.PFnConflicts
open Go.RowKit Go.Proofs.YtmgekfoiamjijaaW.PrintWords Go.Proofs.YtmgekfoiamjijaaW.PrintLast Go.Proofs.YtmgekfoiamjijaaW.PrintMore
attribute [local go_sem] max2_int min2_int max_two min_two max_three min_three max_four min_four
set_option linter.unusedVariables false
set_option linter.unusedSimpArgs false
def spec_ComesOut.f (k : Nat) (l0 l1 : List Int) : Option (List Int × Bool) := (spec_l7Sharing.f k l0 l1).bind fun t => if t = true then (spec_l7Moves.f k l0 l1).bind fun q => some (q.x 4, true) else some ([], false)
theorem spec_ComesOut.mono : ∀ a0 a1 k, LeO (spec_ComesOut.f k a0 a1) (spec_ComesOut.f (k + 1) a0 a1) := fun _ _ _ => LeO.bind (spec_l7Sharing.mono _ _ _) (fun _ => LeO.ite (LeO.bind (spec_l7Moves.mono _ _ _) (fun _ => LeO.refl _)) (LeO.refl _))
set_option maxHeartbeats 8000000 in
set_option maxRecDepth 100000 in
theorem spec_ComesOut.calls (k : Nat) (A0 : Option Addr) (c0 : Nat) (l0 : List Int) (A1 : Option Addr) (c1 : Nat) (l1 : List Int) (r1 : List Int) (r2 : Bool) (w : World) (hr0 : Kd.C (Kd.int .i64) w A0 l0.length l0) (hc0 : l0.length ≤ c0) (hr1 : Kd.C (Kd.int .i64) w A1 l1.length l1) (hc1 : l1.length ≤ c1) (h : spec_ComesOut.f k l0 l1 = some (r1, r2)) :
    Calls Try.prog 12 #[.slice A0 l0.length c0, .slice A1 l1.length c1] w fun e w' => ∃ v0_ : Value, e = .returned (.tuple #[v0_, .bool r2]) ∧ Kd.R (Kd.int .i64) 3 w' w.heap.size (fun _ => True) v0_ r1 ∧ Below w.heap.size w w' := by
  have HR0 := Aside0.mk hr0
  have HR1 := Aside0.mk hr1
  have HC0 := Aside0.mk hc0
  have HC1 := Aside0.mk hc1
  have HB := Aside0.mk (Below.refl w.heap.size w)
  unfold spec_ComesOut.f at h
  obtain ⟨t, h1, H⟩ := Option.bind_eq_some_iff.1 h
  have A2 := Aside0.mk h1
  clear hr0 hr1 hc0 hc1 h h1
  cases t with
  | false =>
    rw [if_neg (by simp)] at H
    obtain ⟨rfl, rfl⟩ := Prod.mk.inj (Option.some.inj H)
    clear H
    go_enter Try.func12, Try.ntmps12
    (repeat ((fail_if_success (with_reducible refine gate_dst (N := 8) rfl ?_)); first | go_values | go_skip | go_guarded | go_step | go_upon))
    refine goesL_ (some 8) rfl rfl Try.func41 (by kernel_rfl) rfl #[.slice A0 l0.length c0, .slice A1 l1.length c1] rfl (by (try simp only [List.map_toArray, List.map_cons, List.map_nil]); first | done | rfl) ?_
    refine (spec_l7Sharing.calls k A0 c0 l0 A1 c1 l1 _ w (Kd.C_below HR0.out HB.out) HC0.out (Kd.C_below HR1.out HB.out) HC1.out A2.out).mono ?_
    rintro e wS ⟨rfl, hdr⟩
    refine ⟨_, rfl, ?_⟩
    have nb_ := Aside0.mk (below_step HB.out hdr.below)
    clear HB hdr
    have HB := nb_
    clear nb_
    (repeat ((fail_if_success (with_reducible refine gate_dst (N := 10) rfl ?_)); first | go_values | go_skip | go_guarded | go_step | go_upon))
    refine Kd.R_lit (Kd.int .i64) (w0 := w) w.heap.size 3 ?hg (N := 10) ?hd (xs := ([] : List Int)) (inner := []) (ok := fun _ => True) (okp := fun _ => True) ?hr (Reps.none _ _) (fun _ hk => hk) trivial HB.out HB.out.size (by simp) ?_
    case hd => rfl
    case hg => rfl
    case hr => first | (go_simp; done) | (go_simp; rfl)
    intro vE wE ho hbE hgE hnew
    have HO := Aside0.mk ho
    have HB2 := Aside0.mk hbE
    clear ho hbE hgE hnew
    go_wp2
    go_ret2
    exact ⟨_, rfl, HO.out, HB2.out⟩
  | true =>
    rw [if_pos rfl] at H
    obtain ⟨q, h1, H⟩ := Option.bind_eq_some_iff.1 H
    have A3 := Aside0.mk h1
    clear h1
    obtain ⟨rfl, rfl⟩ := Prod.mk.inj (Option.some.inj H)
    clear H
    go_enter Try.func12, Try.ntmps12
    (repeat ((fail_if_success (with_reducible refine gate_dst (N := 8) rfl ?_)); first | go_values | go_skip | go_guarded | go_step | go_upon))
    refine goesL_ (some 8) rfl rfl Try.func41 (by kernel_rfl) rfl #[.slice A0 l0.length c0, .slice A1 l1.length c1] rfl (by (try simp only [List.map_toArray, List.map_cons, List.map_nil]); first | done | rfl) ?_
    refine (spec_l7Sharing.calls k A0 c0 l0 A1 c1 l1 _ w (Kd.C_below HR0.out HB.out) HC0.out (Kd.C_below HR1.out HB.out) HC1.out A2.out).mono ?_
    rintro e wS ⟨rfl, hdr⟩
    refine ⟨_, rfl, ?_⟩
    have nb_ := Aside0.mk (below_step HB.out hdr.below)
    clear HB hdr
    have HB := nb_
    clear nb_
    (repeat ((fail_if_success (with_reducible refine gate_dst (N := 13) rfl ?_)); first | go_values | go_skip | go_guarded | go_step | go_upon))
    refine goesL_ (some 13) rfl rfl Try.func44 (by kernel_rfl) rfl #[.slice A0 l0.length c0, .slice A1 l1.length c1] rfl (by (try simp only [List.map_toArray, List.map_cons, List.map_nil]); first | done | rfl) ?_
    refine (spec_l7Moves.calls k A0 c0 l0 A1 c1 l1 q wS (Kd.C_below HR0.out HB.out) HC0.out (Kd.C_below HR1.out HB.out) HC1.out A3.out).mono ?_
    rintro e wP ⟨gs, vo, rfl, ho_, hb_⟩
    refine ⟨_, rfl, ?_⟩
    unfold seven
    have HO_ := Aside0.mk (Kd.R_lower ho_ HB.out.size)
    have nb_ := Aside0.mk (below_step HB.out hb_)
    clear HB ho_ hb_
    have HB := nb_
    clear nb_
    have hfd := fun w' : World => run_field_one (P := Try.prog) (w := w') 61 _ 2 _ (#[.slice (some ⟨gs, 0, none⟩) 4 4, .string (strOfNums q.mv), vo, .int .i64 (q.d 0), .int .i64 (q.d 1), .int .i64 (q.d 2), .int .i64 (q.d 3)]) _ _ Try.underlying61 rfl Try.underlying24 rfl rfl
    go_wp2
    go_ret2
    exact ⟨_, rfl, HO_.out, HB.out⟩
def impl_DepthsOf.f (k : Nat) (l0 l1 : List Int) : Option (Int × Int × Int × Int × Bool) := (impl_isSharing.f k l0 l1).bind fun t => if t = true then (impl_play.f k l0 l1).bind fun q => some (q.d 0, q.d 1, q.d 2, q.d 3, true) else some (0, 0, 0, 0, false)
theorem impl_DepthsOf.mono : ∀ a0 a1 k, LeO (impl_DepthsOf.f k a0 a1) (impl_DepthsOf.f (k + 1) a0 a1) := fun _ _ _ => LeO.bind (impl_isSharing.mono _ _ _) (fun _ => LeO.ite (LeO.bind (impl_play.mono _ _ _) (fun _ => LeO.refl _)) (LeO.refl _))
set_option maxHeartbeats 8000000 in
set_option maxRecDepth 100000 in
theorem impl_DepthsOf.calls (k : Nat) (A0 : Option Addr) (c0 : Nat) (l0 : List Int) (A1 : Option Addr) (c1 : Nat) (l1 : List Int) (r1 r2 r3 r4 : Int) (r5 : Bool) (w : World) (hr0 : Kd.C (Kd.int .i64) w A0 l0.length l0) (hc0 : l0.length ≤ c0) (hr1 : Kd.C (Kd.int .i64) w A1 l1.length l1) (hc1 : l1.length ≤ c1) (h : impl_DepthsOf.f k l0 l1 = some (r1, r2, r3, r4, r5)) :
    Calls Try.prog 13 #[.slice A0 l0.length c0, .slice A1 l1.length c1] w fun e w' => e = .returned (.tuple #[.agg #[.int .i64 r1, .int .i64 r2, .int .i64 r3, .int .i64 r4], .bool r5]) ∧ Below w.heap.size w w' := by
  have HR0 := Aside0.mk hr0
  have HR1 := Aside0.mk hr1
  have HC0 := Aside0.mk hc0
  have HC1 := Aside0.mk hc1
  have HB := Aside0.mk (Below.refl w.heap.size w)
  unfold impl_DepthsOf.f at h
  obtain ⟨t, h1, H⟩ := Option.bind_eq_some_iff.1 h
  have A2 := Aside0.mk h1
  clear hr0 hr1 hc0 hc1 h h1
  cases t with
  | false =>
    rw [if_neg (by simp)] at H
    obtain ⟨rfl, H1⟩ := Prod.mk.inj (Option.some.inj H)
    obtain ⟨rfl, H2⟩ := Prod.mk.inj H1
    obtain ⟨rfl, H3⟩ := Prod.mk.inj H2
    obtain ⟨rfl, rfl⟩ := Prod.mk.inj H3
    clear H H1 H2
    go_enter Try.func13, Try.ntmps13
    (repeat ((fail_if_success (with_reducible refine gate_dst (N := 4) rfl ?_)); first | go_values | go_skip | go_guarded | go_step | go_upon))
    refine box_event ?hg (N := 4) ?hd (cs := #[.int .i64 0, .int .i64 0, .int .i64 0, .int .i64 0]) (t := 33) ?hr ?_
    case hd => rfl
    case hg => rfl
    case hr => first | (go_simp; done) | (go_simp; rfl)
    intro g hg wB hbox hb_
    have HG := Aside0.mk (show w.heap.size ≤ g by omega)
    have HBX := Aside0.mk hbox
    have nb_ := Aside0.mk (below_step HB.out hb_)
    clear HB hg hbox hb_
    have HB := nb_
    clear nb_
    (repeat ((fail_if_success (with_reducible refine gate_dst (N := 8) rfl ?_)); first | go_values | go_skip | go_guarded | go_step | go_upon))
    refine goesL_ (some 8) rfl rfl Try.func39 (by kernel_rfl) rfl #[.slice A0 l0.length c0, .slice A1 l1.length c1] rfl (by (try simp only [List.map_toArray, List.map_cons, List.map_nil]); first | done | rfl) ?_
    refine (impl_isSharing.calls k A0 c0 l0 A1 c1 l1 _ wB (Kd.C_below HR0.out HB.out) HC0.out (Kd.C_below HR1.out HB.out) HC1.out A2.out).mono ?_
    rintro e wS ⟨rfl, hdr⟩
    refine ⟨_, rfl, ?_⟩
    have nb_ := Aside0.mk (below_step HB.out hdr.below)
    have nx_ := Aside0.mk (blk_below HBX.out hdr.below)
    clear HB hdr
    have HB := nb_
    clear nb_
    clear HBX
    have HBX := nx_
    clear nx_
    (repeat ((fail_if_success (with_reducible refine gate_store (t := 33) (p := 4) rfl ?_)); first | go_values | go_skip | go_guarded | go_step | go_upon))
    refine put_event (by rfl) (by rfl) (t := 33) (p := .tmp 4) (by rfl) (g := _) (off := 0) (#[.int .i64 0, .int .i64 0, .int .i64 0, .int .i64 0]) ([.int .i64 0, .int .i64 0, .int .i64 0, .int .i64 0]) (by rfl) (by rfl) HBX.out (by rfl) (by first | rfl | decide) (by simp [Value.oneCell']) ?hfit ?hc ?_
    case hfit => first | decide | (simp; done)
    case hc => rfl
    intro wC hw_ hgr_
    have nx_ := Aside0.mk hw_
    have nb_ := Aside0.mk (pw_below_grown HB.out _ HB.out.size hgr_ (fun k_ e_ => by rw [← Option.some.inj e_]; exact HG.out))
    clear HB HBX hw_ hgr_
    have HB := nb_
    have HBX := nx_
    clear nb_ nx_
    go_wp2
    (try simp only [Exit.inBlock, Exit.then])
    refine bodyPost_ret (results_ct rfl _ _ g 33 (#[.int .i64 0, .int .i64 0, .int .i64 0, .int .i64 0]) (0, 0) _ rfl HBX.out Try.underlying33 rfl (by kernel_rfl)) rfl ?_
    exact ⟨rfl, HB.out⟩
  | true =>
    rw [if_pos rfl] at H
    obtain ⟨q, h1, H⟩ := Option.bind_eq_some_iff.1 H
    have A3 := Aside0.mk h1
    clear h1
    obtain ⟨rfl, H1⟩ := Prod.mk.inj (Option.some.inj H)
    obtain ⟨rfl, H2⟩ := Prod.mk.inj H1
    obtain ⟨rfl, H3⟩ := Prod.mk.inj H2
    obtain ⟨rfl, rfl⟩ := Prod.mk.inj H3
    clear H H1 H2
    go_enter Try.func13, Try.ntmps13
    (repeat ((fail_if_success (with_reducible refine gate_dst (N := 4) rfl ?_)); first | go_values | go_skip | go_guarded | go_step | go_upon))
    refine box_event ?hg (N := 4) ?hd (cs := #[.int .i64 0, .int .i64 0, .int .i64 0, .int .i64 0]) (t := 33) ?hr ?_
    case hd => rfl
    case hg => rfl
    case hr => first | (go_simp; done) | (go_simp; rfl)
    intro g hg wB hbox hb_
    have HG := Aside0.mk (show w.heap.size ≤ g by omega)
    have HBX := Aside0.mk hbox
    have nb_ := Aside0.mk (below_step HB.out hb_)
    clear HB hg hbox hb_
    have HB := nb_
    clear nb_
    (repeat ((fail_if_success (with_reducible refine gate_dst (N := 8) rfl ?_)); first | go_values | go_skip | go_guarded | go_step | go_upon))
    refine goesL_ (some 8) rfl rfl Try.func39 (by kernel_rfl) rfl #[.slice A0 l0.length c0, .slice A1 l1.length c1] rfl (by (try simp only [List.map_toArray, List.map_cons, List.map_nil]); first | done | rfl) ?_
    refine (impl_isSharing.calls k A0 c0 l0 A1 c1 l1 _ wB (Kd.C_below HR0.out HB.out) HC0.out (Kd.C_below HR1.out HB.out) HC1.out A2.out).mono ?_
    rintro e wS ⟨rfl, hdr⟩
    refine ⟨_, rfl, ?_⟩
    have nb_ := Aside0.mk (below_step HB.out hdr.below)
    have nx_ := Aside0.mk (blk_below HBX.out hdr.below)
    clear HB hdr
    have HB := nb_
    clear nb_
    clear HBX
    have HBX := nx_
    clear nx_
    (repeat ((fail_if_success (with_reducible refine gate_dst (N := 13) rfl ?_)); first | go_values | go_skip | go_guarded | go_step | go_upon))
    refine goesL_ (some 13) rfl rfl Try.func43 (by kernel_rfl) rfl #[.slice A0 l0.length c0, .slice A1 l1.length c1] rfl (by (try simp only [List.map_toArray, List.map_cons, List.map_nil]); first | done | rfl) ?_
    refine (impl_play.calls k A0 c0 l0 A1 c1 l1 q wS (Kd.C_below HR0.out HB.out) HC0.out (Kd.C_below HR1.out HB.out) HC1.out A3.out).mono ?_
    rintro e wP ⟨vm, vo, rfl, hm_, ho_, hb_⟩
    refine ⟨_, rfl, ?_⟩
    unfold six
    have nx_ := Aside0.mk (blk_below HBX.out hb_)
    clear HBX
    have HBX := nx_
    clear nx_
    have HO_ := Aside0.mk (Kd.R_lower ho_ HB.out.size)
    have nb_ := Aside0.mk (below_step HB.out hb_)
    have HM_ := Aside0.mk hm_
    clear HB ho_ hb_ hm_
    have HB := nb_
    clear nb_
    have hfd := fun w' : World => run_field_arr (P := Try.prog) (w := w') 57 _ 2 _ (#[vm, vo, .int .i64 (q.d 0), .int .i64 (q.d 1), .int .i64 (q.d 2), .int .i64 (q.d 3)]) #[.int .i64 (q.d 0), .int .i64 (q.d 1), .int .i64 (q.d 2), .int .i64 (q.d 3)] 4 3 Try.underlying57 rfl Try.underlying33 4 (by first | rfl | decide | kernel_rfl) rfl
    (repeat ((fail_if_success (with_reducible refine gate_store (t := 33) (p := 4) rfl ?_)); first | go_values | go_skip | go_guarded | go_step | go_upon))
    refine put_event (by rfl) (by rfl) (t := 33) (p := .tmp 4) (by rfl) (g := _) (off := 0) (#[.int .i64 (q.d 0), .int .i64 (q.d 1), .int .i64 (q.d 2), .int .i64 (q.d 3)]) ([.int .i64 (q.d 0), .int .i64 (q.d 1), .int .i64 (q.d 2), .int .i64 (q.d 3)]) (by rfl) (by rfl) HBX.out (by rfl) (by first | rfl | decide) (by simp [Value.oneCell']) ?hfit ?hc ?_
    case hfit => first | decide | (simp; done)
    case hc => rfl
    intro wC hw_ hgr_
    have nx_ := Aside0.mk hw_
    have nb_ := Aside0.mk (pw_below_grown HB.out _ HB.out.size hgr_ (fun k_ e_ => by rw [← Option.some.inj e_]; exact HG.out))
    clear HB HBX hw_ hgr_
    have HB := nb_
    have HBX := nx_
    clear nb_ nx_
    go_wp2
    (try simp only [Exit.inBlock, Exit.then])
    refine bodyPost_ret (results_ct rfl _ _ g 33 (#[.int .i64 (q.d 0), .int .i64 (q.d 1), .int .i64 (q.d 2), .int .i64 (q.d 3)]) (0, 0) _ rfl HBX.out Try.underlying33 rfl (by kernel_rfl)) rfl ?_
    exact ⟨rfl, HB.out⟩
def spec_DepthsOf.f (k : Nat) (l0 l1 : List Int) : Option (Int × Int × Int × Int × Bool) := (spec_l7Sharing.f k l0 l1).bind fun t => if t = true then (spec_l7Moves.f k l0 l1).bind fun q => some (q.d 0, q.d 1, q.d 2, q.d 3, true) else some (0, 0, 0, 0, false)
theorem spec_DepthsOf.mono : ∀ a0 a1 k, LeO (spec_DepthsOf.f k a0 a1) (spec_DepthsOf.f (k + 1) a0 a1) := fun _ _ _ => LeO.bind (spec_l7Sharing.mono _ _ _) (fun _ => LeO.ite (LeO.bind (spec_l7Moves.mono _ _ _) (fun _ => LeO.refl _)) (LeO.refl _))
set_option maxHeartbeats 8000000 in
set_option maxRecDepth 100000 in
theorem spec_DepthsOf.calls (k : Nat) (A0 : Option Addr) (c0 : Nat) (l0 : List Int) (A1 : Option Addr) (c1 : Nat) (l1 : List Int) (r1 r2 r3 r4 : Int) (r5 : Bool) (w : World) (hr0 : Kd.C (Kd.int .i64) w A0 l0.length l0) (hc0 : l0.length ≤ c0) (hr1 : Kd.C (Kd.int .i64) w A1 l1.length l1) (hc1 : l1.length ≤ c1) (h : spec_DepthsOf.f k l0 l1 = some (r1, r2, r3, r4, r5)) :
    Calls Try.prog 14 #[.slice A0 l0.length c0, .slice A1 l1.length c1] w fun e w' => e = .returned (.tuple #[.agg #[.int .i64 r1, .int .i64 r2, .int .i64 r3, .int .i64 r4], .bool r5]) ∧ Below w.heap.size w w' := by
  have HR0 := Aside0.mk hr0
  have HR1 := Aside0.mk hr1
  have HC0 := Aside0.mk hc0
  have HC1 := Aside0.mk hc1
  have HB := Aside0.mk (Below.refl w.heap.size w)
  unfold spec_DepthsOf.f at h
  obtain ⟨t, h1, H⟩ := Option.bind_eq_some_iff.1 h
  have A2 := Aside0.mk h1
  clear hr0 hr1 hc0 hc1 h h1
  cases t with
  | false =>
    rw [if_neg (by simp)] at H
    obtain ⟨rfl, H1⟩ := Prod.mk.inj (Option.some.inj H)
    obtain ⟨rfl, H2⟩ := Prod.mk.inj H1
    obtain ⟨rfl, H3⟩ := Prod.mk.inj H2
    obtain ⟨rfl, rfl⟩ := Prod.mk.inj H3
    clear H H1 H2
    go_enter Try.func14, Try.ntmps14
    (repeat ((fail_if_success (with_reducible refine gate_dst (N := 4) rfl ?_)); first | go_values | go_skip | go_guarded | go_step | go_upon))
    refine box_event ?hg (N := 4) ?hd (cs := #[.int .i64 0, .int .i64 0, .int .i64 0, .int .i64 0]) (t := 33) ?hr ?_
    case hd => rfl
    case hg => rfl
    case hr => first | (go_simp; done) | (go_simp; rfl)
    intro g hg wB hbox hb_
    have HG := Aside0.mk (show w.heap.size ≤ g by omega)
    have HBX := Aside0.mk hbox
    have nb_ := Aside0.mk (below_step HB.out hb_)
    clear HB hg hbox hb_
    have HB := nb_
    clear nb_
    (repeat ((fail_if_success (with_reducible refine gate_dst (N := 8) rfl ?_)); first | go_values | go_skip | go_guarded | go_step | go_upon))
    refine goesL_ (some 8) rfl rfl Try.func41 (by kernel_rfl) rfl #[.slice A0 l0.length c0, .slice A1 l1.length c1] rfl (by (try simp only [List.map_toArray, List.map_cons, List.map_nil]); first | done | rfl) ?_
    refine (spec_l7Sharing.calls k A0 c0 l0 A1 c1 l1 _ wB (Kd.C_below HR0.out HB.out) HC0.out (Kd.C_below HR1.out HB.out) HC1.out A2.out).mono ?_
    rintro e wS ⟨rfl, hdr⟩
    refine ⟨_, rfl, ?_⟩
    have nb_ := Aside0.mk (below_step HB.out hdr.below)
    have nx_ := Aside0.mk (blk_below HBX.out hdr.below)
    clear HB hdr
    have HB := nb_
    clear nb_
    clear HBX
    have HBX := nx_
    clear nx_
    (repeat ((fail_if_success (with_reducible refine gate_store (t := 33) (p := 4) rfl ?_)); first | go_values | go_skip | go_guarded | go_step | go_upon))
    refine put_event (by rfl) (by rfl) (t := 33) (p := .tmp 4) (by rfl) (g := _) (off := 0) (#[.int .i64 0, .int .i64 0, .int .i64 0, .int .i64 0]) ([.int .i64 0, .int .i64 0, .int .i64 0, .int .i64 0]) (by rfl) (by rfl) HBX.out (by rfl) (by first | rfl | decide) (by simp [Value.oneCell']) ?hfit ?hc ?_
    case hfit => first | decide | (simp; done)
    case hc => rfl
    intro wC hw_ hgr_
    have nx_ := Aside0.mk hw_
    have nb_ := Aside0.mk (pw_below_grown HB.out _ HB.out.size hgr_ (fun k_ e_ => by rw [← Option.some.inj e_]; exact HG.out))
    clear HB HBX hw_ hgr_
    have HB := nb_
    have HBX := nx_
    clear nb_ nx_
    go_wp2
    (try simp only [Exit.inBlock, Exit.then])
    refine bodyPost_ret (results_ct rfl _ _ g 33 (#[.int .i64 0, .int .i64 0, .int .i64 0, .int .i64 0]) (0, 0) _ rfl HBX.out Try.underlying33 rfl (by kernel_rfl)) rfl ?_
    exact ⟨rfl, HB.out⟩
  | true =>
    rw [if_pos rfl] at H
    obtain ⟨q, h1, H⟩ := Option.bind_eq_some_iff.1 H
    have A3 := Aside0.mk h1
    clear h1
    obtain ⟨rfl, H1⟩ := Prod.mk.inj (Option.some.inj H)
    obtain ⟨rfl, H2⟩ := Prod.mk.inj H1
    obtain ⟨rfl, H3⟩ := Prod.mk.inj H2
    obtain ⟨rfl, rfl⟩ := Prod.mk.inj H3
    clear H H1 H2
    go_enter Try.func14, Try.ntmps14
    (repeat ((fail_if_success (with_reducible refine gate_dst (N := 4) rfl ?_)); first | go_values | go_skip | go_guarded | go_step | go_upon))
    refine box_event ?hg (N := 4) ?hd (cs := #[.int .i64 0, .int .i64 0, .int .i64 0, .int .i64 0]) (t := 33) ?hr ?_
    case hd => rfl
    case hg => rfl
    case hr => first | (go_simp; done) | (go_simp; rfl)
    intro g hg wB hbox hb_
    have HG := Aside0.mk (show w.heap.size ≤ g by omega)
    have HBX := Aside0.mk hbox
    have nb_ := Aside0.mk (below_step HB.out hb_)
    clear HB hg hbox hb_
    have HB := nb_
    clear nb_
    (repeat ((fail_if_success (with_reducible refine gate_dst (N := 8) rfl ?_)); first | go_values | go_skip | go_guarded | go_step | go_upon))
    refine goesL_ (some 8) rfl rfl Try.func41 (by kernel_rfl) rfl #[.slice A0 l0.length c0, .slice A1 l1.length c1] rfl (by (try simp only [List.map_toArray, List.map_cons, List.map_nil]); first | done | rfl) ?_
    refine (spec_l7Sharing.calls k A0 c0 l0 A1 c1 l1 _ wB (Kd.C_below HR0.out HB.out) HC0.out (Kd.C_below HR1.out HB.out) HC1.out A2.out).mono ?_
    rintro e wS ⟨rfl, hdr⟩
    refine ⟨_, rfl, ?_⟩
    have nb_ := Aside0.mk (below_step HB.out hdr.below)
    have nx_ := Aside0.mk (blk_below HBX.out hdr.below)
    clear HB hdr
    have HB := nb_
    clear nb_
    clear HBX
    have HBX := nx_
    clear nx_
    (repeat ((fail_if_success (with_reducible refine gate_dst (N := 13) rfl ?_)); first | go_values | go_skip | go_guarded | go_step | go_upon))
    refine goesL_ (some 13) rfl rfl Try.func44 (by kernel_rfl) rfl #[.slice A0 l0.length c0, .slice A1 l1.length c1] rfl (by (try simp only [List.map_toArray, List.map_cons, List.map_nil]); first | done | rfl) ?_
    refine (spec_l7Moves.calls k A0 c0 l0 A1 c1 l1 q wS (Kd.C_below HR0.out HB.out) HC0.out (Kd.C_below HR1.out HB.out) HC1.out A3.out).mono ?_
    rintro e wP ⟨gs, vo, rfl, ho_, hb_⟩
    refine ⟨_, rfl, ?_⟩
    unfold seven
    have nx_ := Aside0.mk (blk_below HBX.out hb_)
    clear HBX
    have HBX := nx_
    clear nx_
    have HO_ := Aside0.mk (Kd.R_lower ho_ HB.out.size)
    have nb_ := Aside0.mk (below_step HB.out hb_)
    clear HB ho_ hb_
    have HB := nb_
    clear nb_
    have hfd := fun w' : World => run_field_arr (P := Try.prog) (w := w') 61 _ 3 _ (#[.slice (some ⟨gs, 0, none⟩) 4 4, .string (strOfNums q.mv), vo, .int .i64 (q.d 0), .int .i64 (q.d 1), .int .i64 (q.d 2), .int .i64 (q.d 3)]) #[.int .i64 (q.d 0), .int .i64 (q.d 1), .int .i64 (q.d 2), .int .i64 (q.d 3)] 4 3 Try.underlying61 rfl Try.underlying33 4 (by first | rfl | decide | kernel_rfl) rfl
    (repeat ((fail_if_success (with_reducible refine gate_store (t := 33) (p := 4) rfl ?_)); first | go_values | go_skip | go_guarded | go_step | go_upon))
    refine put_event (by rfl) (by rfl) (t := 33) (p := .tmp 4) (by rfl) (g := _) (off := 0) (#[.int .i64 (q.d 0), .int .i64 (q.d 1), .int .i64 (q.d 2), .int .i64 (q.d 3)]) ([.int .i64 (q.d 0), .int .i64 (q.d 1), .int .i64 (q.d 2), .int .i64 (q.d 3)]) (by rfl) (by rfl) HBX.out (by rfl) (by first | rfl | decide) (by simp [Value.oneCell']) ?hfit ?hc ?_
    case hfit => first | decide | (simp; done)
    case hc => rfl
    intro wC hw_ hgr_
    have nx_ := Aside0.mk hw_
    have nb_ := Aside0.mk (pw_below_grown HB.out _ HB.out.size hgr_ (fun k_ e_ => by rw [← Option.some.inj e_]; exact HG.out))
    clear HB HBX hw_ hgr_
    have HB := nb_
    have HBX := nx_
    clear nb_ nx_
    go_wp2
    (try simp only [Exit.inBlock, Exit.then])
    refine bodyPost_ret (results_ct rfl _ _ g 33 (#[.int .i64 (q.d 0), .int .i64 (q.d 1), .int .i64 (q.d 2), .int .i64 (q.d 3)]) (0, 0) _ rfl HBX.out Try.underlying33 rfl (by kernel_rfl)) rfl ?_
    exact ⟨rfl, HB.out⟩
mutual
def impl_ConflictsOf.l0 : Nat → List Int → List (S41) → Int → Int → Option ((List (S41)) × Bool)
  | 0, _, _, _, _ => none
  | k + 1, x0, x4, x12, x13 => if x13 < x12 then (impl_ConflictsOf.l1 k x0 x4 x13 (wrap64 (x13 + 1)) x12 x13) else (some (x4, true))
def impl_ConflictsOf.l1 : Nat → List Int → List (S41) → Int → Int → Int → Int → Option ((List (S41)) × Bool)
  | 0, _, _, _, _, _, _ => none
  | k + 1, x0, x4, x5, x6, x12, x13 => if x6 < (x0.length : Int) then ((impl_isConflict.f k x0 x5 x6).bind fun t291 => (if t291 = true then (if x4.length < 8796093022208 then (impl_ConflictsOf.l1 k x0 (x4 ++ [(⟨x5, x6⟩ : S41)]) x5 (wrap64 (x6 + 1)) x12 x13) else (none)) else (impl_ConflictsOf.l1 k x0 x4 x5 (wrap64 (x6 + 1)) x12 x13))) else (impl_ConflictsOf.l0 k x0 x4 x12 (wrap64 (x13 + 1)))
end
def impl_ConflictsOf.f (k : Nat) (l0 : List Int) : Option ((List (S41)) × Bool) := (impl_isOrder.f k l0).bind fun t287 => (if t287 = true then (impl_ConflictsOf.l0 k l0 (([] : List (S41))) (l0.length : Int) 0) else (some (([] : List (S41)), false)))
theorem impl_ConflictsOf.mono_l : ∀ k, (∀ y0 y1 y2 y3, LeO (impl_ConflictsOf.l0 k y0 y1 y2 y3) (impl_ConflictsOf.l0 (k + 1) y0 y1 y2 y3)) ∧ (∀ y0 y1 y2 y3 y4 y5, LeO (impl_ConflictsOf.l1 k y0 y1 y2 y3 y4 y5) (impl_ConflictsOf.l1 (k + 1) y0 y1 y2 y3 y4 y5))
  | 0 => ⟨fun _ _ _ _ r h => by simp [impl_ConflictsOf.l0] at h, fun _ _ _ _ _ _ r h => by simp [impl_ConflictsOf.l1] at h⟩
  | k + 1 => by
    obtain ⟨ih0, ih1⟩ := impl_ConflictsOf.mono_l k
    refine ⟨?_, ?_⟩
    · intro y0 y1 y2 y3
      unfold impl_ConflictsOf.l0
      repeat' first
      | (with_reducible exact ih0 _ _ _ _)
      | (with_reducible exact ih1 _ _ _ _ _ _)
      | (with_reducible exact impl_isConflict.mono _ _ _ _)
      | (with_reducible exact impl_isOrder.mono _ _)
      | (with_reducible exact LeO.refl _)
      | (with_reducible exact LeO.none _)
      | (with_reducible refine LeO.ite ?_ ?_)
      | (with_reducible refine LeO.bind ?_ (fun _ => ?_))
      | exact ih0 _ _ _ _
      | exact ih1 _ _ _ _ _ _
      | exact impl_isConflict.mono _ _ _ _
      | exact impl_isOrder.mono _ _
      | exact LeO.none _
      | refine LeO.ite ?_ ?_
      | refine LeO.bind ?_ (fun _ => ?_)
    · intro y0 y1 y2 y3 y4 y5
      unfold impl_ConflictsOf.l1
      repeat' first
      | (with_reducible exact ih0 _ _ _ _)
      | (with_reducible exact ih1 _ _ _ _ _ _)
      | (with_reducible exact impl_isConflict.mono _ _ _ _)
      | (with_reducible exact impl_isOrder.mono _ _)
      | (with_reducible exact LeO.refl _)
      | (with_reducible exact LeO.none _)
      | (with_reducible refine LeO.ite ?_ ?_)
      | (with_reducible refine LeO.bind ?_ (fun _ => ?_))
      | exact ih0 _ _ _ _
      | exact ih1 _ _ _ _ _ _
      | exact impl_isConflict.mono _ _ _ _
      | exact impl_isOrder.mono _ _
      | exact LeO.none _
      | refine LeO.ite ?_ ?_
      | refine LeO.bind ?_ (fun _ => ?_)
theorem impl_ConflictsOf.mono : ∀ a0 k, LeO (impl_ConflictsOf.f k a0) (impl_ConflictsOf.f (k + 1) a0) := by
  intro a0 k
  obtain ⟨ih0, ih1⟩ := impl_ConflictsOf.mono_l k
  unfold impl_ConflictsOf.f
  repeat' first
      | (with_reducible exact ih0 _ _ _ _)
      | (with_reducible exact ih1 _ _ _ _ _ _)
      | (with_reducible exact impl_isConflict.mono _ _ _ _)
      | (with_reducible exact impl_isOrder.mono _ _)
      | (with_reducible exact LeO.refl _)
      | (with_reducible exact LeO.none _)
      | (with_reducible refine LeO.ite ?_ ?_)
      | (with_reducible refine LeO.bind ?_ (fun _ => ?_))
      | exact ih0 _ _ _ _
      | exact ih1 _ _ _ _ _ _
      | exact impl_isConflict.mono _ _ _ _
      | exact impl_isOrder.mono _ _
      | exact LeO.none _
      | refine LeO.ite ?_ ?_
      | refine LeO.bind ?_ (fun _ => ?_)
set_option maxHeartbeats 8000000 in
set_option maxRecDepth 100000 in
theorem impl_ConflictsOf.calls (k : Nat) (A0 : Option Addr) (c0 : Nat) (l0 : List Int) (r1 : List (S41)) (r2 : Bool) (w : World) (hr0 : Kd.C (Kd.int .i64) w A0 l0.length l0) (hc0 : l0.length ≤ c0) (h : impl_ConflictsOf.f k l0 = some (r1, r2)) :
    Calls Try.prog 15 #[.slice A0 l0.length c0] w fun e w' => ∃ v0_ : Value, e = .returned (.tuple #[v0_, .bool r2]) ∧ Kd.R k41 41 w' w.heap.size (fun _ => True) v0_ r1 ∧ Below w.heap.size w w' := by
  have hu41 := Try.underlying41
  have HR0 := Aside0.mk hr0
  have HC0 := Aside0.mk hc0
  clear hr0 hc0
  have HB := Aside0.mk (Below.refl w.heap.size w)
  have H : ((impl_isOrder.f k l0).bind fun t287 => (if t287 = true then (impl_ConflictsOf.l0 k l0 (([] : List (S41))) (l0.length : Int) 0) else (some (([] : List (S41)), false)))) = some (r1, r2) := h
  clear h
  replace H := Option.bind_eq_some_iff.mp H
  obtain ⟨t287, A20, H⟩ := H
  replace H : (if t287 = true then (impl_ConflictsOf.l0 k l0 (([] : List (S41))) (l0.length : Int) 0) else (some (([] : List (S41)), false))) = some (r1, r2) := H
  have A2 := Aside0.mk A20
  clear A20
  by_cases c3 : t287 = true
  · subst c3
    have H1 : (impl_ConflictsOf.l0 k l0 (([] : List (S41))) (l0.length : Int) 0) = some (r1, r2) := by rw [if_pos rfl] at H; exact H
    clear H
    have H := H1
    clear H1
    obtain ⟨y288, hy288⟩ : ∃ y_ : List (S41), y_ = (([] : List (S41))) := ⟨_, rfl⟩
    replace H : (impl_ConflictsOf.l0 k l0 y288 (l0.length : Int) 0) = some (r1, r2) := by first | (rw [hy288]; with_reducible exact H) | (have H2_ := (Option.bind_some _ _).symm.trans H; rw [hy288]; with_reducible exact H2_) | (have H2_ := (Option.bind_some _ _).symm.trans H; with_reducible exact H2_) | with_reducible exact H | (rw [hy288]; exact H) | exact H
    have Ny288 := Aside0.mk hy288
    clear hy288
    have H' := Aside0.mk H
    clear H
    go_enter Try.func15, Try.ntmps15
    go_wp2_with (first | ((with_reducible refine gate_callee (f := 45) rfl ?_); refine goesL_ (some 8) rfl rfl Try.func45 (by kernel_rfl) rfl #[.slice A0 l0.length c0] rfl (by (try simp only [List.map_toArray, List.map_cons, List.map_nil]); first | done | rfl | (simp only [List.length_drop, List.length_take]; rfl)) ?_; (with_reducible refine (impl_isOrder.calls k _ _ l0 true _ ?side1 ?side2 A2.out).mono ?_); (case side1 => repeat (first | exact HR0.out | (with_reducible refine Kd.C_alloc ?_ _) | (with_reducible refine Kd.C_drewN ?_ _) | (with_reducible refine Kd.C_drew ?_))); (case side2 => exact HC0.out); rintro e w' ⟨rfl, ⟨nd, rfl⟩⟩; refine ⟨_, rfl, ?_⟩) | ((with_reducible refine gate_dst (N := 10) rfl ?_); refine Kd.R_lit k41 _ 41 ?hg (N := 10) ?hd (xs := ([] : List (S41))) (inner := []) (ok := fun _ => True) (okp := fun _ => True) ?hr ?hp (fun _ hk => hk) trivial (Below.refl _ _) (Nat.le_refl _) (by simp) ?_; (case hd => rfl); (case hg => rfl); (case hr => first | (go_simp; done) | (go_simp; rfl)); (case hp => exact (Reps.none _ _)); intro v289 w4 ho5 hb hg_ hnew_; clear hg_ hnew_; (first | rw [← Ny288.out] at ho5 | (simp only [Int.reduceToNat] at ho5; rw [← Ny288.out] at ho5)); have n0_ := Aside0.mk (Kd.R_lower ho5 (below_size (by repeat (first | (with_reducible first | exact HB.out | apply below_alloc | apply pw_below_drewN | apply below_drew1) | exact HB.out)))); have n1_ := Aside0.mk (below_step (by repeat (first | (with_reducible first | exact HB.out | apply below_alloc | apply pw_below_drewN | apply below_drew1) | exact HB.out)) hb); clear HB; have HO290 := n0_; have HB := n1_; clear n0_ n1_; clear hb ho5))
    go_loopg [4, 13] k (fun kq v4 v13 w' => ∃ (x4_1 : List (S41)) (x13_1 : Int), v13 = .int .i64 x13_1 ∧ Aside0 (impl_ConflictsOf.l0 kq l0 x4_1 (l0.length : Int) x13_1 = some (r1, r2)) ∧ Aside0 (kq ≤ k) ∧ Aside0 (Kd.R k41 41 w' w.heap.size (fun _ => True) v4 x4_1) ∧ Aside0 (Below w.heap.size w w'))
    case atStart => exact ⟨(y288), (0), (by first | rfl | (simp; done) | (simp [*]; done)), H', ⟨Nat.le_refl _⟩, ⟨by (with_reducible repeat (first | apply Kd.R_alloc | apply Kd.R_drewN | apply Kd.R_drew)); exact HO290.out⟩, ⟨by repeat (first | (with_reducible first | exact HB.out | apply below_alloc | apply pw_below_drewN | apply below_drew1) | exact HB.out)⟩⟩
    case round =>
      clear H'
      try clear c1
      try clear p2
      try clear c3
      try clear c4
      obtain ⟨x4_1, x13_1, rfl, HA, HK1, HO_4, HB⟩ := hrel
      cases gk with
      | zero => exact absurd HA.out (by simp [impl_ConflictsOf.l0])
      | succ k1 =>
        have H := HA.out
        clear HA
        simp only [impl_ConflictsOf.l0] at H
        by_cases c6 : x13_1 < (l0.length : Int)
        · rw [if_pos c6] at H
          have c6b0 : decide (x13_1 < (l0.length : Int)) = true := decide_eq_true c6
          clear c6
          have H' := Aside0.mk H
          clear H
          go_wp2
          go_loopg [4, 6] k1 (fun kq v4 v6 w' => ∃ (x4_2 : List (S41)) (x6_2 : Int), v6 = .int .i64 x6_2 ∧ Aside0 (impl_ConflictsOf.l1 kq l0 x4_2 x13_1 x6_2 (l0.length : Int) x13_1 = some (r1, r2)) ∧ Aside0 (kq ≤ k1) ∧ Aside0 (Kd.R k41 41 w' w.heap.size (fun _ => True) v4 x4_2) ∧ Aside0 (Below w.heap.size w w'))
          case atStart => exact ⟨(x4_1), (wrap64 (x13_1 + 1)), (by first | rfl | (simp; done) | (simp [*]; done)), H', ⟨Nat.le_refl _⟩, ⟨by (with_reducible repeat (first | apply Kd.R_alloc | apply Kd.R_drewN | apply Kd.R_drew)); exact HO_4.out⟩, ⟨by repeat (first | (with_reducible first | exact HB.out | apply below_alloc | apply pw_below_drewN | apply below_drew1) | exact HB.out)⟩⟩
          case round =>
            clear H'
            try clear c1
            try clear p2
            try clear c3
            try clear c4
            try clear c6
            try clear c6b0
            try clear p6
            try clear p2
            obtain ⟨x4_2, x6_2, rfl, HA, HK2, HO_4, HB⟩ := hrel
            cases gk with
            | zero => exact absurd HA.out (by simp [impl_ConflictsOf.l1])
            | succ k2 =>
              have H := HA.out
              clear HA
              simp only [impl_ConflictsOf.l1] at H
              by_cases c7 : x6_2 < (l0.length : Int)
              · rw [if_pos c7] at H
                have c7b0 : decide (x6_2 < (l0.length : Int)) = true := decide_eq_true c7
                clear c7
                replace H := Option.bind_eq_some_iff.mp H
                obtain ⟨t291, A80, H⟩ := H
                replace H : (if t291 = true then (if x4_2.length < 8796093022208 then (impl_ConflictsOf.l1 k2 l0 (x4_2 ++ [(⟨x13_1, x6_2⟩ : S41)]) x13_1 (wrap64 (x6_2 + 1)) (l0.length : Int) x13_1) else (none)) else (impl_ConflictsOf.l1 k2 l0 x4_2 x13_1 (wrap64 (x6_2 + 1)) (l0.length : Int) x13_1)) = some (r1, r2) := H
                have A8 := Aside0.mk A80
                clear A80
                by_cases c9 : t291 = true
                · subst c9
                  have H1 : (if x4_2.length < 8796093022208 then (impl_ConflictsOf.l1 k2 l0 (x4_2 ++ [(⟨x13_1, x6_2⟩ : S41)]) x13_1 (wrap64 (x6_2 + 1)) (l0.length : Int) x13_1) else (none)) = some (r1, r2) := by rw [if_pos rfl] at H; exact H
                  clear H
                  have H := H1
                  clear H1
                  by_cases c10 : x4_2.length < 8796093022208
                  · rw [if_pos c10] at H
                    have LMc10 := Aside0.mk c10
                    clear c10
                    obtain ⟨y292, hy292⟩ : ∃ y_ : List (S41), y_ = (x4_2 ++ [(⟨x13_1, x6_2⟩ : S41)]) := ⟨_, rfl⟩
                    replace H : (impl_ConflictsOf.l1 k2 l0 y292 x13_1 (wrap64 (x6_2 + 1)) (l0.length : Int) x13_1) = some (r1, r2) := by first | (rw [hy292]; with_reducible exact H) | (have H2_ := (Option.bind_some _ _).symm.trans H; rw [hy292]; with_reducible exact H2_) | (have H2_ := (Option.bind_some _ _).symm.trans H; with_reducible exact H2_) | with_reducible exact H | (rw [hy292]; exact H) | exact H
                    have Ny292 := Aside0.mk hy292
                    clear hy292
                    have H' := Aside0.mk H
                    clear H
                    go_wp2_with (first | ((with_reducible refine gate_callee (f := 46) rfl ?_); refine goesL_ (some 27) rfl rfl Try.func46 (by kernel_rfl) rfl #[.slice A0 l0.length c0, .int .i64 x13_1, .int .i64 x6_2] rfl (by (try simp only [List.map_toArray, List.map_cons, List.map_nil]); first | done | rfl | (simp only [List.length_drop, List.length_take]; rfl)) ?_; (with_reducible refine (impl_isConflict.calls k2 _ _ l0 x13_1 x6_2 true _ ?side1 ?side2 A8.out).mono ?_); (case side1 => repeat (first | exact (Kd.C_below HR0.out HB.out) | (with_reducible refine Kd.C_alloc ?_ _) | (with_reducible refine Kd.C_drewN ?_ _) | (with_reducible refine Kd.C_drew ?_))); (case side2 => exact HC0.out); rintro e w11 ⟨rfl, hb⟩; refine ⟨_, rfl, ?_⟩; have n0_ := Aside0.mk (Kd.R_below (by (with_reducible repeat (first | apply Kd.R_alloc | apply Kd.R_drewN | apply Kd.R_drew)); exact HO_4.out) hb); have n1_ := Aside0.mk (below_step (by repeat (first | (with_reducible first | exact HB.out | apply below_alloc | apply pw_below_drewN | apply below_drew1) | exact HB.out)) hb); clear HO_4; clear HB; have HO_4 := n0_; have HB := n1_; clear n0_ n1_; (try clear hb); (try clear hb2); (try clear hk); (try clear hi)) | ((with_reducible refine gate_builtin (b := .append) (xs := #[.tmp 28, .tmp 32]) rfl ?_); at_builtin; refine Kd.R_append k41 (w0 := w) w.heap.size rfl (.tmp 28) (.tmp 32) 36 41 (.agg #[(.int .i64 0), (.int .i64 0)]) 16 rfl Try.underlying36 info41 rfl (by decide) (by omega) u4 x4_2 (⟨x13_1, x6_2⟩ : S41) [.int .i64 x13_1, .int .i64 x6_2] (fun _ => True) (fun _ => False) rfl rfl ?aP (fun _ hk => hk.elim) ?aF ?aO ?aB ?aS ?aL ?_; (case aP => exact k41_mkM _ _ _ (⟨x13_1, x6_2⟩ : S41)); (case aB => exact (by repeat (first | (with_reducible first | exact HB.out | apply below_alloc | apply pw_below_drewN | apply below_drew1) | exact HB.out))); (case aF => exact (fun _ _ => trivial)); (case aO => exact (by (with_reducible repeat (first | apply Kd.R_alloc | apply Kd.R_drewN | apply Kd.R_drew)); exact HO_4.out)); (case aS => exact (below_size (by repeat (first | (with_reducible first | exact HB.out | apply below_alloc | apply pw_below_drewN | apply below_drew1) | exact HB.out)))); (case aL => have := LMc10.out; omega); intro v293 w12 ho hb hg hat; rw [← Ny292.out] at ho; have n0_ := Aside0.mk (hb); have n1_ := Aside0.mk (ho); clear HB; clear HO_4; have HB := n0_; have HO294 := n1_; clear n0_ n1_; clear ho hb hg hat))
                    go_roundg k2
                    case measure => have := HK1.out; have := HK2.out; omega
                    case rel => exact ⟨(y292), (wrap64 (x6_2 + 1)), (by first | rfl | (simp; done) | (simp [*]; done)), H', ⟨by have := HK1.out; have := HK2.out; omega⟩, ⟨by (with_reducible repeat (first | apply Kd.R_alloc | apply Kd.R_drewN | apply Kd.R_drew)); exact HO294.out⟩, ⟨by repeat (first | (with_reducible first | exact HB.out | apply below_alloc | apply pw_below_drewN | apply below_drew1) | exact HB.out)⟩⟩
                  · rw [if_neg c10] at H
                    exact absurd H (by simp)
                · replace c9 := Bool.eq_false_iff.mpr c9
                  subst c9
                  have H1 : (impl_ConflictsOf.l1 k2 l0 x4_2 x13_1 (wrap64 (x6_2 + 1)) (l0.length : Int) x13_1) = some (r1, r2) := by rw [if_neg (show ¬ (false = true) by decide)] at H; exact H
                  clear H
                  have H := H1
                  clear H1
                  have H' := Aside0.mk H
                  clear H
                  go_wp2_with (first | ((with_reducible refine gate_callee (f := 46) rfl ?_); refine goesL_ (some 27) rfl rfl Try.func46 (by kernel_rfl) rfl #[.slice A0 l0.length c0, .int .i64 x13_1, .int .i64 x6_2] rfl (by (try simp only [List.map_toArray, List.map_cons, List.map_nil]); first | done | rfl | (simp only [List.length_drop, List.length_take]; rfl)) ?_; (with_reducible refine (impl_isConflict.calls k2 _ _ l0 x13_1 x6_2 false _ ?side1 ?side2 A8.out).mono ?_); (case side1 => repeat (first | exact (Kd.C_below HR0.out HB.out) | (with_reducible refine Kd.C_alloc ?_ _) | (with_reducible refine Kd.C_drewN ?_ _) | (with_reducible refine Kd.C_drew ?_))); (case side2 => exact HC0.out); rintro e w13 ⟨rfl, hb⟩; refine ⟨_, rfl, ?_⟩; have n0_ := Aside0.mk (Kd.R_below (by (with_reducible repeat (first | apply Kd.R_alloc | apply Kd.R_drewN | apply Kd.R_drew)); exact HO_4.out) hb); have n1_ := Aside0.mk (below_step (by repeat (first | (with_reducible first | exact HB.out | apply below_alloc | apply pw_below_drewN | apply below_drew1) | exact HB.out)) hb); clear HO_4; clear HB; have HO_4 := n0_; have HB := n1_; clear n0_ n1_; (try clear hb); (try clear hb2); (try clear hk); (try clear hi)))
                  go_roundg k2
                  case measure => have := HK1.out; have := HK2.out; omega
                  case rel => exact ⟨(x4_2), (wrap64 (x6_2 + 1)), (by first | rfl | (simp; done) | (simp [*]; done)), H', ⟨by have := HK1.out; have := HK2.out; omega⟩, ⟨by (with_reducible repeat (first | apply Kd.R_alloc | apply Kd.R_drewN | apply Kd.R_drew)); exact HO_4.out⟩, ⟨by repeat (first | (with_reducible first | exact HB.out | apply below_alloc | apply pw_below_drewN | apply below_drew1) | exact HB.out)⟩⟩
              · rw [if_neg c7] at H
                have c7b0 : decide (x6_2 < (l0.length : Int)) = false := decide_eq_false c7
                clear c7
                have H' := Aside0.mk H
                clear H
                go_wp2
                go_roundg k2
                case measure => have := HK1.out; have := HK2.out; omega
                case rel => exact ⟨(x4_2), (wrap64 (x13_1 + 1)), (by first | rfl | (simp; done) | (simp [*]; done)), H', ⟨by have := HK1.out; have := HK2.out; omega⟩, ⟨by (with_reducible repeat (first | apply Kd.R_alloc | apply Kd.R_drewN | apply Kd.R_drew)); exact HO_4.out⟩, ⟨by repeat (first | (with_reducible first | exact HB.out | apply below_alloc | apply pw_below_drewN | apply below_drew1) | exact HB.out)⟩⟩
        · rw [if_neg c6] at H
          have c6b0 : decide (x13_1 < (l0.length : Int)) = false := decide_eq_false c6
          clear c6
          simp only [Option.some.injEq, Prod.mk.injEq] at H
          obtain ⟨rfl, rfl⟩ := H
          go_wp2
          go_ret2
          exact ⟨_, by first | rfl | (simp [errW_none, errW_some] <;> rfl) | (simp [*, errW_none, errW_some] <;> rfl), by (with_reducible repeat (first | apply Kd.R_alloc | apply Kd.R_drewN | apply Kd.R_drew)); exact HO_4.out, by repeat (first | (with_reducible first | exact HB.out | apply below_alloc | apply pw_below_drewN | apply below_drew1) | exact HB.out)⟩
  · replace c3 := Bool.eq_false_iff.mpr c3
    subst c3
    have H1 : (some (([] : List (S41)), false)) = some (r1, r2) := by rw [if_neg (show ¬ (false = true) by decide)] at H; exact H
    clear H
    have H := H1
    clear H1
    simp only [Option.some.injEq, Prod.mk.injEq] at H
    obtain ⟨rfl, rfl⟩ := H
    go_enter Try.func15, Try.ntmps15
    go_wp2_with (first | ((with_reducible refine gate_callee (f := 45) rfl ?_); refine goesL_ (some 8) rfl rfl Try.func45 (by kernel_rfl) rfl #[.slice A0 l0.length c0] rfl (by (try simp only [List.map_toArray, List.map_cons, List.map_nil]); first | done | rfl | (simp only [List.length_drop, List.length_take]; rfl)) ?_; (with_reducible refine (impl_isOrder.calls k _ _ l0 false _ ?side1 ?side2 A2.out).mono ?_); (case side1 => repeat (first | exact HR0.out | (with_reducible refine Kd.C_alloc ?_ _) | (with_reducible refine Kd.C_drewN ?_ _) | (with_reducible refine Kd.C_drew ?_))); (case side2 => exact HC0.out); rintro e w' ⟨rfl, ⟨nd, rfl⟩⟩; refine ⟨_, rfl, ?_⟩))
    go_ret2
    exact ⟨_, by first | rfl | (simp [errW_none, errW_some] <;> rfl) | (simp [*, errW_none, errW_some] <;> rfl), by first | exact Kd.R_nil _ _ _ _ _ | exact Kd.N_nil _ _ _ _ _ | exact Kd.V_nil _ _ _ _ _ | exact Kd.Q_nil _ _ _ _ _ | exact Kd.S_nil _ _ _ _ _, by repeat (first | (with_reducible first | exact HB.out | apply below_alloc | apply pw_below_drewN | apply below_drew1) | exact HB.out)⟩
end Go.Proofs.Ytmgekfoiamjijaa.PFnConflicts
