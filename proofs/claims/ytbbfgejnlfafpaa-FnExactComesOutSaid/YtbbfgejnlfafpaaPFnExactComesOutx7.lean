-- laid by mkprint.py, a program of this claim's writer, over the kit's print program; parts of it are typed by hand
import Derived.Test.YtbbfgejnlfafpaaPFnExactComesOutx0
import Derived.Test.YtbbfgejnlfafpaaPFnExactComesOutx5
import Derived.Test.YtbbfgejnlfafpaaPFnExactComesOutx6
namespace Go.Proofs.Ytbbfgejnlfafpaa.PFnExactComesOut
open Go.RowKit Go.Proofs.YtbbfgejnlfafpaaW.PrintWords Go.Proofs.YtbbfgejnlfafpaaW.PrintLast Go.Proofs.YtbbfgejnlfafpaaW.PrintMore
attribute [local go_sem] max2_int min2_int max_two min_two max_three min_three max_four min_four   -- for this text's walks alone
set_option linter.unusedVariables false
set_option linter.unusedSimpArgs false

/-! ### impl_ComesOut: function 28 -/
def impl_ComesOut.f (k : Nat) (l0 l1 : List Int) : Option (List Int × Bool) := (impl_isSharing.f k l0 l1).bind fun t => if t = true then (impl_play.f k l0 l1).bind fun q => some (q.x 4, true) else some ([], false)
theorem impl_ComesOut.mono : ∀ a0 a1 k, LeO (impl_ComesOut.f k a0 a1) (impl_ComesOut.f (k + 1) a0 a1) := fun _ _ _ => LeO.bind (impl_isSharing.mono _ _ _) (fun _ => LeO.ite (LeO.bind (impl_play.mono _ _ _) (fun _ => LeO.refl _)) (LeO.refl _))
set_option maxHeartbeats 8000000 in
set_option maxRecDepth 100000 in
theorem impl_ComesOut.calls (k : Nat) (A0 : Option Addr) (c0 : Nat) (l0 : List Int) (A1 : Option Addr) (c1 : Nat) (l1 : List Int) (r1 : List Int) (r2 : Bool) (w : World) (hr0 : Kd.C (Kd.int .i64) w A0 l0.length l0) (hc0 : l0.length ≤ c0) (hr1 : Kd.C (Kd.int .i64) w A1 l1.length l1) (hc1 : l1.length ≤ c1) (h : impl_ComesOut.f k l0 l1 = some (r1, r2)) :
    Calls Try.prog 28 #[.slice A0 l0.length c0, .slice A1 l1.length c1] w fun e w' => ∃ v0_ : Value, e = .returned (.tuple #[v0_, .bool r2]) ∧ Kd.R (Kd.int .i64) 3 w' w.heap.size (fun _ => True) v0_ r1 ∧ Below w.heap.size w w' := by
  have HR0 := Aside0.mk hr0
  have HR1 := Aside0.mk hr1
  have HC0 := Aside0.mk hc0
  have HC1 := Aside0.mk hc1
  have HB := Aside0.mk (Below.refl w.heap.size w)
  unfold impl_ComesOut.f at h
  obtain ⟨t, h1, H⟩ := Option.bind_eq_some_iff.1 h
  have A2 := Aside0.mk h1
  clear hr0 hr1 hc0 hc1 h h1
  cases t with
  | false =>
    rw [if_neg (by simp)] at H
    obtain ⟨rfl, rfl⟩ := Prod.mk.inj (Option.some.inj H)
    clear H
    go_enter Try.func28, Try.ntmps28
    (repeat ((fail_if_success (with_reducible refine gate_dst (N := 8) rfl ?_)); first | go_values | go_skip | go_guarded | go_step | go_upon))
    refine goesL_ (some 8) rfl rfl Try.func46 (by kernel_rfl) rfl #[.slice A0 l0.length c0, .slice A1 l1.length c1] rfl (by (try simp only [List.map_toArray, List.map_cons, List.map_nil]); first | done | rfl) ?_
    refine (impl_isSharing.calls k A0 c0 l0 A1 c1 l1 _ w (Kd.C_below HR0.out HB.out) HC0.out (Kd.C_below HR1.out HB.out) HC1.out A2.out).mono ?_
    rintro e wS ⟨rfl, hdr⟩
    refine ⟨_, rfl, ?_⟩
    have nb_ := Aside0.mk (below_step HB.out hdr.below)
    clear HB hdr
    have HB := nb_
    clear nb_
    go_wp2
    go_ret2
    exact ⟨_, rfl, Kd.R_nil _ _ _ _ _, HB.out⟩
  | true =>
    rw [if_pos rfl] at H
    obtain ⟨q, h1, H⟩ := Option.bind_eq_some_iff.1 H
    have A3 := Aside0.mk h1
    clear h1
    obtain ⟨rfl, rfl⟩ := Prod.mk.inj (Option.some.inj H)
    clear H
    go_enter Try.func28, Try.ntmps28
    (repeat ((fail_if_success (with_reducible refine gate_dst (N := 8) rfl ?_)); first | go_values | go_skip | go_guarded | go_step | go_upon))
    refine goesL_ (some 8) rfl rfl Try.func46 (by kernel_rfl) rfl #[.slice A0 l0.length c0, .slice A1 l1.length c1] rfl (by (try simp only [List.map_toArray, List.map_cons, List.map_nil]); first | done | rfl) ?_
    refine (impl_isSharing.calls k A0 c0 l0 A1 c1 l1 _ w (Kd.C_below HR0.out HB.out) HC0.out (Kd.C_below HR1.out HB.out) HC1.out A2.out).mono ?_
    rintro e wS ⟨rfl, hdr⟩
    refine ⟨_, rfl, ?_⟩
    have nb_ := Aside0.mk (below_step HB.out hdr.below)
    clear HB hdr
    have HB := nb_
    clear nb_
    (repeat ((fail_if_success (with_reducible refine gate_dst (N := 12) rfl ?_)); first | go_values | go_skip | go_guarded | go_step | go_upon))
    refine goesL_ (some 12) rfl rfl Try.func49 (by kernel_rfl) rfl #[.slice A0 l0.length c0, .slice A1 l1.length c1] rfl (by (try simp only [List.map_toArray, List.map_cons, List.map_nil]); first | done | rfl) ?_
    refine (impl_play.calls k A0 c0 l0 A1 c1 l1 q wS (Kd.C_below HR0.out HB.out) HC0.out (Kd.C_below HR1.out HB.out) HC1.out A3.out).mono ?_
    rintro e wP ⟨vm, vo, rfl, hm_, ho_, hb_⟩
    refine ⟨_, rfl, ?_⟩
    unfold six
    have HO_ := Aside0.mk (Kd.R_lower ho_ HB.out.size)
    have nb_ := Aside0.mk (below_step HB.out hb_)
    have HM_ := Aside0.mk hm_
    clear HB ho_ hb_ hm_
    have HB := nb_
    clear nb_
    have hfd := fun w' : World => run_field_one (P := Try.prog) (w := w') 59 _ 1 _ (#[vm, vo, .int .i64 (q.d 0), .int .i64 (q.d 1), .int .i64 (q.d 2), .int .i64 (q.d 3)]) _ _ Try.underlying59 rfl Try.underlying22 rfl rfl
    go_wp2
    go_ret2
    exact ⟨_, rfl, HO_.out, HB.out⟩


end Go.Proofs.Ytbbfgejnlfafpaa.PFnExactComesOut
