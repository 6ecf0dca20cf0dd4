-- laid by mkprint.py, a program of this claim's writer, over the kit's print program; parts of it are typed by hand
import Derived.Test.YtgdjnaojcpoigaaPFnExactOnlyByEndsx0
import Derived.Test.YtgdjnaojcpoigaaPFnExactOnlyByEndsx7
import Derived.Test.YtgdjnaojcpoigaaPFnExactOnlyByEndsx8
namespace Go.Proofs.Ytgdjnaojcpoigaa.PFnExactOnlyByEnds
open Go.RowKit Go.Proofs.YtgdjnaojcpoigaaW.PrintWords Go.Proofs.YtgdjnaojcpoigaaW.PrintLast Go.Proofs.YtgdjnaojcpoigaaW.PrintMore
attribute [local go_sem] max2_int min2_int max_two min_two max_three min_three max_four min_four   -- for this text's walks alone
set_option linter.unusedVariables false
set_option linter.unusedSimpArgs false

/-! ### impl_endsOutputs_1: function 66 -/
def impl_endsOutputs_1.f (k : Nat) (l0 : List Int) (l1 : List Int) : Option (Bool) := (impl_endsTo.f k l1 l0).bind fun bt299 => (some (!bt299.2))
theorem impl_endsOutputs_1.mono : ∀ a0 a1 k, LeO (impl_endsOutputs_1.f k a0 a1) (impl_endsOutputs_1.f (k + 1) a0 a1) := by
  intro a0 a1 k
  unfold impl_endsOutputs_1.f
  repeat' first
      | (with_reducible exact impl_endsTo.mono _ _ _)
      | (with_reducible exact LeO.refl _)
      | (with_reducible exact LeO.none _)
      | (with_reducible refine LeO.ite ?_ ?_)
      | (with_reducible refine LeO.bind ?_ (fun _ => ?_))
      | exact impl_endsTo.mono _ _ _
      | exact LeO.none _
      | refine LeO.ite ?_ ?_
      | refine LeO.bind ?_ (fun _ => ?_)
set_option maxHeartbeats 8000000 in
set_option maxRecDepth 100000 in
theorem impl_endsOutputs_1.calls (b0_ : Nat) (k : Nat) (A0 : Option Addr) (c0 : Nat) (l0 : List Int) (A1 : Option Addr) (c1 : Nat) (l1 : List Int) (r : Bool) (w : World) (hcap0_ : w.cell? ⟨b0_, 0, none⟩ = some (.slice A1 l1.length c1)) (hr0 : Kd.C (Kd.int .i64) w A0 l0.length l0) (hc0 : l0.length ≤ c0) (hr1 : Kd.C (Kd.int .i64) w A1 l1.length l1) (hc1 : l1.length ≤ c1) (h : impl_endsOutputs_1.f k l0 l1 = some r) :
    Calls Try.prog 66 #[.slice A0 l0.length c0, .pointer (some ⟨b0_, 0, none⟩)] w fun e w' => e = .returned (.bool r) ∧ Below w.heap.size w w' := by
  have HR0 := Aside0.mk hr0
  have HC0 := Aside0.mk hc0
  clear hr0 hc0
  have HR1 := Aside0.mk hr1
  have HC1 := Aside0.mk hc1
  clear hr1 hc1
  have HB := Aside0.mk (Below.refl w.heap.size w)
  have H : ((impl_endsTo.f k l1 l0).bind fun bt299 => (some (!bt299.2))) = some r := h
  clear h
  replace H := Option.bind_eq_some_iff.mp H
  obtain ⟨⟨t299, t300⟩, A30, H⟩ := H
  replace H : (some (!t300)) = some r := H
  have A3 := Aside0.mk A30
  clear A30
  obtain rfl := Option.some.inj H
  go_enter Try.func66, Try.ntmps66
  go_wp2_with (first | ((with_reducible refine gate_callee (f := 67) rfl ?_); refine goesL_ (some 9) rfl rfl Try.func67 (by kernel_rfl) rfl #[.slice A1 l1.length c1, .slice A0 l0.length c0] rfl (by (try simp only [List.map_toArray, List.map_cons, List.map_nil]); first | done | rfl | (simp only [List.length_drop, List.length_take]; rfl)) ?_; (with_reducible refine (impl_endsTo.calls k (fun k_ => k_ < w.heap.size) _ _ l1 _ _ l0 t299 t300 _ ?side1 ?side2 ?side3 A3.out).mono ?_); (case side1 => exact Kd.V_mk HC1.out (Kd.F_below (Kd.C_F (Kd.heap_int .i64) HR1.out) (by repeat (first | (with_reducible first | exact HB.out | apply below_alloc | apply pw_below_drewN | apply below_drew1) | exact HB.out)))); (case side2 => repeat (first | exact HR0.out | (with_reducible refine Kd.C_alloc ?_ _) | (with_reducible refine Kd.C_drewN ?_ _) | (with_reducible refine Kd.C_drew ?_))); (case side3 => exact HC0.out); rintro e w4 ⟨rfl, hb⟩; refine ⟨_, rfl, ?_⟩; have n0_ := Aside0.mk (below_step (by repeat (first | (with_reducible first | exact HB.out | apply below_alloc | apply pw_below_drewN | apply below_drew1) | exact HB.out)) hb); clear HB; have HB := n0_; clear n0_; (try have hk0_ := (HB.out.cell (p := ⟨b0_, 0, none⟩) (World.block_lt_of_cell? w _ hcap0_)).trans hcap0_); (try clear hb); (try clear hb2); (try clear hk); (try clear hi)))
  go_ret
  exact ⟨by first | rfl | (simp [errW_none, errW_some] <;> rfl) | (simp [*, errW_none, errW_some] <;> rfl), by repeat (first | (with_reducible first | exact HB.out | apply below_alloc | apply pw_below_drewN | apply below_drew1) | exact HB.out)⟩

/-! ### impl_endsOutputs: function 41 -/
def impl_endsOutputs.f (k : Nat) (l0 : List Int) : Option (List (List Int)) := (impl_allOrders.f k (l0.length : Int)).bind fun os => slices_DeleteFunc_int_int.f (fun k x => impl_endsOutputs_1.f k x l0) k os
theorem impl_endsOutputs.mono : ∀ a0 k, LeO (impl_endsOutputs.f k a0) (impl_endsOutputs.f (k + 1) a0) := fun a0 k => LeO.bind (impl_allOrders.mono _ _) (fun os => slices_DeleteFunc_int_int.mono _ (fun x k => impl_endsOutputs_1.mono x a0 k) os k)
set_option maxHeartbeats 8000000 in
set_option maxRecDepth 100000 in
theorem impl_endsOutputs.calls (k : Nat) (A0 : Option Addr) (c0 : Nat) (l0 : List Int) (r : List (List Int)) (w : World) (hr0 : Kd.C (Kd.int .i64) w A0 l0.length l0) (hc0 : l0.length ≤ c0) (h : impl_endsOutputs.f k l0 = some r) :
    Calls Try.prog 41 #[.slice A0 l0.length c0] w fun e w' => ∃ v0_ : Value, e = .returned (v0_) ∧ Kd.S (Kd.slice 3 (Kd.int .i64)) 22 w' w.heap.size (fun _ => True) v0_ r ∧ Below w.heap.size w w' := by
  have HR0 := Aside0.mk hr0
  have HC0 := Aside0.mk hc0
  clear hr0 hc0
  have HB := Aside0.mk (Below.refl w.heap.size w)
  obtain ⟨os, h1, h2⟩ := Option.bind_eq_some_iff.1 h
  have A1 := Aside0.mk h1
  have A2 := Aside0.mk h2
  clear h h1 h2
  go_enter Try.func41, Try.ntmps41
  (repeat ((fail_if_success (with_reducible refine gate_dst (N := 1) rfl ?_)); first | go_values | go_skip | go_guarded | go_step | go_upon))
  refine box_event ?hg (N := 1) ?hd (cs := #[.slice A0 l0.length c0]) (t := 22) ?hr ?_
  case hd => rfl
  case hg => rfl
  case hr => first | (go_simp; done) | (go_simp; rfl)
  intro g1 hg w1 hbox hb
  have n0_ := Aside0.mk (below_step HB.out hb)
  have BX := Aside0.mk hbox
  clear HB hg hb hbox
  have HB := n0_
  clear n0_
  have ec : w1.cell? ⟨g1, 0, none⟩ = some (.slice A0 l0.length c0) := (blk_cell BX.out 0).trans rfl
  (repeat ((fail_if_success (with_reducible refine gate_dst (N := 5) rfl ?_)); first | go_values | go_skip | go_guarded | go_step | go_upon))
  refine goesL_ (some 5) rfl rfl Try.func65 (by kernel_rfl) rfl #[.int .i64 (l0.length : Int)] rfl (by (try simp only [List.map_toArray, List.map_cons, List.map_nil]); first | done | rfl) ?_
  refine (impl_allOrders.calls k (l0.length : Int) os _ A1.out).mono ?_
  rintro e w8 ⟨v8, rfl, ho, hb⟩
  refine ⟨_, rfl, ?_⟩
  have HS := Aside0.mk (Kd.S_mono (ok' := fun q_ => w1.heap.size ≤ q_) (Kd.S_bound ho) (fun _ h_ => h_.2.1))
  have HB8 := Aside0.mk hb
  clear ho hb ec
  (repeat ((fail_if_success (with_reducible refine gate_dst (N := 7) rfl ?_)); first | go_values | go_skip | go_guarded | go_step | go_upon))
  refine goesL_ (some 7) rfl rfl Try.func64 (by kernel_rfl) rfl #[v8, .func (.func 66) #[] #[.pointer (some ⟨g1, 0, none⟩)]] rfl (by (try simp only [List.map_toArray, List.map_cons, List.map_nil]); first | done | rfl) ?_
  refine (slices_DeleteFunc_int_int.calls 66 #[.pointer (some ⟨g1, 0, none⟩)] (fun k x => impl_endsOutputs_1.f k x l0) (enters_of Try.func66 (by kernel_rfl) rfl) k (fun q_ => w1.heap.size ≤ q_) v8 os r w1 w8 HB8.out HS.out ?hof A2.out).mono ?_
  case hof =>
    intro A_ c_ x_ r_ W_ hK_ hC_ hl_ h_
    have hg1 := blk_lt BX.out
    refine impl_endsOutputs_1.calls g1 k A_ c_ x_ A0 c0 l0 r_ W_ ((blk_cell (blk_kept (blk_below BX.out HB8.out) hK_ (by omega)) 0).trans rfl) hC_ hl_ ?_ HC0.out h_
    exact (Kd.heap_int _).C (fun q hq => (hK_.2 q (by have := HB.out.size; have := HB8.out.size; omega) (by have := HB.out.size; omega)).trans ((HB8.out.block q (by have := HB.out.size; omega)).trans (HB.out.block q hq))) HR0.out
  rintro e w9 ⟨v9, rfl, ho9, hb9, hk9⟩
  refine ⟨_, rfl, ?_⟩
  have HS9 := Aside0.mk (Kd.S_mono (ok' := fun _ => True) (Kd.S_lower ho9 HB.out.size) (fun _ _ => trivial))
  have n0_ := Aside0.mk (below_step HB.out hb9)
  clear HB BX HS HB8 ho9 hb9 hk9
  have HB := n0_
  clear n0_
  go_wp2
  go_ret
  exact ⟨_, rfl, HS9.out, HB.out⟩


end Go.Proofs.Ytgdjnaojcpoigaa.PFnExactOnlyByEnds
