-- laid by mkprint.py, a program of this claim's writer, over the kit's print program; parts of it are typed by hand
import Derived.Test.YtbnieikbjmfhgaaPFnFallsx0
import Derived.Test.YtbnieikbjmfhgaaPFnFallsx1
import Derived.Test.YtbnieikbjmfhgaaPFnFallsx2
import Derived.Test.YtbnieikbjmfhgaaPFnFallsx6
import Derived.Test.YtbnieikbjmfhgaaPFnFallsx7
import Derived.Test.YtbnieikbjmfhgaaPFnFallsx8
namespace Go.Proofs.Ytbnieikbjmfhgaa.PFnFalls
open Go.RowKit Go.Proofs.YtbnieikbjmfhgaaW.PrintWords Go.Proofs.YtbnieikbjmfhgaaW.PrintLast Go.Proofs.YtbnieikbjmfhgaaW.PrintMore
attribute [local go_sem] max2_int min2_int max_two min_two max_three min_three max_four min_four
set_option linter.unusedVariables false
set_option linter.unusedSimpArgs false
def spec_DrawIsLayered.f (k : Nat) (l0 : List Int) : Option (List Int) := (spec_l1Cur_order.f l0 0 0).bind fun tl1 => (spec_l1Cur_cuts.f k l0 tl1.2.1 tl1.2.2 ((tl1.1.length : Int))).bind fun tl5 => (spec_l2Order.f k tl1.1).bind fun tb9 => (if tb9 = true then (spec_l6Cuts.f k ((tl1.1.length : Int)) tl5.1).bind fun tb11 => (if tb11 = true then (spec_l1Cur_one.f l0 tl5.2.1 tl5.2.2 2).bind fun tb13 => (if tb13.1 = true then (spec_l2Sorted.f k ((tl1.1.length : Int))).bind fun tl17 => (spec_l6Run.f k tl17 tl5.1).bind fun tl19 => some (tl19) else some (tl1.1)) else some (tl1.1)) else some (tl1.1))
theorem spec_DrawIsLayered.mono : ∀ a0 k, LeO (spec_DrawIsLayered.f k a0) (spec_DrawIsLayered.f (k + 1) a0) := by
 intro a0 k
 unfold spec_DrawIsLayered.f
 repeat' with_reducible first | exact spec_l1Cur_cuts.mono _ _ _ _ _ | exact spec_l2Order.mono _ _ | exact spec_l2Sorted.mono _ _ | exact spec_l6Cuts.mono _ _ _ | exact spec_l6Run.mono _ _ _ | exact LeO.refl _ | exact LeO.none _ | refine LeO.ite ?_ ?_ | refine LeO.bind ?_ (fun _ => ?_)
set_option maxHeartbeats 8000000 in
set_option maxRecDepth 100000 in
theorem spec_DrawIsLayered.calls (k : Nat) (A0 : Option Addr) (c0 : Nat) (l0 : List Int) (r : List Int) (w0 : World) (hr0 : Kd.C (Kd.int .u8) w0 A0 l0.length l0) (hc0 : l0.length ≤ c0) (h : spec_DrawIsLayered.f k l0 = some r) :
  Calls Try.prog 32 #[.slice A0 l0.length c0] w0 fun e w' => ∃ v0_ : Value, e = .returned (v0_) ∧ Kd.R (Kd.int .i64) 3 w' w0.heap.size (fun _ => True) v0_ r ∧ Below w0.heap.size w0 w' := by
 have HB := Aside0.mk (Below.refl w0.heap.size w0)
 have HR0 := Aside0.mk hr0
 have HC0 := Aside0.mk hc0
 have H := Aside0.mk h
 clear hr0 hc0 h
 unfold spec_DrawIsLayered.f at H
 go_enter Try.func32, Try.ntmps32
 (repeat ((fail_if_success (with_reducible refine gate_dst (N := 8) rfl ?_)); first | go_values | go_skip | go_guarded | go_step | go_upon))
 refine box_event ?hg (N := 8) ?hd (cs := #[.slice A0 l0.length c0, .int .i64 0, .int .u64 0]) (t := 59) ?hr ?_
 case hd => rfl
 case hg => rfl
 case hr => first | (go_simp; done) | (go_simp; rfl)
 intro g hg w1 hbox hb
 have HI := Aside0.mk (show IsS59 w0 w1 g l0 0 0 from ⟨A0, c0, hbox, by rw [hg]; exact below_size HB.out, HR0.out⟩)
 have nb_ := Aside0.mk (below_step HB.out hb)
 clear HB hg hb hbox
 have HB := nb_
 clear nb_
 have h0_ := H.out
 clear H
 obtain ⟨⟨l1, p2, q3⟩, h_, h⟩ := Option.bind_eq_some_iff.1 h0_
 have H4 := Aside0.mk h_
 clear h_ h0_
 (try dsimp only at h)
 have H := Aside0.mk h
 clear h
 (repeat ((fail_if_success (with_reducible refine gate_dst (N := 10) rfl ?_)); first | go_values | go_skip | go_guarded | go_step | go_upon))
 refine goesL_ (some 10) rfl rfl Try.func51 (by kernel_rfl) rfl #[.pointer (some ⟨g, 0, none⟩)] rfl (by (try simp only [List.map_toArray, List.map_cons, List.map_nil]); first | done | rfl) ?_
 refine (spec_l1Cur_order.calls g l0 0 0 l1 p2 q3 w0 _ HI.out HB.out H4.out).mono ?_
 rintro e w2 ⟨v0_, rfl, ho0, hi, hb, hk⟩
 refine ⟨_, rfl, ?_⟩
 obtain ⟨AO, cO, e_O⟩ := Kd.R_slice ho0
 subst e_O
 have nnO_ := Aside0.mk (Kd.R_lower (Kd.R_mono (ok' := fun k_ => k_ ≠ g) (Kd.R_bound ho0) (fun k_ h_ => by have h1_ := HI.out.lt; have h2_ := h_.2.1; exact fun h3_ => by omega)) HB.out.size)
 clear ho0
 clear HI HB hk
 have HI := Aside0.mk hi
 have HB := Aside0.mk hb
 clear hi hb
 have O := nnO_
 clear nnO_
 have h0_ := H.out
 clear H
 obtain ⟨⟨l5, p6, q7⟩, h_, h⟩ := Option.bind_eq_some_iff.1 h0_
 have H8 := Aside0.mk h_
 clear h_ h0_
 (try dsimp only at h)
 have H := Aside0.mk h
 clear h
 (repeat ((fail_if_success (with_reducible refine gate_dst (N := 14) rfl ?_)); first | go_values | go_skip | go_guarded | go_step | go_upon))
 refine goesL_ (some 14) rfl rfl Try.func52 (by kernel_rfl) rfl #[.pointer (some ⟨g, 0, none⟩), .int .i64 (l1.length : Int)] rfl (by (try simp only [List.map_toArray, List.map_cons, List.map_nil]); first | done | rfl) ?_
 refine (spec_l1Cur_cuts.calls k g l0 p2 q3 ((l1.length : Int)) l5 p6 q7 w0 _ HI.out HB.out H8.out).mono ?_
 rintro e w3 ⟨v0_, rfl, ho0, hi, hb, hk⟩
 refine ⟨_, rfl, ?_⟩
 obtain ⟨AC, cC, e_C⟩ := Kd.R_slice ho0
 subst e_C
 have nnC_ := Aside0.mk (Kd.R_lower (Kd.R_mono (ok' := fun k_ => k_ ≠ g) (Kd.R_bound ho0) (fun k_ h_ => by have h1_ := HI.out.lt; have h2_ := h_.2.1; exact fun h3_ => by omega)) HB.out.size)
 have APOC := Aside0.mk (show ∀ q_, (Value.slice AO l1.length cO).ownBlock = some q_ → ¬ (Value.slice AC _ cC).ownBlock = some q_ from fun q_ h1_ h2_ => by have h3_ := ((Kd.R_bound O.out).1 q_ h1_).2.2.1; have h4_ := ((Kd.R_bound ho0).1 q_ h2_).2.1; omega)
 clear ho0
 have nO_ := Aside0.mk (Kd.R_keep O.out hk (fun _ h_ => h_))
 clear HI HB hk O
 have HI := Aside0.mk hi
 have HB := Aside0.mk hb
 clear hi hb
 have O := nO_
 clear nO_
 have C := nnC_
 clear nnC_
 have h0_ := H.out
 clear H
 obtain ⟨b9, h_, h⟩ := Option.bind_eq_some_iff.1 h0_
 have H10 := Aside0.mk h_
 clear h_ h0_
 (try dsimp only at h)
 have H := Aside0.mk h
 clear h
 (repeat ((fail_if_success (with_reducible refine gate_dst (N := 16) rfl ?_)); first | go_values | go_skip | go_guarded | go_step | go_upon))
 refine goesL_ (some 16) rfl rfl Try.func56 (by kernel_rfl) rfl #[.slice AO l1.length cO] rfl (by (try simp only [List.map_toArray, List.map_cons, List.map_nil]); first | done | rfl) ?_
 refine (spec_l2Order.calls k AO cO l1 b9 _ (Kd.R_reads' O.out).2.2 (Kd.R_reads' O.out).2.1 H10.out).mono ?_
 rintro e w4 ⟨rfl, hdr⟩
 have hb := hdr.below
 clear hdr
 refine ⟨_, rfl, ?_⟩
 have nO_ := Aside0.mk (Kd.R_below O.out hb)
 have nC_ := Aside0.mk (Kd.R_below C.out hb)
 have ni_ := Aside0.mk (HI.out.below hb)
 have nb_ := Aside0.mk (below_step HB.out hb)
 clear HB hb HI  O C
 have HB := nb_
 clear nb_
 have HI := ni_
 clear ni_
 have O := nO_
 clear nO_
 have C := nC_
 clear nC_
 have h := H.out
 clear H
 cases b9 with
 | true =>
  rw [if_pos rfl] at h
  have H := Aside0.mk h
  clear h
  have h0_ := H.out
  clear H
  obtain ⟨b11, h_, h⟩ := Option.bind_eq_some_iff.1 h0_
  have H12 := Aside0.mk h_
  clear h_ h0_
  (try dsimp only at h)
  have H := Aside0.mk h
  clear h
  (repeat ((fail_if_success (with_reducible refine gate_dst (N := 21) rfl ?_)); first | go_values | go_skip | go_guarded | go_step | go_upon))
  refine goesG_ (some 21) rfl rfl Try.func57 (by kernel_rfl) rfl #[.int .i64 (l1.length : Int), .slice AC l5.length cC] rfl (by (try simp only [List.map_toArray, List.map_cons, List.map_nil]); first | done | rfl) ?_
  refine (spec_l6Cuts.calls k ((l1.length : Int)) AC cC l5 b11 _ (Kd.R_reads' C.out).2.2 (Kd.R_reads' C.out).2.1 H12.out).mono ?_
  rintro e w5 ⟨rfl, hdr⟩
  have hb := hdr.below
  clear hdr
  refine ⟨_, rfl, ?_⟩
  have nO_ := Aside0.mk (Kd.R_below O.out hb)
  have nC_ := Aside0.mk (Kd.R_below C.out hb)
  have ni_ := Aside0.mk (HI.out.below hb)
  have nb_ := Aside0.mk (below_step HB.out hb)
  clear HB hb HI  O C
  have HB := nb_
  clear nb_
  have HI := ni_
  clear ni_
  have O := nO_
  clear nO_
  have C := nC_
  clear nC_
  have h := H.out
  clear H
  cases b11 with
  | true =>
   rw [if_pos rfl] at h
   have H := Aside0.mk h
   clear h
   have h0_ := H.out
   clear H
   obtain ⟨⟨b13, p14, q15⟩, h_, h⟩ := Option.bind_eq_some_iff.1 h0_
   have H16 := Aside0.mk h_
   clear h_ h0_
   (try dsimp only at h)
   have H := Aside0.mk h
   clear h
   (repeat ((fail_if_success (with_reducible refine gate_dst (N := 25) rfl ?_)); first | go_values | go_skip | go_guarded | go_step | go_upon))
   refine goesG_ (some 25) rfl rfl Try.func60 (by kernel_rfl) rfl #[.pointer (some ⟨g, 0, none⟩), .int .i64 2] rfl (by (try simp only [List.map_toArray, List.map_cons, List.map_nil]); first | done | rfl) ?_
   refine (spec_l1Cur_one.calls g l0 p6 q7 2 b13 p14 q15 w0 _ HI.out HB.out H16.out).mono ?_
   rintro e w6 ⟨rfl, hi, hb, hk⟩
   refine ⟨_, rfl, ?_⟩
   have nO_ := Aside0.mk (Kd.R_keep O.out hk (fun _ h_ => h_))
   have nC_ := Aside0.mk (Kd.R_keep C.out hk (fun _ h_ => h_))
   clear HI HB hk O C
   have HI := Aside0.mk hi
   have HB := Aside0.mk hb
   clear hi hb
   have O := nO_
   clear nO_
   have C := nC_
   clear nC_
   have h := H.out
   clear H
   cases b13 with
   | true =>
    rw [if_pos rfl] at h
    have H := Aside0.mk h
    clear h
    have h0_ := H.out
    clear H
    obtain ⟨l17, h_, h⟩ := Option.bind_eq_some_iff.1 h0_
    have H18 := Aside0.mk h_
    clear h_ h0_
    (try dsimp only at h)
    have H := Aside0.mk h
    clear h
    (repeat ((fail_if_success (with_reducible refine gate_dst (N := 29) rfl ?_)); first | go_values | go_skip | go_guarded | go_step | go_upon))
    refine goesL_ (some 29) rfl rfl Try.func81 (by kernel_rfl) rfl #[.int .i64 (l1.length : Int)] rfl (by (try simp only [List.map_toArray, List.map_cons, List.map_nil]); first | done | rfl) ?_
    refine (spec_l2Sorted.calls k ((l1.length : Int)) l17 _ H18.out).mono ?_
    rintro e w7 ⟨v0_, rfl, ho0, hb⟩
    refine ⟨_, rfl, ?_⟩
    obtain ⟨AZ, cZ, e_Z⟩ := Kd.R_slice ho0
    subst e_Z
    have nnZ_ := Aside0.mk (Kd.R_lower (Kd.R_mono (ok' := fun k_ => k_ ≠ g) (Kd.R_bound ho0) (fun k_ h_ => by have h1_ := HI.out.lt; have h2_ := h_.2.1; exact fun h3_ => by omega)) HB.out.size)
    have APOZ := Aside0.mk (show ∀ q_, (Value.slice AO l1.length cO).ownBlock = some q_ → ¬ (Value.slice AZ _ cZ).ownBlock = some q_ from fun q_ h1_ h2_ => by have h3_ := ((Kd.R_bound O.out).1 q_ h1_).2.2.1; have h4_ := ((Kd.R_bound ho0).1 q_ h2_).2.1; omega)
    have APCZ := Aside0.mk (show ∀ q_, (Value.slice AC l5.length cC).ownBlock = some q_ → ¬ (Value.slice AZ _ cZ).ownBlock = some q_ from fun q_ h1_ h2_ => by have h3_ := ((Kd.R_bound C.out).1 q_ h1_).2.2.1; have h4_ := ((Kd.R_bound ho0).1 q_ h2_).2.1; omega)
    clear ho0
    have nO_ := Aside0.mk (Kd.R_below O.out hb)
    have nC_ := Aside0.mk (Kd.R_below C.out hb)
    have ni_ := Aside0.mk (HI.out.below hb)
    have nb_ := Aside0.mk (below_step HB.out hb)
    clear HB hb HI  O C
    have HB := nb_
    clear nb_
    have HI := ni_
    clear ni_
    have O := nO_
    clear nO_
    have C := nC_
    clear nC_
    have Z := nnZ_
    clear nnZ_
    have h0_ := H.out
    clear H
    obtain ⟨l19, h_, h⟩ := Option.bind_eq_some_iff.1 h0_
    have H20 := Aside0.mk h_
    clear h_ h0_
    (try dsimp only at h)
    have H := Aside0.mk h
    clear h
    (repeat ((fail_if_success (with_reducible refine gate_dst (N := 31) rfl ?_)); first | go_values | go_skip | go_guarded | go_step | go_upon))
    refine goesL_ (some 31) rfl rfl Try.func58 (by kernel_rfl) rfl #[.slice AZ l17.length cZ, .slice AC l5.length cC] rfl (by (try simp only [List.map_toArray, List.map_cons, List.map_nil]); first | done | rfl) ?_
    refine (spec_l6Run.calls k AZ cZ l17 AC cC l5 l19 _ (Kd.R_reads' Z.out).2.2 (Kd.R_reads' Z.out).2.1 (Kd.R_reads' C.out).2.2 (Kd.R_reads' C.out).2.1 H20.out).mono ?_
    rintro e w8 ⟨v0_, rfl, ho0, hb⟩
    refine ⟨_, rfl, ?_⟩
    obtain ⟨AX, cX, e_X⟩ := Kd.R_slice ho0
    subst e_X
    have nnX_ := Aside0.mk (Kd.R_lower (Kd.R_mono (ok' := fun k_ => k_ ≠ g) (Kd.R_bound ho0) (fun k_ h_ => by have h1_ := HI.out.lt; have h2_ := h_.2.1; exact fun h3_ => by omega)) HB.out.size)
    have APOX := Aside0.mk (show ∀ q_, (Value.slice AO l1.length cO).ownBlock = some q_ → ¬ (Value.slice AX _ cX).ownBlock = some q_ from fun q_ h1_ h2_ => by have h3_ := ((Kd.R_bound O.out).1 q_ h1_).2.2.1; have h4_ := ((Kd.R_bound ho0).1 q_ h2_).2.1; omega)
    have APCX := Aside0.mk (show ∀ q_, (Value.slice AC l5.length cC).ownBlock = some q_ → ¬ (Value.slice AX _ cX).ownBlock = some q_ from fun q_ h1_ h2_ => by have h3_ := ((Kd.R_bound C.out).1 q_ h1_).2.2.1; have h4_ := ((Kd.R_bound ho0).1 q_ h2_).2.1; omega)
    have APZX := Aside0.mk (show ∀ q_, (Value.slice AZ l17.length cZ).ownBlock = some q_ → ¬ (Value.slice AX _ cX).ownBlock = some q_ from fun q_ h1_ h2_ => by have h3_ := ((Kd.R_bound Z.out).1 q_ h1_).2.2.1; have h4_ := ((Kd.R_bound ho0).1 q_ h2_).2.1; omega)
    clear ho0
    have nO_ := Aside0.mk (Kd.R_below O.out hb)
    have nC_ := Aside0.mk (Kd.R_below C.out hb)
    have nZ_ := Aside0.mk (Kd.R_below Z.out hb)
    have ni_ := Aside0.mk (HI.out.below hb)
    have nb_ := Aside0.mk (below_step HB.out hb)
    clear HB hb HI  O C Z
    have HB := nb_
    clear nb_
    have HI := ni_
    clear ni_
    have O := nO_
    clear nO_
    have C := nC_
    clear nC_
    have Z := nZ_
    clear nZ_
    have X := nnX_
    clear nnX_
    have h := H.out
    clear H
    obtain rfl := Option.some.inj h
    clear h
    go_wp2
    go_ret
    exact ⟨_, rfl, Kd.R_mono X.out (fun _ _ => trivial), HB.out⟩
   | false =>
    rw [if_neg (by simp)] at h
    have H := Aside0.mk h
    clear h
    have h := H.out
    clear H
    obtain rfl := Option.some.inj h
    clear h
    go_wp2
    go_ret
    exact ⟨_, rfl, Kd.R_mono O.out (fun _ _ => trivial), HB.out⟩
  | false =>
   rw [if_neg (by simp)] at h
   have H := Aside0.mk h
   clear h
   have h := H.out
   clear H
   obtain rfl := Option.some.inj h
   clear h
   go_wp2
   go_ret
   exact ⟨_, rfl, Kd.R_mono O.out (fun _ _ => trivial), HB.out⟩
 | false =>
  rw [if_neg (by simp)] at h
  have H := Aside0.mk h
  clear h
  have h := H.out
  clear H
  obtain rfl := Option.some.inj h
  clear h
  go_wp2
  go_ret
  exact ⟨_, rfl, Kd.R_mono O.out (fun _ _ => trivial), HB.out⟩
def slices_Equal_int_int.l0 : Nat → List Int → List Int → Int → Int → Option (Bool)
 | 0, _, _, _, _ => none
 | k + 1, x0, x1, x12, x13 => if x13 < x12 then (if 0 ≤ x13 then (if x13 < (x0.length : Int) then (if x13 < (x1.length : Int) then (if (rd x0 x13) = (rd x1 x13) then (slices_Equal_int_int.l0 k x0 x1 x12 (wrap64 (x13 + 1))) else (some false)) else (none)) else (none)) else (none)) else (some true)
def slices_Equal_int_int.f (k : Nat) (l0 : List Int) (l1 : List Int) : Option (Bool) := if (l0.length : Int) = (l1.length : Int) then (slices_Equal_int_int.l0 k l0 l1 (l0.length : Int) 0) else (some false)
theorem slices_Equal_int_int.mono_l : ∀ k, (∀ y0 y1 y2 y3, LeO (slices_Equal_int_int.l0 k y0 y1 y2 y3) (slices_Equal_int_int.l0 (k + 1) y0 y1 y2 y3))
 | 0 => fun _ _ _ _ r h => by simp [slices_Equal_int_int.l0] at h
 | k + 1 => by
  have ih0 := slices_Equal_int_int.mono_l k
  ·
   intro y0 y1 y2 y3
   unfold slices_Equal_int_int.l0
   repeat' with_reducible first | exact ih0 _ _ _ _ | exact LeO.refl _ | exact LeO.none _ | refine LeO.ite ?_ ?_ | refine LeO.bind ?_ (fun _ => ?_)
theorem slices_Equal_int_int.mono : ∀ a0 a1 k, LeO (slices_Equal_int_int.f k a0 a1) (slices_Equal_int_int.f (k + 1) a0 a1) := by
 intro a0 a1 k
 have ih0 := slices_Equal_int_int.mono_l k
 unfold slices_Equal_int_int.f
 repeat' with_reducible first | exact ih0 _ _ _ _ | exact LeO.refl _ | exact LeO.none _ | refine LeO.ite ?_ ?_ | refine LeO.bind ?_ (fun _ => ?_)
set_option maxHeartbeats 8000000 in
set_option maxRecDepth 100000 in
theorem slices_Equal_int_int.calls (k : Nat) (A0 : Option Addr) (c0 : Nat) (l0 : List Int) (A1 : Option Addr) (c1 : Nat) (l1 : List Int) (r : Bool) (w : World) (hr0 : Kd.C (Kd.int .i64) w A0 l0.length l0) (hc0 : l0.length ≤ c0) (hr1 : Kd.C (Kd.int .i64) w A1 l1.length l1) (hc1 : l1.length ≤ c1) (h : slices_Equal_int_int.f k l0 l1 = some r) :
  Calls Try.prog 73 #[.slice A0 l0.length c0, .slice A1 l1.length c1] w fun e w' => e = .returned (.bool r) ∧ Drawn0 w w' := by
 have HR0 := Aside0.mk hr0
 have HC0 := Aside0.mk hc0
 clear hr0 hc0
 have HR1 := Aside0.mk hr1
 have HC1 := Aside0.mk hc1
 clear hr1 hc1
 have H : (if (l0.length : Int) = (l1.length : Int) then (slices_Equal_int_int.l0 k l0 l1 (l0.length : Int) 0) else (some false)) = some r := h
 clear h
 by_cases c3 : (l0.length : Int) = (l1.length : Int)
 ·
  rw [if_pos c3] at H
  have c3b0 : ((l0.length : Int) == (l1.length : Int)) = true := beq_iff_eq.mpr c3
  have c3b1 : ((l0.length : Int) != (l1.length : Int)) = false := bne_eq_false_iff_eq.mpr c3
  have c3b2 : (l0.length == l1.length) = true := by first | simpa using c3 | (simp at c3 ⊢; omega)
  clear c3
  have H' := Aside0.mk H
  clear H
  go_enter Try.func73, Try.ntmps73
  go_wp2
  repeat (go_quiet (fail); try go_wp2)
  go_loopg [13] k (fun kq v13 w' => ∃ (x13_1 : Int), v13 = .int .i64 x13_1 ∧ Aside0 (slices_Equal_int_int.l0 kq l0 l1 (l0.length : Int) x13_1 = some r) ∧ Aside0 (kq ≤ k) ∧ Drawn0 w w')
  case atStart => exact ⟨(0), (by first | rfl | (simp; done) | (simp [*]; done)), H', ⟨Nat.le_refl _⟩, by repeat (first | exact Drawn0.refl _ | apply Drawn0.step)⟩
  case round =>
   clear H'
   try clear c1
   try clear p2
   try clear c3
   try clear c3b0
   try clear c3b1
   try clear c3b2
   obtain ⟨x13_1, rfl, HA, HK1, ⟨m1, rfl⟩⟩ := hrel
   cases gk with
   | zero => exact absurd HA.out (by simp [slices_Equal_int_int.l0])
   | succ k1 =>
    have H := HA.out
    clear HA
    simp only [slices_Equal_int_int.l0] at H
    by_cases c4 : x13_1 < (l0.length : Int)
    ·
     rw [if_pos c4] at H
     have c4b0 : decide (x13_1 < (l0.length : Int)) = true := decide_eq_true c4
     clear c4
     by_cases c5 : 0 ≤ x13_1
     ·
      rw [if_pos c5] at H
      have c5b0 : decide (0 ≤ x13_1) = true := decide_eq_true c5
      clear c5
      by_cases c6 : x13_1 < (l0.length : Int)
      ·
       rw [if_pos c6] at H
       have c6b0 : decide (x13_1 < (l0.length : Int)) = true := decide_eq_true c6
       clear c6
       by_cases c7 : x13_1 < (l1.length : Int)
       ·
        rw [if_pos c7] at H
        have c7b0 : decide (x13_1 < (l1.length : Int)) = true := decide_eq_true c7
        clear c7
        by_cases c8 : (rd l0 x13_1) = (rd l1 x13_1)
        ·
         rw [if_pos c8] at H
         have c8b0 : ((rd l0 x13_1) == (rd l1 x13_1)) = true := beq_iff_eq.mpr c8
         have c8b1 : ((rd l0 x13_1) != (rd l1 x13_1)) = false := bne_eq_false_iff_eq.mpr c8
         clear c8
         have H' := Aside0.mk H
         clear H
         have p294 : 0 ≤ (x13_1 : Int) := of_decide_eq_true (by first | (with_reducible assumption) | assumption)
         have q294 : x13_1 < (l0.length : Int) := of_decide_eq_true (by first | (with_reducible assumption) | assumption)
         obtain ⟨ad294, e294, hx294_0⟩ := Kd.at_int HR0.out x13_1 p294 q294
         cases e294
         replace p294 := eq_true p294
         replace q294 := eq_true q294
         have p295 : 0 ≤ (x13_1 : Int) := of_decide_eq_true (by first | (with_reducible assumption) | assumption)
         have q295 : x13_1 < (l1.length : Int) := of_decide_eq_true (by first | (with_reducible assumption) | assumption)
         obtain ⟨ad295, e295, hx295_0⟩ := Kd.at_int HR1.out x13_1 p295 q295
         cases e295
         replace p295 := eq_true p295
         replace q295 := eq_true q295
         go_wp2
         repeat (go_quiet (fail); try go_wp2)
         go_roundg k1
         case measure => have := HK1.out; omega
         case rel => exact ⟨(wrap64 (x13_1 + 1)), (by first | rfl | (simp; done) | (simp [*]; done)), H', ⟨by have := HK1.out; omega⟩, by repeat (first | exact Drawn0.refl _ | apply Drawn0.step)⟩
        ·
         rw [if_neg c8] at H
         have c8b0 : ((rd l0 x13_1) == (rd l1 x13_1)) = false := beq_eq_false_iff_ne.mpr c8
         have c8b1 : ((rd l0 x13_1) != (rd l1 x13_1)) = true := bne_iff_ne.mpr c8
         obtain rfl := Option.some.inj H
         have p294 : 0 ≤ (x13_1 : Int) := of_decide_eq_true (by first | (with_reducible assumption) | assumption)
         have q294 : x13_1 < (l0.length : Int) := of_decide_eq_true (by first | (with_reducible assumption) | assumption)
         obtain ⟨ad294, e294, hx294_0⟩ := Kd.at_int HR0.out x13_1 p294 q294
         cases e294
         replace p294 := eq_true p294
         replace q294 := eq_true q294
         have p295 : 0 ≤ (x13_1 : Int) := of_decide_eq_true (by first | (with_reducible assumption) | assumption)
         have q295 : x13_1 < (l1.length : Int) := of_decide_eq_true (by first | (with_reducible assumption) | assumption)
         obtain ⟨ad295, e295, hx295_0⟩ := Kd.at_int HR1.out x13_1 p295 q295
         cases e295
         replace p295 := eq_true p295
         replace q295 := eq_true q295
         go_wp2
         repeat (go_quiet (fail); try go_wp2)
         go_ret
         exact ⟨by first | rfl | (simp; done) | (simp [*]; done), by repeat (first | exact Drawn0.refl _ | apply Drawn0.step)⟩
       ·
        rw [if_neg c7] at H
        exact absurd H (by simp)
      ·
       rw [if_neg c6] at H
       exact absurd H (by simp)
     ·
      rw [if_neg c5] at H
      exact absurd H (by simp)
    ·
     rw [if_neg c4] at H
     have c4b0 : decide (x13_1 < (l0.length : Int)) = false := decide_eq_false c4
     clear c4
     obtain rfl := Option.some.inj H
     go_wp2
     repeat (go_quiet (fail); try go_wp2)
     go_ret
     exact ⟨by first | rfl | (simp; done) | (simp [*]; done), by repeat (first | exact Drawn0.refl _ | apply Drawn0.step)⟩
 ·
  rw [if_neg c3] at H
  have c3b0 : ((l0.length : Int) == (l1.length : Int)) = false := beq_eq_false_iff_ne.mpr c3
  have c3b1 : ((l0.length : Int) != (l1.length : Int)) = true := bne_iff_ne.mpr c3
  have c3b2 : (l0.length == l1.length) = false := by first | simpa using c3 | (simp at c3 ⊢; omega)
  obtain rfl := Option.some.inj H
  go_enter Try.func73, Try.ntmps73
  go_wp2
  repeat (go_quiet (fail); try go_wp2)
  go_ret
  exact ⟨by first | rfl | (simp; done) | (simp [*]; done), by repeat (first | exact Drawn0.refl _ | apply Drawn0.step)⟩
end Go.Proofs.Ytbnieikbjmfhgaa.PFnFalls
