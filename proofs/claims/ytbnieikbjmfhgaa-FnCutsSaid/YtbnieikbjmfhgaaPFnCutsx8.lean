-- laid by mkprint.py, a program of this claim's writer, over the kit's print program; parts of it are typed by hand
import Derived.Test.YtbnieikbjmfhgaaPFnCutsx0
import Derived.Test.YtbnieikbjmfhgaaPFnCutsx1
import Derived.Test.YtbnieikbjmfhgaaPFnCutsx2
import Derived.Test.YtbnieikbjmfhgaaPFnCutsx3
import Derived.Test.YtbnieikbjmfhgaaPFnCutsx4
import Derived.Test.YtbnieikbjmfhgaaPFnCutsx6
namespace Go.Proofs.Ytbnieikbjmfhgaa.PFnCuts
open Go.RowKit Go.Proofs.YtbnieikbjmfhgaaW.PrintWords Go.Proofs.YtbnieikbjmfhgaaW.PrintLast Go.Proofs.YtbnieikbjmfhgaaW.PrintMore
attribute [local go_sem] max2_int min2_int max_two min_two max_three min_three max_four min_four
set_option linter.unusedVariables false
set_option linter.unusedSimpArgs false
def spec_DrawCutsTo.f (k : Nat) (l0 : List Int) : Option (List Int × List Int) := (spec_l1Cur_order.f l0 0 0).bind fun tl1 => (spec_l1Cur_cuts.f k l0 tl1.2.1 tl1.2.2 ((tl1.1.length : Int))).bind fun tl5 => (spec_l2Order.f k tl1.1).bind fun tb9 => (if tb9 = true then (spec_l6Cuts.f k ((tl1.1.length : Int)) tl5.1).bind fun tb11 => (if tb11 = true then (spec_l1Cur_one.f l0 tl5.2.1 tl5.2.2 4).bind fun tb13 => (if tb13.1 = true then (spec_l1Cur_order.f l0 tb13.2.1 tb13.2.2).bind fun tl17 => some (tl1.1, tl17.1) else (spec_l6Run.f k tl1.1 tl5.1).bind fun tl21 => some (tl1.1, tl21)) else (spec_l1Cur_order.f l0 tl5.2.1 tl5.2.2).bind fun tl23 => some (tl1.1, tl23.1)) else (spec_l1Cur_order.f l0 tl5.2.1 tl5.2.2).bind fun tl27 => some (tl1.1, tl27.1))
theorem spec_DrawCutsTo.mono : ∀ a0 k, LeO (spec_DrawCutsTo.f k a0) (spec_DrawCutsTo.f (k + 1) a0) := by
  intro a0 k
  unfold spec_DrawCutsTo.f
  repeat' first
    | (with_reducible exact spec_l1Cur_cuts.mono _ _ _ _ _)
    | (with_reducible exact spec_l2Order.mono _ _)
    | (with_reducible exact spec_l6Cuts.mono _ _ _)
    | (with_reducible exact spec_l6Run.mono _ _ _)
    | (with_reducible exact LeO.refl _)
    | (with_reducible exact LeO.none _)
    | (with_reducible refine LeO.ite ?_ ?_)
    | (with_reducible refine LeO.bind ?_ (fun _ => ?_))
    | refine LeO.ite ?_ ?_
    | refine LeO.bind ?_ (fun _ => ?_)
set_option maxHeartbeats 8000000 in
set_option maxRecDepth 100000 in
theorem spec_DrawCutsTo.calls (k : Nat) (A0 : Option Addr) (c0 : Nat) (l0 : List Int) (r1 : List Int) (r2 : List Int) (w0 : World) (hr0 : Kd.C (Kd.int .u8) w0 A0 l0.length l0) (hc0 : l0.length ≤ c0) (h : spec_DrawCutsTo.f k l0 = some (r1, r2)) :
    Calls Try.prog 13 #[.slice A0 l0.length c0] w0 fun e w' => ∃ v0_ v1_ : Value, e = .returned (.tuple #[v0_, v1_]) ∧ Kd.R (Kd.int .i64) 3 w' w0.heap.size (fun k_ => some k_ ≠ (v1_ : Value).ownBlock) v0_ r1 ∧ Kd.R (Kd.int .i64) 3 w' w0.heap.size (fun k_ => some k_ ≠ (v0_ : Value).ownBlock) v1_ r2 ∧ Below w0.heap.size w0 w' := by
  have HB := Aside0.mk (Below.refl w0.heap.size w0)
  have HR0 := Aside0.mk hr0
  have HC0 := Aside0.mk hc0
  have H := Aside0.mk h
  clear hr0 hc0 h
  unfold spec_DrawCutsTo.f at H
  go_enter Try.func13, Try.ntmps13
  (repeat ((fail_if_success (with_reducible refine gate_dst (N := 9) rfl ?_)); first | go_values | go_skip | go_guarded | go_step | go_upon))
  refine box_event ?hg (N := 9) ?hd (cs := #[.slice A0 l0.length c0, .int .i64 0, .int .u64 0]) (t := 59) ?hr ?_
  case hd => rfl
  case hg => rfl
  case hr => first | (go_simp; done) | (go_simp; rfl)
  intro g hg w1 hbox hb
  have HI := Aside0.mk (show IsS59 w0 w1 g l0 0 0 from ⟨A0, c0, hbox, by rw [hg]; exact below_size HB.out, HR0.out⟩)
  have nb_ := Aside0.mk (below_step HB.out hb)
  clear HB hg hb hbox
  have HB := nb_
  clear nb_
  have h0_ := H.out
  clear H
  obtain ⟨⟨l1, p2, q3⟩, h_, h⟩ := Option.bind_eq_some_iff.1 h0_
  have H4 := Aside0.mk h_
  clear h_ h0_
  (try dsimp only at h)
  have H := Aside0.mk h
  clear h
  (repeat ((fail_if_success (with_reducible refine gate_dst (N := 11) rfl ?_)); first | go_values | go_skip | go_guarded | go_step | go_upon))
  refine goesL_ (some 11) rfl rfl Try.func51 (by kernel_rfl) rfl #[.pointer (some ⟨g, 0, none⟩)] rfl (by (try simp only [List.map_toArray, List.map_cons, List.map_nil]); first | done | rfl) ?_
  refine (spec_l1Cur_order.calls g l0 0 0 l1 p2 q3 w0 _ HI.out HB.out H4.out).mono ?_
  rintro e w2 ⟨v0_, rfl, ho0, hi, hb, hk⟩
  refine ⟨_, rfl, ?_⟩
  obtain ⟨AO, cO, e_O⟩ := Kd.R_slice ho0
  subst e_O
  have nnO_ := Aside0.mk (Kd.R_lower (Kd.R_mono (ok' := fun k_ => k_ ≠ g) (Kd.R_bound ho0) (fun k_ h_ => by have h1_ := HI.out.lt; have h2_ := h_.2.1; exact fun h3_ => by omega)) HB.out.size)
  clear ho0
  clear HI HB hk
  have HI := Aside0.mk hi
  have HB := Aside0.mk hb
  clear hi hb
  have O := nnO_
  clear nnO_
  have h0_ := H.out
  clear H
  obtain ⟨⟨l5, p6, q7⟩, h_, h⟩ := Option.bind_eq_some_iff.1 h0_
  have H8 := Aside0.mk h_
  clear h_ h0_
  (try dsimp only at h)
  have H := Aside0.mk h
  clear h
  (repeat ((fail_if_success (with_reducible refine gate_dst (N := 15) rfl ?_)); first | go_values | go_skip | go_guarded | go_step | go_upon))
  refine goesL_ (some 15) rfl rfl Try.func52 (by kernel_rfl) rfl #[.pointer (some ⟨g, 0, none⟩), .int .i64 (l1.length : Int)] rfl (by (try simp only [List.map_toArray, List.map_cons, List.map_nil]); first | done | rfl) ?_
  refine (spec_l1Cur_cuts.calls k g l0 p2 q3 ((l1.length : Int)) l5 p6 q7 w0 _ HI.out HB.out H8.out).mono ?_
  rintro e w3 ⟨v0_, rfl, ho0, hi, hb, hk⟩
  refine ⟨_, rfl, ?_⟩
  obtain ⟨AC, cC, e_C⟩ := Kd.R_slice ho0
  subst e_C
  have nnC_ := Aside0.mk (Kd.R_lower (Kd.R_mono (ok' := fun k_ => k_ ≠ g) (Kd.R_bound ho0) (fun k_ h_ => by have h1_ := HI.out.lt; have h2_ := h_.2.1; exact fun h3_ => by omega)) HB.out.size)
  have APOC := Aside0.mk (show ∀ q_, (Value.slice AO l1.length cO).ownBlock = some q_ → ¬ (Value.slice AC _ cC).ownBlock = some q_ from fun q_ h1_ h2_ => by have h3_ := ((Kd.R_bound O.out).1 q_ h1_).2.2.1; have h4_ := ((Kd.R_bound ho0).1 q_ h2_).2.1; omega)
  clear ho0
  have nO_ := Aside0.mk (Kd.R_keep O.out hk (fun _ h_ => h_))
  clear HI HB hk O
  have HI := Aside0.mk hi
  have HB := Aside0.mk hb
  clear hi hb
  have O := nO_
  clear nO_
  have C := nnC_
  clear nnC_
  have h0_ := H.out
  clear H
  obtain ⟨b9, h_, h⟩ := Option.bind_eq_some_iff.1 h0_
  have H10 := Aside0.mk h_
  clear h_ h0_
  (try dsimp only at h)
  have H := Aside0.mk h
  clear h
  (repeat ((fail_if_success (with_reducible refine gate_dst (N := 17) rfl ?_)); first | go_values | go_skip | go_guarded | go_step | go_upon))
  refine goesL_ (some 17) rfl rfl Try.func56 (by kernel_rfl) rfl #[.slice AO l1.length cO] rfl (by (try simp only [List.map_toArray, List.map_cons, List.map_nil]); first | done | rfl) ?_
  refine (spec_l2Order.calls k AO cO l1 b9 _ (Kd.R_reads' O.out).2.2 (Kd.R_reads' O.out).2.1 H10.out).mono ?_
  rintro e w4 ⟨rfl, hdr⟩
  have hb := hdr.below
  clear hdr
  refine ⟨_, rfl, ?_⟩
  have nO_ := Aside0.mk (Kd.R_below O.out hb)
  have nC_ := Aside0.mk (Kd.R_below C.out hb)
  have ni_ := Aside0.mk (HI.out.below hb)
  have nb_ := Aside0.mk (below_step HB.out hb)
  clear HB hb HI  O C
  have HB := nb_
  clear nb_
  have HI := ni_
  clear ni_
  have O := nO_
  clear nO_
  have C := nC_
  clear nC_
  have h := H.out
  clear H
  cases b9 with
  | true =>
    rw [if_pos rfl] at h
    have H := Aside0.mk h
    clear h
    have h0_ := H.out
    clear H
    obtain ⟨b11, h_, h⟩ := Option.bind_eq_some_iff.1 h0_
    have H12 := Aside0.mk h_
    clear h_ h0_
    (try dsimp only at h)
    have H := Aside0.mk h
    clear h
    (repeat ((fail_if_success (with_reducible refine gate_dst (N := 22) rfl ?_)); first | go_values | go_skip | go_guarded | go_step | go_upon))
    refine goesG_ (some 22) rfl rfl Try.func57 (by kernel_rfl) rfl #[.int .i64 (l1.length : Int), .slice AC l5.length cC] rfl (by (try simp only [List.map_toArray, List.map_cons, List.map_nil]); first | done | rfl) ?_
    refine (spec_l6Cuts.calls k ((l1.length : Int)) AC cC l5 b11 _ (Kd.R_reads' C.out).2.2 (Kd.R_reads' C.out).2.1 H12.out).mono ?_
    rintro e w5 ⟨rfl, hdr⟩
    have hb := hdr.below
    clear hdr
    refine ⟨_, rfl, ?_⟩
    have nO_ := Aside0.mk (Kd.R_below O.out hb)
    have nC_ := Aside0.mk (Kd.R_below C.out hb)
    have ni_ := Aside0.mk (HI.out.below hb)
    have nb_ := Aside0.mk (below_step HB.out hb)
    clear HB hb HI  O C
    have HB := nb_
    clear nb_
    have HI := ni_
    clear ni_
    have O := nO_
    clear nO_
    have C := nC_
    clear nC_
    have h := H.out
    clear H
    cases b11 with
    | true =>
      rw [if_pos rfl] at h
      have H := Aside0.mk h
      clear h
      have h0_ := H.out
      clear H
      obtain ⟨⟨b13, p14, q15⟩, h_, h⟩ := Option.bind_eq_some_iff.1 h0_
      have H16 := Aside0.mk h_
      clear h_ h0_
      (try dsimp only at h)
      have H := Aside0.mk h
      clear h
      (repeat ((fail_if_success (with_reducible refine gate_dst (N := 26) rfl ?_)); first | go_values | go_skip | go_guarded | go_step | go_upon))
      refine goesG_ (some 26) rfl rfl Try.func60 (by kernel_rfl) rfl #[.pointer (some ⟨g, 0, none⟩), .int .i64 4] rfl (by (try simp only [List.map_toArray, List.map_cons, List.map_nil]); first | done | rfl) ?_
      refine (spec_l1Cur_one.calls g l0 p6 q7 4 b13 p14 q15 w0 _ HI.out HB.out H16.out).mono ?_
      rintro e w6 ⟨rfl, hi, hb, hk⟩
      refine ⟨_, rfl, ?_⟩
      have nO_ := Aside0.mk (Kd.R_keep O.out hk (fun _ h_ => h_))
      have nC_ := Aside0.mk (Kd.R_keep C.out hk (fun _ h_ => h_))
      clear HI HB hk O C
      have HI := Aside0.mk hi
      have HB := Aside0.mk hb
      clear hi hb
      have O := nO_
      clear nO_
      have C := nC_
      clear nC_
      have h := H.out
      clear H
      cases b13 with
      | true =>
        rw [if_pos rfl] at h
        have H := Aside0.mk h
        clear h
        have h0_ := H.out
        clear H
        obtain ⟨⟨l17, p18, q19⟩, h_, h⟩ := Option.bind_eq_some_iff.1 h0_
        have H20 := Aside0.mk h_
        clear h_ h0_
        (try dsimp only at h)
        have H := Aside0.mk h
        clear h
        (repeat ((fail_if_success (with_reducible refine gate_dst (N := 35) rfl ?_)); first | go_values | go_skip | go_guarded | go_step | go_upon))
        refine goesL_ (some 35) rfl rfl Try.func51 (by kernel_rfl) rfl #[.pointer (some ⟨g, 0, none⟩)] rfl (by (try simp only [List.map_toArray, List.map_cons, List.map_nil]); first | done | rfl) ?_
        refine (spec_l1Cur_order.calls g l0 p14 q15 l17 p18 q19 w0 _ HI.out HB.out H20.out).mono ?_
        rintro e w7 ⟨v0_, rfl, ho0, hi, hb, hk⟩
        refine ⟨_, rfl, ?_⟩
        obtain ⟨AX, cX, e_X⟩ := Kd.R_slice ho0
        subst e_X
        have nnX_ := Aside0.mk (Kd.R_lower (Kd.R_mono (ok' := fun k_ => k_ ≠ g) (Kd.R_bound ho0) (fun k_ h_ => by have h1_ := HI.out.lt; have h2_ := h_.2.1; exact fun h3_ => by omega)) HB.out.size)
        have APOX := Aside0.mk (show ∀ q_, (Value.slice AO l1.length cO).ownBlock = some q_ → ¬ (Value.slice AX _ cX).ownBlock = some q_ from fun q_ h1_ h2_ => by have h3_ := ((Kd.R_bound O.out).1 q_ h1_).2.2.1; have h4_ := ((Kd.R_bound ho0).1 q_ h2_).2.1; omega)
        have APCX := Aside0.mk (show ∀ q_, (Value.slice AC l5.length cC).ownBlock = some q_ → ¬ (Value.slice AX _ cX).ownBlock = some q_ from fun q_ h1_ h2_ => by have h3_ := ((Kd.R_bound C.out).1 q_ h1_).2.2.1; have h4_ := ((Kd.R_bound ho0).1 q_ h2_).2.1; omega)
        clear ho0
        have nO_ := Aside0.mk (Kd.R_keep O.out hk (fun _ h_ => h_))
        have nC_ := Aside0.mk (Kd.R_keep C.out hk (fun _ h_ => h_))
        clear HI HB hk O C
        have HI := Aside0.mk hi
        have HB := Aside0.mk hb
        clear hi hb
        have O := nO_
        clear nO_
        have C := nC_
        clear nC_
        have X := nnX_
        clear nnX_
        have h := H.out
        clear H
        obtain ⟨rfl, rfl⟩ := (by simpa only [Option.some.injEq, Prod.mk.injEq] using h)
        clear h
        go_wp2
        go_ret2
        exact ⟨_, _, rfl, Kd.R_mono (Kd.R_tight rfl O.out) (fun q_ h_ he_ => APOX.out q_ h_.symm he_.symm), Kd.R_mono (Kd.R_tight rfl X.out) (fun q_ h_ he_ => APOX.out q_ he_.symm h_.symm), HB.out⟩
      | false =>
        rw [if_neg (by simp)] at h
        have H := Aside0.mk h
        clear h
        have h0_ := H.out
        clear H
        obtain ⟨l21, h_, h⟩ := Option.bind_eq_some_iff.1 h0_
        have H22 := Aside0.mk h_
        clear h_ h0_
        (try dsimp only at h)
        have H := Aside0.mk h
        clear h
        (repeat ((fail_if_success (with_reducible refine gate_dst (N := 32) rfl ?_)); first | go_values | go_skip | go_guarded | go_step | go_upon))
        refine goesL_ (some 32) rfl rfl Try.func58 (by kernel_rfl) rfl #[.slice AO l1.length cO, .slice AC l5.length cC] rfl (by (try simp only [List.map_toArray, List.map_cons, List.map_nil]); first | done | rfl) ?_
        refine (spec_l6Run.calls k AO cO l1 AC cC l5 l21 _ (Kd.R_reads' O.out).2.2 (Kd.R_reads' O.out).2.1 (Kd.R_reads' C.out).2.2 (Kd.R_reads' C.out).2.1 H22.out).mono ?_
        rintro e w7 ⟨v0_, rfl, ho0, hb⟩
        refine ⟨_, rfl, ?_⟩
        obtain ⟨AX, cX, e_X⟩ := Kd.R_slice ho0
        subst e_X
        have nnX_ := Aside0.mk (Kd.R_lower (Kd.R_mono (ok' := fun k_ => k_ ≠ g) (Kd.R_bound ho0) (fun k_ h_ => by have h1_ := HI.out.lt; have h2_ := h_.2.1; exact fun h3_ => by omega)) HB.out.size)
        have APOX := Aside0.mk (show ∀ q_, (Value.slice AO l1.length cO).ownBlock = some q_ → ¬ (Value.slice AX _ cX).ownBlock = some q_ from fun q_ h1_ h2_ => by have h3_ := ((Kd.R_bound O.out).1 q_ h1_).2.2.1; have h4_ := ((Kd.R_bound ho0).1 q_ h2_).2.1; omega)
        have APCX := Aside0.mk (show ∀ q_, (Value.slice AC l5.length cC).ownBlock = some q_ → ¬ (Value.slice AX _ cX).ownBlock = some q_ from fun q_ h1_ h2_ => by have h3_ := ((Kd.R_bound C.out).1 q_ h1_).2.2.1; have h4_ := ((Kd.R_bound ho0).1 q_ h2_).2.1; omega)
        clear ho0
        have nO_ := Aside0.mk (Kd.R_below O.out hb)
        have nC_ := Aside0.mk (Kd.R_below C.out hb)
        have ni_ := Aside0.mk (HI.out.below hb)
        have nb_ := Aside0.mk (below_step HB.out hb)
        clear HB hb HI  O C
        have HB := nb_
        clear nb_
        have HI := ni_
        clear ni_
        have O := nO_
        clear nO_
        have C := nC_
        clear nC_
        have X := nnX_
        clear nnX_
        have h := H.out
        clear H
        obtain ⟨rfl, rfl⟩ := (by simpa only [Option.some.injEq, Prod.mk.injEq] using h)
        clear h
        go_wp2
        go_ret2
        exact ⟨_, _, rfl, Kd.R_mono (Kd.R_tight rfl O.out) (fun q_ h_ he_ => APOX.out q_ h_.symm he_.symm), Kd.R_mono (Kd.R_tight rfl X.out) (fun q_ h_ he_ => APOX.out q_ he_.symm h_.symm), HB.out⟩
    | false =>
      rw [if_neg (by simp)] at h
      have H := Aside0.mk h
      clear h
      have h0_ := H.out
      clear H
      obtain ⟨⟨l23, p24, q25⟩, h_, h⟩ := Option.bind_eq_some_iff.1 h0_
      have H26 := Aside0.mk h_
      clear h_ h0_
      (try dsimp only at h)
      have H := Aside0.mk h
      clear h
      (repeat ((fail_if_success (with_reducible refine gate_dst (N := 35) rfl ?_)); first | go_values | go_skip | go_guarded | go_step | go_upon))
      refine goesL_ (some 35) rfl rfl Try.func51 (by kernel_rfl) rfl #[.pointer (some ⟨g, 0, none⟩)] rfl (by (try simp only [List.map_toArray, List.map_cons, List.map_nil]); first | done | rfl) ?_
      refine (spec_l1Cur_order.calls g l0 p6 q7 l23 p24 q25 w0 _ HI.out HB.out H26.out).mono ?_
      rintro e w6 ⟨v0_, rfl, ho0, hi, hb, hk⟩
      refine ⟨_, rfl, ?_⟩
      obtain ⟨AX, cX, e_X⟩ := Kd.R_slice ho0
      subst e_X
      have nnX_ := Aside0.mk (Kd.R_lower (Kd.R_mono (ok' := fun k_ => k_ ≠ g) (Kd.R_bound ho0) (fun k_ h_ => by have h1_ := HI.out.lt; have h2_ := h_.2.1; exact fun h3_ => by omega)) HB.out.size)
      have APOX := Aside0.mk (show ∀ q_, (Value.slice AO l1.length cO).ownBlock = some q_ → ¬ (Value.slice AX _ cX).ownBlock = some q_ from fun q_ h1_ h2_ => by have h3_ := ((Kd.R_bound O.out).1 q_ h1_).2.2.1; have h4_ := ((Kd.R_bound ho0).1 q_ h2_).2.1; omega)
      have APCX := Aside0.mk (show ∀ q_, (Value.slice AC l5.length cC).ownBlock = some q_ → ¬ (Value.slice AX _ cX).ownBlock = some q_ from fun q_ h1_ h2_ => by have h3_ := ((Kd.R_bound C.out).1 q_ h1_).2.2.1; have h4_ := ((Kd.R_bound ho0).1 q_ h2_).2.1; omega)
      clear ho0
      have nO_ := Aside0.mk (Kd.R_keep O.out hk (fun _ h_ => h_))
      have nC_ := Aside0.mk (Kd.R_keep C.out hk (fun _ h_ => h_))
      clear HI HB hk O C
      have HI := Aside0.mk hi
      have HB := Aside0.mk hb
      clear hi hb
      have O := nO_
      clear nO_
      have C := nC_
      clear nC_
      have X := nnX_
      clear nnX_
      have h := H.out
      clear H
      obtain ⟨rfl, rfl⟩ := (by simpa only [Option.some.injEq, Prod.mk.injEq] using h)
      clear h
      go_wp2
      go_ret2
      exact ⟨_, _, rfl, Kd.R_mono (Kd.R_tight rfl O.out) (fun q_ h_ he_ => APOX.out q_ h_.symm he_.symm), Kd.R_mono (Kd.R_tight rfl X.out) (fun q_ h_ he_ => APOX.out q_ he_.symm h_.symm), HB.out⟩
  | false =>
    rw [if_neg (by simp)] at h
    have H := Aside0.mk h
    clear h
    have h0_ := H.out
    clear H
    obtain ⟨⟨l27, p28, q29⟩, h_, h⟩ := Option.bind_eq_some_iff.1 h0_
    have H30 := Aside0.mk h_
    clear h_ h0_
    (try dsimp only at h)
    have H := Aside0.mk h
    clear h
    (repeat ((fail_if_success (with_reducible refine gate_dst (N := 35) rfl ?_)); first | go_values | go_skip | go_guarded | go_step | go_upon))
    refine goesL_ (some 35) rfl rfl Try.func51 (by kernel_rfl) rfl #[.pointer (some ⟨g, 0, none⟩)] rfl (by (try simp only [List.map_toArray, List.map_cons, List.map_nil]); first | done | rfl) ?_
    refine (spec_l1Cur_order.calls g l0 p6 q7 l27 p28 q29 w0 _ HI.out HB.out H30.out).mono ?_
    rintro e w5 ⟨v0_, rfl, ho0, hi, hb, hk⟩
    refine ⟨_, rfl, ?_⟩
    obtain ⟨AX, cX, e_X⟩ := Kd.R_slice ho0
    subst e_X
    have nnX_ := Aside0.mk (Kd.R_lower (Kd.R_mono (ok' := fun k_ => k_ ≠ g) (Kd.R_bound ho0) (fun k_ h_ => by have h1_ := HI.out.lt; have h2_ := h_.2.1; exact fun h3_ => by omega)) HB.out.size)
    have APOX := Aside0.mk (show ∀ q_, (Value.slice AO l1.length cO).ownBlock = some q_ → ¬ (Value.slice AX _ cX).ownBlock = some q_ from fun q_ h1_ h2_ => by have h3_ := ((Kd.R_bound O.out).1 q_ h1_).2.2.1; have h4_ := ((Kd.R_bound ho0).1 q_ h2_).2.1; omega)
    have APCX := Aside0.mk (show ∀ q_, (Value.slice AC l5.length cC).ownBlock = some q_ → ¬ (Value.slice AX _ cX).ownBlock = some q_ from fun q_ h1_ h2_ => by have h3_ := ((Kd.R_bound C.out).1 q_ h1_).2.2.1; have h4_ := ((Kd.R_bound ho0).1 q_ h2_).2.1; omega)
    clear ho0
    have nO_ := Aside0.mk (Kd.R_keep O.out hk (fun _ h_ => h_))
    have nC_ := Aside0.mk (Kd.R_keep C.out hk (fun _ h_ => h_))
    clear HI HB hk O C
    have HI := Aside0.mk hi
    have HB := Aside0.mk hb
    clear hi hb
    have O := nO_
    clear nO_
    have C := nC_
    clear nC_
    have X := nnX_
    clear nnX_
    have h := H.out
    clear H
    obtain ⟨rfl, rfl⟩ := (by simpa only [Option.some.injEq, Prod.mk.injEq] using h)
    clear h
    go_wp2
    go_ret2
    exact ⟨_, _, rfl, Kd.R_mono (Kd.R_tight rfl O.out) (fun q_ h_ he_ => APOX.out q_ h_.symm he_.symm), Kd.R_mono (Kd.R_tight rfl X.out) (fun q_ h_ he_ => APOX.out q_ he_.symm h_.symm), HB.out⟩
def impl_areOrders.f (k : Nat) (l0 : List Int) (l1 : List Int) : Option (Bool) := (impl_isOrder.f k l0).bind fun t237 => (if t237 = true then ((impl_isOrder.f k l1).bind fun t238 => (if t238 = true then (some ((l0.length : Int) == (l1.length : Int))) else (some false))) else (some false))
theorem impl_areOrders.mono : ∀ a0 a1 k, LeO (impl_areOrders.f k a0 a1) (impl_areOrders.f (k + 1) a0 a1) := by
  intro a0 a1 k
  unfold impl_areOrders.f
  repeat' first
      | (with_reducible exact impl_isOrder.mono _ _)
      | (with_reducible exact LeO.refl _)
      | (with_reducible exact LeO.none _)
      | (with_reducible refine LeO.ite ?_ ?_)
      | (with_reducible refine LeO.bind ?_ (fun _ => ?_))
      | exact impl_isOrder.mono _ _
      | exact LeO.none _
      | refine LeO.ite ?_ ?_
      | refine LeO.bind ?_ (fun _ => ?_)
set_option maxHeartbeats 8000000 in
set_option maxRecDepth 100000 in
theorem impl_areOrders.calls (k : Nat) (A0 : Option Addr) (c0 : Nat) (l0 : List Int) (A1 : Option Addr) (c1 : Nat) (l1 : List Int) (r : Bool) (w : World) (hr0 : Kd.C (Kd.int .i64) w A0 l0.length l0) (hc0 : l0.length ≤ c0) (hr1 : Kd.C (Kd.int .i64) w A1 l1.length l1) (hc1 : l1.length ≤ c1) (h : impl_areOrders.f k l0 l1 = some r) :
    Calls Try.prog 61 #[.slice A0 l0.length c0, .slice A1 l1.length c1] w fun e w' => e = .returned (.bool r) ∧ Drawn0 w w' := by
  have HR0 := Aside0.mk hr0
  have HC0 := Aside0.mk hc0
  clear hr0 hc0
  have HR1 := Aside0.mk hr1
  have HC1 := Aside0.mk hc1
  clear hr1 hc1
  have H : ((impl_isOrder.f k l0).bind fun t237 => (if t237 = true then ((impl_isOrder.f k l1).bind fun t238 => (if t238 = true then (some ((l0.length : Int) == (l1.length : Int))) else (some false))) else (some false))) = some r := h
  clear h
  replace H := Option.bind_eq_some_iff.mp H
  obtain ⟨t237, A30, H⟩ := H
  replace H : (if t237 = true then ((impl_isOrder.f k l1).bind fun t238 => (if t238 = true then (some ((l0.length : Int) == (l1.length : Int))) else (some false))) else (some false)) = some r := H
  have A3 := Aside0.mk A30
  clear A30
  by_cases c4 : t237 = true
  · subst c4
    have H1 : ((impl_isOrder.f k l1).bind fun t238 => (if t238 = true then (some ((l0.length : Int) == (l1.length : Int))) else (some false))) = some r := by rw [if_pos rfl] at H; exact H
    clear H
    have H := H1
    clear H1
    replace H := Option.bind_eq_some_iff.mp H
    obtain ⟨t238, A50, H⟩ := H
    replace H : (if t238 = true then (some ((l0.length : Int) == (l1.length : Int))) else (some false)) = some r := H
    have A5 := Aside0.mk A50
    clear A50
    by_cases c6 : t238 = true
    · subst c6
      have H1 : (some ((l0.length : Int) == (l1.length : Int))) = some r := by rw [if_pos rfl] at H; exact H
      clear H
      have H := H1
      clear H1
      obtain rfl := Option.some.inj H
      go_enter Try.func61, Try.ntmps61
      go_wp2_with (first | ((with_reducible refine gate_callee (f := 53) rfl ?_); refine goesL_ (some 6) rfl rfl Try.func53 (by kernel_rfl) rfl #[.slice A0 l0.length c0] rfl (by (try simp only [List.map_toArray, List.map_cons, List.map_nil]); first | done | rfl | (simp only [List.length_drop, List.length_take]; rfl)) ?_; (with_reducible refine (impl_isOrder.calls k _ _ l0 true _ ?side1 ?side2 A3.out).mono ?_); (case side1 => repeat (first | exact HR0.out | (with_reducible refine Kd.C_alloc ?_ _) | (with_reducible refine Kd.C_drewN ?_ _) | (with_reducible refine Kd.C_drew ?_))); (case side2 => exact HC0.out); rintro e w' ⟨rfl, ⟨nd, rfl⟩⟩; refine ⟨_, rfl, ?_⟩) | (go_at_call 53; (with_reducible refine (impl_isOrder.calls k _ _ l1 true _ ?side1 ?side2 A5.out).mono ?_); (case side1 => repeat (first | exact HR1.out | (with_reducible refine Kd.C_alloc ?_ _) | (with_reducible refine Kd.C_drewN ?_ _) | (with_reducible refine Kd.C_drew ?_))); (case side2 => exact HC1.out); rintro e w' ⟨rfl, ⟨nd, rfl⟩⟩))
      go_ret
      exact ⟨by first | rfl | (simp; done) | (simp [*]; done), by repeat (first | exact Drawn0.refl _ | apply Drawn0.step)⟩
    · replace c6 := Bool.eq_false_iff.mpr c6
      subst c6
      have H1 : (some false) = some r := by rw [if_neg (show ¬ (false = true) by decide)] at H; exact H
      clear H
      have H := H1
      clear H1
      obtain rfl := Option.some.inj H
      go_enter Try.func61, Try.ntmps61
      go_wp2_with (first | ((with_reducible refine gate_callee (f := 53) rfl ?_); refine goesL_ (some 6) rfl rfl Try.func53 (by kernel_rfl) rfl #[.slice A0 l0.length c0] rfl (by (try simp only [List.map_toArray, List.map_cons, List.map_nil]); first | done | rfl | (simp only [List.length_drop, List.length_take]; rfl)) ?_; (with_reducible refine (impl_isOrder.calls k _ _ l0 true _ ?side1 ?side2 A3.out).mono ?_); (case side1 => repeat (first | exact HR0.out | (with_reducible refine Kd.C_alloc ?_ _) | (with_reducible refine Kd.C_drewN ?_ _) | (with_reducible refine Kd.C_drew ?_))); (case side2 => exact HC0.out); rintro e w' ⟨rfl, ⟨nd, rfl⟩⟩; refine ⟨_, rfl, ?_⟩) | (go_at_call 53; (with_reducible refine (impl_isOrder.calls k _ _ l1 false _ ?side1 ?side2 A5.out).mono ?_); (case side1 => repeat (first | exact HR1.out | (with_reducible refine Kd.C_alloc ?_ _) | (with_reducible refine Kd.C_drewN ?_ _) | (with_reducible refine Kd.C_drew ?_))); (case side2 => exact HC1.out); rintro e w' ⟨rfl, ⟨nd, rfl⟩⟩))
      go_ret
      exact ⟨by first | rfl | (simp; done) | (simp [*]; done), by repeat (first | exact Drawn0.refl _ | apply Drawn0.step)⟩
  · replace c4 := Bool.eq_false_iff.mpr c4
    subst c4
    have H1 : (some false) = some r := by rw [if_neg (show ¬ (false = true) by decide)] at H; exact H
    clear H
    have H := H1
    clear H1
    obtain rfl := Option.some.inj H
    go_enter Try.func61, Try.ntmps61
    go_wp2_with (first | ((with_reducible refine gate_callee (f := 53) rfl ?_); refine goesL_ (some 6) rfl rfl Try.func53 (by kernel_rfl) rfl #[.slice A0 l0.length c0] rfl (by (try simp only [List.map_toArray, List.map_cons, List.map_nil]); first | done | rfl | (simp only [List.length_drop, List.length_take]; rfl)) ?_; (with_reducible refine (impl_isOrder.calls k _ _ l0 false _ ?side1 ?side2 A3.out).mono ?_); (case side1 => repeat (first | exact HR0.out | (with_reducible refine Kd.C_alloc ?_ _) | (with_reducible refine Kd.C_drewN ?_ _) | (with_reducible refine Kd.C_drew ?_))); (case side2 => exact HC0.out); rintro e w' ⟨rfl, ⟨nd, rfl⟩⟩; refine ⟨_, rfl, ?_⟩))
    go_ret
    exact ⟨by first | rfl | (simp; done) | (simp [*]; done), by repeat (first | exact Drawn0.refl _ | apply Drawn0.step)⟩
def slices_Equal_int_int.l0 : Nat → List Int → List Int → Int → Int → Option (Bool)
  | 0, _, _, _, _ => none
  | k + 1, x0, x1, x12, x13 => if x13 < x12 then (if 0 ≤ x13 then (if x13 < (x0.length : Int) then (if x13 < (x1.length : Int) then (if (rd x0 x13) = (rd x1 x13) then (slices_Equal_int_int.l0 k x0 x1 x12 (wrap64 (x13 + 1))) else (some false)) else (none)) else (none)) else (none)) else (some true)
def slices_Equal_int_int.f (k : Nat) (l0 : List Int) (l1 : List Int) : Option (Bool) := if (l0.length : Int) = (l1.length : Int) then (slices_Equal_int_int.l0 k l0 l1 (l0.length : Int) 0) else (some false)
theorem slices_Equal_int_int.mono_l : ∀ k, (∀ y0 y1 y2 y3, LeO (slices_Equal_int_int.l0 k y0 y1 y2 y3) (slices_Equal_int_int.l0 (k + 1) y0 y1 y2 y3))
  | 0 => fun _ _ _ _ r h => by simp [slices_Equal_int_int.l0] at h
  | k + 1 => by
    have ih0 := slices_Equal_int_int.mono_l k
    · intro y0 y1 y2 y3
      unfold slices_Equal_int_int.l0
      repeat' first
      | (with_reducible exact ih0 _ _ _ _)
      | (with_reducible exact LeO.refl _)
      | (with_reducible exact LeO.none _)
      | (with_reducible refine LeO.ite ?_ ?_)
      | (with_reducible refine LeO.bind ?_ (fun _ => ?_))
      | exact ih0 _ _ _ _
      | exact LeO.none _
      | refine LeO.ite ?_ ?_
      | refine LeO.bind ?_ (fun _ => ?_)
theorem slices_Equal_int_int.mono : ∀ a0 a1 k, LeO (slices_Equal_int_int.f k a0 a1) (slices_Equal_int_int.f (k + 1) a0 a1) := by
  intro a0 a1 k
  have ih0 := slices_Equal_int_int.mono_l k
  unfold slices_Equal_int_int.f
  repeat' first
      | (with_reducible exact ih0 _ _ _ _)
      | (with_reducible exact LeO.refl _)
      | (with_reducible exact LeO.none _)
      | (with_reducible refine LeO.ite ?_ ?_)
      | (with_reducible refine LeO.bind ?_ (fun _ => ?_))
      | exact ih0 _ _ _ _
      | exact LeO.none _
      | refine LeO.ite ?_ ?_
      | refine LeO.bind ?_ (fun _ => ?_)
set_option maxHeartbeats 8000000 in
set_option maxRecDepth 100000 in
theorem slices_Equal_int_int.calls (k : Nat) (A0 : Option Addr) (c0 : Nat) (l0 : List Int) (A1 : Option Addr) (c1 : Nat) (l1 : List Int) (r : Bool) (w : World) (hr0 : Kd.C (Kd.int .i64) w A0 l0.length l0) (hc0 : l0.length ≤ c0) (hr1 : Kd.C (Kd.int .i64) w A1 l1.length l1) (hc1 : l1.length ≤ c1) (h : slices_Equal_int_int.f k l0 l1 = some r) :
    Calls Try.prog 73 #[.slice A0 l0.length c0, .slice A1 l1.length c1] w fun e w' => e = .returned (.bool r) ∧ Drawn0 w w' := by
  have HR0 := Aside0.mk hr0
  have HC0 := Aside0.mk hc0
  clear hr0 hc0
  have HR1 := Aside0.mk hr1
  have HC1 := Aside0.mk hc1
  clear hr1 hc1
  have H : (if (l0.length : Int) = (l1.length : Int) then (slices_Equal_int_int.l0 k l0 l1 (l0.length : Int) 0) else (some false)) = some r := h
  clear h
  by_cases c3 : (l0.length : Int) = (l1.length : Int)
  · rw [if_pos c3] at H
    have c3b0 : ((l0.length : Int) == (l1.length : Int)) = true := beq_iff_eq.mpr c3
    have c3b1 : ((l0.length : Int) != (l1.length : Int)) = false := bne_eq_false_iff_eq.mpr c3
    have c3b2 : (l0.length == l1.length) = true := by first | simpa using c3 | (simp at c3 ⊢; omega)
    clear c3
    have H' := Aside0.mk H
    clear H
    go_enter Try.func73, Try.ntmps73
    go_wp2
    repeat (go_quiet (fail); try go_wp2)
    go_loopg [13] k (fun kq v13 w' => ∃ (x13_1 : Int), v13 = .int .i64 x13_1 ∧ Aside0 (slices_Equal_int_int.l0 kq l0 l1 (l0.length : Int) x13_1 = some r) ∧ Aside0 (kq ≤ k) ∧ Drawn0 w w')
    case atStart => exact ⟨(0), (by first | rfl | (simp; done) | (simp [*]; done)), H', ⟨Nat.le_refl _⟩, by repeat (first | exact Drawn0.refl _ | apply Drawn0.step)⟩
    case round =>
      clear H'
      try clear c1
      try clear p2
      try clear c3
      try clear c3b0
      try clear c3b1
      try clear c3b2
      obtain ⟨x13_1, rfl, HA, HK1, ⟨m1, rfl⟩⟩ := hrel
      cases gk with
      | zero => exact absurd HA.out (by simp [slices_Equal_int_int.l0])
      | succ k1 =>
        have H := HA.out
        clear HA
        simp only [slices_Equal_int_int.l0] at H
        by_cases c4 : x13_1 < (l0.length : Int)
        · rw [if_pos c4] at H
          have c4b0 : decide (x13_1 < (l0.length : Int)) = true := decide_eq_true c4
          clear c4
          by_cases c5 : 0 ≤ x13_1
          · rw [if_pos c5] at H
            have c5b0 : decide (0 ≤ x13_1) = true := decide_eq_true c5
            clear c5
            by_cases c6 : x13_1 < (l0.length : Int)
            · rw [if_pos c6] at H
              have c6b0 : decide (x13_1 < (l0.length : Int)) = true := decide_eq_true c6
              clear c6
              by_cases c7 : x13_1 < (l1.length : Int)
              · rw [if_pos c7] at H
                have c7b0 : decide (x13_1 < (l1.length : Int)) = true := decide_eq_true c7
                clear c7
                by_cases c8 : (rd l0 x13_1) = (rd l1 x13_1)
                · rw [if_pos c8] at H
                  have c8b0 : ((rd l0 x13_1) == (rd l1 x13_1)) = true := beq_iff_eq.mpr c8
                  have c8b1 : ((rd l0 x13_1) != (rd l1 x13_1)) = false := bne_eq_false_iff_eq.mpr c8
                  clear c8
                  have H' := Aside0.mk H
                  clear H
                  have p239 : 0 ≤ (x13_1 : Int) := of_decide_eq_true (by first | (with_reducible assumption) | assumption)
                  have q239 : x13_1 < (l0.length : Int) := of_decide_eq_true (by first | (with_reducible assumption) | assumption)
                  obtain ⟨ad239, e239, hx239_0⟩ := Kd.at_int HR0.out x13_1 p239 q239
                  cases e239
                  replace p239 := eq_true p239
                  replace q239 := eq_true q239
                  have p240 : 0 ≤ (x13_1 : Int) := of_decide_eq_true (by first | (with_reducible assumption) | assumption)
                  have q240 : x13_1 < (l1.length : Int) := of_decide_eq_true (by first | (with_reducible assumption) | assumption)
                  obtain ⟨ad240, e240, hx240_0⟩ := Kd.at_int HR1.out x13_1 p240 q240
                  cases e240
                  replace p240 := eq_true p240
                  replace q240 := eq_true q240
                  go_wp2
                  repeat (go_quiet (fail); try go_wp2)
                  go_roundg k1
                  case measure => have := HK1.out; omega
                  case rel => exact ⟨(wrap64 (x13_1 + 1)), (by first | rfl | (simp; done) | (simp [*]; done)), H', ⟨by have := HK1.out; omega⟩, by repeat (first | exact Drawn0.refl _ | apply Drawn0.step)⟩
                · rw [if_neg c8] at H
                  have c8b0 : ((rd l0 x13_1) == (rd l1 x13_1)) = false := beq_eq_false_iff_ne.mpr c8
                  have c8b1 : ((rd l0 x13_1) != (rd l1 x13_1)) = true := bne_iff_ne.mpr c8
                  obtain rfl := Option.some.inj H
                  have p239 : 0 ≤ (x13_1 : Int) := of_decide_eq_true (by first | (with_reducible assumption) | assumption)
                  have q239 : x13_1 < (l0.length : Int) := of_decide_eq_true (by first | (with_reducible assumption) | assumption)
                  obtain ⟨ad239, e239, hx239_0⟩ := Kd.at_int HR0.out x13_1 p239 q239
                  cases e239
                  replace p239 := eq_true p239
                  replace q239 := eq_true q239
                  have p240 : 0 ≤ (x13_1 : Int) := of_decide_eq_true (by first | (with_reducible assumption) | assumption)
                  have q240 : x13_1 < (l1.length : Int) := of_decide_eq_true (by first | (with_reducible assumption) | assumption)
                  obtain ⟨ad240, e240, hx240_0⟩ := Kd.at_int HR1.out x13_1 p240 q240
                  cases e240
                  replace p240 := eq_true p240
                  replace q240 := eq_true q240
                  go_wp2
                  repeat (go_quiet (fail); try go_wp2)
                  go_ret
                  exact ⟨by first | rfl | (simp; done) | (simp [*]; done), by repeat (first | exact Drawn0.refl _ | apply Drawn0.step)⟩
              · rw [if_neg c7] at H
                exact absurd H (by simp)
            · rw [if_neg c6] at H
              exact absurd H (by simp)
          · rw [if_neg c5] at H
            exact absurd H (by simp)
        · rw [if_neg c4] at H
          have c4b0 : decide (x13_1 < (l0.length : Int)) = false := decide_eq_false c4
          clear c4
          obtain rfl := Option.some.inj H
          go_wp2
          repeat (go_quiet (fail); try go_wp2)
          go_ret
          exact ⟨by first | rfl | (simp; done) | (simp [*]; done), by repeat (first | exact Drawn0.refl _ | apply Drawn0.step)⟩
  · rw [if_neg c3] at H
    have c3b0 : ((l0.length : Int) == (l1.length : Int)) = false := beq_eq_false_iff_ne.mpr c3
    have c3b1 : ((l0.length : Int) != (l1.length : Int)) = true := bne_iff_ne.mpr c3
    have c3b2 : (l0.length == l1.length) = false := by first | simpa using c3 | (simp at c3 ⊢; omega)
    obtain rfl := Option.some.inj H
    go_enter Try.func73, Try.ntmps73
    go_wp2
    repeat (go_quiet (fail); try go_wp2)
    go_ret
    exact ⟨by first | rfl | (simp; done) | (simp [*]; done), by repeat (first | exact Drawn0.refl _ | apply Drawn0.step)⟩
end Go.Proofs.Ytbnieikbjmfhgaa.PFnCuts
