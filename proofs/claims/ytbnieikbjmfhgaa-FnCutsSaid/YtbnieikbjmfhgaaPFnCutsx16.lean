-- laid by mkprint.py, a program of this claim's writer, over the kit's print program; parts of it are typed by hand
import Derived.Test.YtbnieikbjmfhgaaPFnCutsx0
import Derived.Test.YtbnieikbjmfhgaaPFnCutsx1
import Derived.Test.YtbnieikbjmfhgaaPFnCutsx3
import Derived.Test.YtbnieikbjmfhgaaPFnCutsx5
import Derived.Test.YtbnieikbjmfhgaaPFnCutsx6
import Derived.Test.YtbnieikbjmfhgaaPFnCutsx8
import Derived.Test.YtbnieikbjmfhgaaPFnCutsx9
import Derived.Test.YtbnieikbjmfhgaaPFnCutsx12
namespace Go.Proofs.Ytbnieikbjmfhgaa.PFnCuts
open Go.RowKit Go.Proofs.YtbnieikbjmfhgaaW.PrintWords Go.Proofs.YtbnieikbjmfhgaaW.PrintLast Go.Proofs.YtbnieikbjmfhgaaW.PrintMore
attribute [local go_sem] max2_int min2_int max_two min_two max_three min_three max_four min_four
set_option linter.unusedVariables false
set_option linter.unusedSimpArgs false
def spec_DrawTwoCuts.f (k : Nat) (l0 : List Int) : Option (List Int × List Int) := (spec_DrawCutsTo.f k l0).bind fun tl1 => (spec_l1Cur_cuts.f k l0 0 0 ((tl1.2.length : Int))).bind fun tl4 => (spec_l2Order.f k tl1.2).bind fun tb8 => (if tb8 = true then (spec_l6Cuts.f k ((tl1.2.length : Int)) tl4.1).bind fun tb10 => (if tb10 = true then (spec_l6Run.f k tl1.2 tl4.1).bind fun tl12 => some (tl1.1, tl12) else some (tl1.1, tl1.2)) else some (tl1.1, tl1.2))
theorem spec_DrawTwoCuts.mono : ∀ a0 k, LeO (spec_DrawTwoCuts.f k a0) (spec_DrawTwoCuts.f (k + 1) a0) := by
  intro a0 k
  unfold spec_DrawTwoCuts.f
  repeat' first
    | (with_reducible exact spec_DrawCutsTo.mono _ _)
    | (with_reducible exact spec_l1Cur_cuts.mono _ _ _ _ _)
    | (with_reducible exact spec_l2Order.mono _ _)
    | (with_reducible exact spec_l6Cuts.mono _ _ _)
    | (with_reducible exact spec_l6Run.mono _ _ _)
    | (with_reducible exact LeO.refl _)
    | (with_reducible exact LeO.none _)
    | (with_reducible refine LeO.ite ?_ ?_)
    | (with_reducible refine LeO.bind ?_ (fun _ => ?_))
    | refine LeO.ite ?_ ?_
    | refine LeO.bind ?_ (fun _ => ?_)
set_option maxHeartbeats 8000000 in
set_option maxRecDepth 100000 in
theorem spec_DrawTwoCuts.calls (k : Nat) (A0 : Option Addr) (c0 : Nat) (l0 : List Int) (r1 : List Int) (r2 : List Int) (w0 : World) (hr0 : Kd.C (Kd.int .u8) w0 A0 l0.length l0) (hc0 : l0.length ≤ c0) (h : spec_DrawTwoCuts.f k l0 = some (r1, r2)) :
    Calls Try.prog 24 #[.slice A0 l0.length c0] w0 fun e w' => ∃ v0_ v1_ : Value, e = .returned (.tuple #[v0_, v1_]) ∧ Kd.R (Kd.int .i64) 3 w' w0.heap.size (fun k_ => some k_ ≠ (v1_ : Value).ownBlock) v0_ r1 ∧ Kd.R (Kd.int .i64) 3 w' w0.heap.size (fun k_ => some k_ ≠ (v0_ : Value).ownBlock) v1_ r2 ∧ Below w0.heap.size w0 w' := by
  have HB := Aside0.mk (Below.refl w0.heap.size w0)
  have HR0 := Aside0.mk hr0
  have HC0 := Aside0.mk hc0
  have H := Aside0.mk h
  clear hr0 hc0 h
  unfold spec_DrawTwoCuts.f at H
  go_enter Try.func24, Try.ntmps24
  (repeat ((fail_if_success (with_reducible refine gate_dst (N := 10) rfl ?_)); first | go_values | go_skip | go_guarded | go_step | go_upon))
  refine box_event ?hg (N := 10) ?hd (cs := #[.slice A0 l0.length c0, .int .i64 0, .int .u64 0]) (t := 59) ?hr ?_
  case hd => rfl
  case hg => rfl
  case hr => first | (go_simp; done) | (go_simp; rfl)
  intro g hg w1 hbox hb
  have HI := Aside0.mk (show IsS59 w0 w1 g l0 0 0 from ⟨A0, c0, hbox, by rw [hg]; exact below_size HB.out, HR0.out⟩)
  have nb_ := Aside0.mk (below_step HB.out hb)
  clear HB hg hb hbox
  have HB := nb_
  clear nb_
  have h0_ := H.out
  clear H
  obtain ⟨⟨l1, l2⟩, h_, h⟩ := Option.bind_eq_some_iff.1 h0_
  have H3 := Aside0.mk h_
  clear h_ h0_
  (try dsimp only at h)
  have H := Aside0.mk h
  clear h
  (repeat ((fail_if_success (with_reducible refine gate_dst (N := 13) rfl ?_)); first | go_values | go_skip | go_guarded | go_step | go_upon))
  refine goesL_ (some 13) rfl rfl Try.func13 (by kernel_rfl) rfl #[.slice A0 l0.length c0] rfl (by (try simp only [List.map_toArray, List.map_cons, List.map_nil]); first | done | rfl) ?_
  refine (spec_DrawCutsTo.calls k A0 c0 l0 l1 l2 _ (Kd.C_below HR0.out HB.out) HC0.out H3.out).mono ?_
  rintro e w2 ⟨v0_, v1_, rfl, ho0, ho1, hb⟩
  refine ⟨_, rfl, ?_⟩
  obtain ⟨AO, cO, e_O⟩ := Kd.R_slice ho0
  subst e_O
  have nnO_ := Aside0.mk (Kd.R_lower (Kd.R_mono (ok' := fun k_ => k_ ≠ g) (Kd.R_bound ho0) (fun k_ h_ => by have h1_ := HI.out.lt; have h2_ := h_.2.1; exact fun h3_ => by omega)) HB.out.size)
  obtain ⟨AG, cG, e_G⟩ := Kd.R_slice ho1
  subst e_G
  have nnG_ := Aside0.mk (Kd.R_lower (Kd.R_mono (ok' := fun k_ => k_ ≠ g) (Kd.R_bound ho1) (fun k_ h_ => by have h1_ := HI.out.lt; have h2_ := h_.2.1; exact fun h3_ => by omega)) HB.out.size)
  have APOG := Aside0.mk (show ∀ q_, (Value.slice AO _ cO).ownBlock = some q_ → ¬ (Value.slice AG _ cG).ownBlock = some q_ from fun q_ h1_ h2_ => ho0.1 q_ h1_ h2_.symm)
  clear ho0 ho1
  have ni_ := Aside0.mk (HI.out.below hb)
  have nb_ := Aside0.mk (below_step HB.out hb)
  clear HB hb HI
  have HB := nb_
  clear nb_
  have HI := ni_
  clear ni_
  have O := nnO_
  clear nnO_
  have G := nnG_
  clear nnG_
  have h0_ := H.out
  clear H
  obtain ⟨⟨l4, p5, q6⟩, h_, h⟩ := Option.bind_eq_some_iff.1 h0_
  have H7 := Aside0.mk h_
  clear h_ h0_
  (try dsimp only at h)
  have H := Aside0.mk h
  clear h
  (repeat ((fail_if_success (with_reducible refine gate_dst (N := 19) rfl ?_)); first | go_values | go_skip | go_guarded | go_step | go_upon))
  refine goesL_ (some 19) rfl rfl Try.func52 (by kernel_rfl) rfl #[.pointer (some ⟨g, 0, none⟩), .int .i64 (l2.length : Int)] rfl (by (try simp only [List.map_toArray, List.map_cons, List.map_nil]); first | done | rfl) ?_
  refine (spec_l1Cur_cuts.calls k g l0 0 0 ((l2.length : Int)) l4 p5 q6 w0 _ HI.out HB.out H7.out).mono ?_
  rintro e w3 ⟨v0_, rfl, ho0, hi, hb, hk⟩
  refine ⟨_, rfl, ?_⟩
  obtain ⟨AC, cC, e_C⟩ := Kd.R_slice ho0
  subst e_C
  have nnC_ := Aside0.mk (Kd.R_lower (Kd.R_mono (ok' := fun k_ => k_ ≠ g) (Kd.R_bound ho0) (fun k_ h_ => by have h1_ := HI.out.lt; have h2_ := h_.2.1; exact fun h3_ => by omega)) HB.out.size)
  have APOC := Aside0.mk (show ∀ q_, (Value.slice AO l1.length cO).ownBlock = some q_ → ¬ (Value.slice AC _ cC).ownBlock = some q_ from fun q_ h1_ h2_ => by have h3_ := ((Kd.R_bound O.out).1 q_ h1_).2.2.1; have h4_ := ((Kd.R_bound ho0).1 q_ h2_).2.1; omega)
  have APGC := Aside0.mk (show ∀ q_, (Value.slice AG l2.length cG).ownBlock = some q_ → ¬ (Value.slice AC _ cC).ownBlock = some q_ from fun q_ h1_ h2_ => by have h3_ := ((Kd.R_bound G.out).1 q_ h1_).2.2.1; have h4_ := ((Kd.R_bound ho0).1 q_ h2_).2.1; omega)
  clear ho0
  have nO_ := Aside0.mk (Kd.R_keep O.out hk (fun _ h_ => h_))
  have nG_ := Aside0.mk (Kd.R_keep G.out hk (fun _ h_ => h_))
  clear HI HB hk O G
  have HI := Aside0.mk hi
  have HB := Aside0.mk hb
  clear hi hb
  have O := nO_
  clear nO_
  have G := nG_
  clear nG_
  have C := nnC_
  clear nnC_
  have h0_ := H.out
  clear H
  obtain ⟨b8, h_, h⟩ := Option.bind_eq_some_iff.1 h0_
  have H9 := Aside0.mk h_
  clear h_ h0_
  (try dsimp only at h)
  have H := Aside0.mk h
  clear h
  (repeat ((fail_if_success (with_reducible refine gate_dst (N := 21) rfl ?_)); first | go_values | go_skip | go_guarded | go_step | go_upon))
  refine goesL_ (some 21) rfl rfl Try.func56 (by kernel_rfl) rfl #[.slice AG l2.length cG] rfl (by (try simp only [List.map_toArray, List.map_cons, List.map_nil]); first | done | rfl) ?_
  refine (spec_l2Order.calls k AG cG l2 b8 _ (Kd.R_reads' G.out).2.2 (Kd.R_reads' G.out).2.1 H9.out).mono ?_
  rintro e w4 ⟨rfl, hdr⟩
  have hb := hdr.below
  clear hdr
  refine ⟨_, rfl, ?_⟩
  have nO_ := Aside0.mk (Kd.R_below O.out hb)
  have nG_ := Aside0.mk (Kd.R_below G.out hb)
  have nC_ := Aside0.mk (Kd.R_below C.out hb)
  have ni_ := Aside0.mk (HI.out.below hb)
  have nb_ := Aside0.mk (below_step HB.out hb)
  clear HB hb HI  O G C
  have HB := nb_
  clear nb_
  have HI := ni_
  clear ni_
  have O := nO_
  clear nO_
  have G := nG_
  clear nG_
  have C := nC_
  clear nC_
  have h := H.out
  clear H
  cases b8 with
  | true =>
    rw [if_pos rfl] at h
    have H := Aside0.mk h
    clear h
    have h0_ := H.out
    clear H
    obtain ⟨b10, h_, h⟩ := Option.bind_eq_some_iff.1 h0_
    have H11 := Aside0.mk h_
    clear h_ h0_
    (try dsimp only at h)
    have H := Aside0.mk h
    clear h
    (repeat ((fail_if_success (with_reducible refine gate_dst (N := 26) rfl ?_)); first | go_values | go_skip | go_guarded | go_step | go_upon))
    refine goesG_ (some 26) rfl rfl Try.func57 (by kernel_rfl) rfl #[.int .i64 (l2.length : Int), .slice AC l4.length cC] rfl (by (try simp only [List.map_toArray, List.map_cons, List.map_nil]); first | done | rfl) ?_
    refine (spec_l6Cuts.calls k ((l2.length : Int)) AC cC l4 b10 _ (Kd.R_reads' C.out).2.2 (Kd.R_reads' C.out).2.1 H11.out).mono ?_
    rintro e w5 ⟨rfl, hdr⟩
    have hb := hdr.below
    clear hdr
    refine ⟨_, rfl, ?_⟩
    have nO_ := Aside0.mk (Kd.R_below O.out hb)
    have nG_ := Aside0.mk (Kd.R_below G.out hb)
    have nC_ := Aside0.mk (Kd.R_below C.out hb)
    have ni_ := Aside0.mk (HI.out.below hb)
    have nb_ := Aside0.mk (below_step HB.out hb)
    clear HB hb HI  O G C
    have HB := nb_
    clear nb_
    have HI := ni_
    clear ni_
    have O := nO_
    clear nO_
    have G := nG_
    clear nG_
    have C := nC_
    clear nC_
    have h := H.out
    clear H
    cases b10 with
    | true =>
      rw [if_pos rfl] at h
      have H := Aside0.mk h
      clear h
      have h0_ := H.out
      clear H
      obtain ⟨l12, h_, h⟩ := Option.bind_eq_some_iff.1 h0_
      have H13 := Aside0.mk h_
      clear h_ h0_
      (try dsimp only at h)
      have H := Aside0.mk h
      clear h
      (repeat ((fail_if_success (with_reducible refine gate_dst (N := 31) rfl ?_)); first | go_values | go_skip | go_guarded | go_step | go_upon))
      refine goesL_ (some 31) rfl rfl Try.func58 (by kernel_rfl) rfl #[.slice AG l2.length cG, .slice AC l4.length cC] rfl (by (try simp only [List.map_toArray, List.map_cons, List.map_nil]); first | done | rfl) ?_
      refine (spec_l6Run.calls k AG cG l2 AC cC l4 l12 _ (Kd.R_reads' G.out).2.2 (Kd.R_reads' G.out).2.1 (Kd.R_reads' C.out).2.2 (Kd.R_reads' C.out).2.1 H13.out).mono ?_
      rintro e w6 ⟨v0_, rfl, ho0, hb⟩
      refine ⟨_, rfl, ?_⟩
      obtain ⟨AX, cX, e_X⟩ := Kd.R_slice ho0
      subst e_X
      have nnX_ := Aside0.mk (Kd.R_lower (Kd.R_mono (ok' := fun k_ => k_ ≠ g) (Kd.R_bound ho0) (fun k_ h_ => by have h1_ := HI.out.lt; have h2_ := h_.2.1; exact fun h3_ => by omega)) HB.out.size)
      have APOX := Aside0.mk (show ∀ q_, (Value.slice AO l1.length cO).ownBlock = some q_ → ¬ (Value.slice AX _ cX).ownBlock = some q_ from fun q_ h1_ h2_ => by have h3_ := ((Kd.R_bound O.out).1 q_ h1_).2.2.1; have h4_ := ((Kd.R_bound ho0).1 q_ h2_).2.1; omega)
      have APGX := Aside0.mk (show ∀ q_, (Value.slice AG l2.length cG).ownBlock = some q_ → ¬ (Value.slice AX _ cX).ownBlock = some q_ from fun q_ h1_ h2_ => by have h3_ := ((Kd.R_bound G.out).1 q_ h1_).2.2.1; have h4_ := ((Kd.R_bound ho0).1 q_ h2_).2.1; omega)
      have APCX := Aside0.mk (show ∀ q_, (Value.slice AC l4.length cC).ownBlock = some q_ → ¬ (Value.slice AX _ cX).ownBlock = some q_ from fun q_ h1_ h2_ => by have h3_ := ((Kd.R_bound C.out).1 q_ h1_).2.2.1; have h4_ := ((Kd.R_bound ho0).1 q_ h2_).2.1; omega)
      clear ho0
      have nO_ := Aside0.mk (Kd.R_below O.out hb)
      have nG_ := Aside0.mk (Kd.R_below G.out hb)
      have nC_ := Aside0.mk (Kd.R_below C.out hb)
      have ni_ := Aside0.mk (HI.out.below hb)
      have nb_ := Aside0.mk (below_step HB.out hb)
      clear HB hb HI  O G C
      have HB := nb_
      clear nb_
      have HI := ni_
      clear ni_
      have O := nO_
      clear nO_
      have G := nG_
      clear nG_
      have C := nC_
      clear nC_
      have X := nnX_
      clear nnX_
      have h := H.out
      clear H
      obtain ⟨rfl, rfl⟩ := (by simpa only [Option.some.injEq, Prod.mk.injEq] using h)
      clear h
      go_wp2
      go_ret2
      exact ⟨_, _, rfl, Kd.R_mono (Kd.R_tight rfl O.out) (fun q_ h_ he_ => APOX.out q_ h_.symm he_.symm), Kd.R_mono (Kd.R_tight rfl X.out) (fun q_ h_ he_ => APOX.out q_ he_.symm h_.symm), HB.out⟩
    | false =>
      rw [if_neg (by simp)] at h
      have H := Aside0.mk h
      clear h
      have h := H.out
      clear H
      obtain ⟨rfl, rfl⟩ := (by simpa only [Option.some.injEq, Prod.mk.injEq] using h)
      clear h
      go_wp2
      go_ret2
      exact ⟨_, _, rfl, Kd.R_mono (Kd.R_tight rfl O.out) (fun q_ h_ he_ => APOG.out q_ h_.symm he_.symm), Kd.R_mono (Kd.R_tight rfl G.out) (fun q_ h_ he_ => APOG.out q_ he_.symm h_.symm), HB.out⟩
  | false =>
    rw [if_neg (by simp)] at h
    have H := Aside0.mk h
    clear h
    have h := H.out
    clear H
    obtain ⟨rfl, rfl⟩ := (by simpa only [Option.some.injEq, Prod.mk.injEq] using h)
    clear h
    go_wp2
    go_ret2
    exact ⟨_, _, rfl, Kd.R_mono (Kd.R_tight rfl O.out) (fun q_ h_ he_ => APOG.out q_ h_.symm he_.symm), Kd.R_mono (Kd.R_tight rfl G.out) (fun q_ h_ he_ => APOG.out q_ he_.symm h_.symm), HB.out⟩
def impl_TwoCuts.l0 : Nat → List Int → List Int → List (List Int) → Int → Int → Option (List Int × List Int × Bool)
  | 0, _, _, _, _, _ => none
  | k + 1, x0, x1, x17, x18, x19 => if x19 < x18 then (if 0 ≤ x19 then (if x19 < (x17.length : Int) then ((impl_runCuts.f k x0 (rd_L5 x17 x19)).bind fun t396 => ((impl_cutsTo.f k t396 x1).bind fun bt399 => (if bt399.2 = true then (some (rd_L5 x17 x19, bt399.1, true)) else (impl_TwoCuts.l0 k x0 x1 x17 x18 (wrap64 (x19 + 1)))))) else (none)) else (none)) else (some (([] : List Int), ([] : List Int), false))
def impl_TwoCuts.f (k : Nat) (l0 : List Int) (l1 : List Int) : Option (List Int × List Int × Bool) := (impl_areOrders.f k l0 l1).bind fun t391 => (if t391 = true then ((impl_allCuts.f k (l0.length : Int)).bind fun t392 => (impl_TwoCuts.l0 k l0 l1 t392 (t392.length : Int) 0)) else (some (([] : List Int), ([] : List Int), false)))
theorem impl_TwoCuts.mono_l : ∀ k, (∀ y0 y1 y2 y3 y4, LeO (impl_TwoCuts.l0 k y0 y1 y2 y3 y4) (impl_TwoCuts.l0 (k + 1) y0 y1 y2 y3 y4))
  | 0 => fun _ _ _ _ _ r h => by simp [impl_TwoCuts.l0] at h
  | k + 1 => by
    have ih0 := impl_TwoCuts.mono_l k
    · intro y0 y1 y2 y3 y4
      unfold impl_TwoCuts.l0
      repeat' first
      | (with_reducible exact ih0 _ _ _ _ _)
      | (with_reducible exact impl_allCuts.mono _ _)
      | (with_reducible exact impl_areOrders.mono _ _ _)
      | (with_reducible exact impl_cutsTo.mono _ _ _)
      | (with_reducible exact impl_runCuts.mono _ _ _)
      | (with_reducible exact LeO.refl _)
      | (with_reducible exact LeO.none _)
      | (with_reducible refine LeO.ite ?_ ?_)
      | (with_reducible refine LeO.bind ?_ (fun _ => ?_))
      | exact ih0 _ _ _ _ _
      | exact impl_allCuts.mono _ _
      | exact impl_areOrders.mono _ _ _
      | exact impl_cutsTo.mono _ _ _
      | exact impl_runCuts.mono _ _ _
      | exact LeO.none _
      | refine LeO.ite ?_ ?_
      | refine LeO.bind ?_ (fun _ => ?_)
theorem impl_TwoCuts.mono : ∀ a0 a1 k, LeO (impl_TwoCuts.f k a0 a1) (impl_TwoCuts.f (k + 1) a0 a1) := by
  intro a0 a1 k
  have ih0 := impl_TwoCuts.mono_l k
  unfold impl_TwoCuts.f
  repeat' first
      | (with_reducible exact ih0 _ _ _ _ _)
      | (with_reducible exact impl_allCuts.mono _ _)
      | (with_reducible exact impl_areOrders.mono _ _ _)
      | (with_reducible exact impl_cutsTo.mono _ _ _)
      | (with_reducible exact impl_runCuts.mono _ _ _)
      | (with_reducible exact LeO.refl _)
      | (with_reducible exact LeO.none _)
      | (with_reducible refine LeO.ite ?_ ?_)
      | (with_reducible refine LeO.bind ?_ (fun _ => ?_))
      | exact ih0 _ _ _ _ _
      | exact impl_allCuts.mono _ _
      | exact impl_areOrders.mono _ _ _
      | exact impl_cutsTo.mono _ _ _
      | exact impl_runCuts.mono _ _ _
      | exact LeO.none _
      | refine LeO.ite ?_ ?_
      | refine LeO.bind ?_ (fun _ => ?_)
set_option maxHeartbeats 8000000 in
set_option maxRecDepth 100000 in
theorem impl_TwoCuts.calls (k : Nat) (A0 : Option Addr) (c0 : Nat) (l0 : List Int) (A1 : Option Addr) (c1 : Nat) (l1 : List Int) (r1 : List Int) (r2 : List Int) (r3 : Bool) (w : World) (hr0 : Kd.C (Kd.int .i64) w A0 l0.length l0) (hc0 : l0.length ≤ c0) (hr1 : Kd.C (Kd.int .i64) w A1 l1.length l1) (hc1 : l1.length ≤ c1) (h : impl_TwoCuts.f k l0 l1 = some (r1, r2, r3)) :
    Calls Try.prog 25 #[.slice A0 l0.length c0, .slice A1 l1.length c1] w fun e w' => ∃ v0_ v1_ : Value, e = .returned (.tuple #[v0_, v1_, .bool r3]) ∧ Kd.R (Kd.int .i64) 3 w' w.heap.size (fun k_ => some k_ ≠ (v1_ : Value).ownBlock) v0_ r1 ∧ Kd.R (Kd.int .i64) 3 w' w.heap.size (fun k_ => some k_ ≠ (v0_ : Value).ownBlock) v1_ r2 ∧ Below w.heap.size w w' := by
  have HR0 := Aside0.mk hr0
  have HC0 := Aside0.mk hc0
  clear hr0 hc0
  have HR1 := Aside0.mk hr1
  have HC1 := Aside0.mk hc1
  clear hr1 hc1
  have HB := Aside0.mk (Below.refl w.heap.size w)
  have H : ((impl_areOrders.f k l0 l1).bind fun t391 => (if t391 = true then ((impl_allCuts.f k (l0.length : Int)).bind fun t392 => (impl_TwoCuts.l0 k l0 l1 t392 (t392.length : Int) 0)) else (some (([] : List Int), ([] : List Int), false)))) = some (r1, r2, r3) := h
  clear h
  replace H := Option.bind_eq_some_iff.mp H
  obtain ⟨t391, A30, H⟩ := H
  replace H : (if t391 = true then ((impl_allCuts.f k (l0.length : Int)).bind fun t392 => (impl_TwoCuts.l0 k l0 l1 t392 (t392.length : Int) 0)) else (some (([] : List Int), ([] : List Int), false))) = some (r1, r2, r3) := H
  have A3 := Aside0.mk A30
  clear A30
  by_cases c4 : t391 = true
  · subst c4
    have H1 : ((impl_allCuts.f k (l0.length : Int)).bind fun t392 => (impl_TwoCuts.l0 k l0 l1 t392 (t392.length : Int) 0)) = some (r1, r2, r3) := by rw [if_pos rfl] at H; exact H
    clear H
    have H := H1
    clear H1
    replace H := Option.bind_eq_some_iff.mp H
    obtain ⟨t392, A50, H⟩ := H
    replace H : (impl_TwoCuts.l0 k l0 l1 t392 (t392.length : Int) 0) = some (r1, r2, r3) := H
    have A5 := Aside0.mk A50
    clear A50
    have H' := Aside0.mk H
    clear H
    go_enter Try.func25, Try.ntmps25
    go_wp2_with (first | ((with_reducible refine gate_callee (f := 61) rfl ?_); refine goesL_ (some 13) rfl rfl Try.func61 (by kernel_rfl) rfl #[.slice A0 l0.length c0, .slice A1 l1.length c1] rfl (by (try simp only [List.map_toArray, List.map_cons, List.map_nil]); first | done | rfl | (simp only [List.length_drop, List.length_take]; rfl)) ?_; (with_reducible refine (impl_areOrders.calls k _ _ l0 _ _ l1 true _ ?side1 ?side2 ?side3 ?side4 A3.out).mono ?_); (case side1 => repeat (first | exact HR0.out | (with_reducible refine Kd.C_alloc ?_ _) | (with_reducible refine Kd.C_drewN ?_ _) | (with_reducible refine Kd.C_drew ?_))); (case side2 => exact HC0.out); (case side3 => repeat (first | exact HR1.out | (with_reducible refine Kd.C_alloc ?_ _) | (with_reducible refine Kd.C_drewN ?_ _) | (with_reducible refine Kd.C_drew ?_))); (case side4 => exact HC1.out); rintro e w' ⟨rfl, ⟨nd, rfl⟩⟩; refine ⟨_, rfl, ?_⟩) | ((with_reducible refine gate_callee (f := 68) rfl ?_); refine goesL_ (some 17) rfl rfl Try.func68 (by kernel_rfl) rfl #[.int .i64 (l0.length : Int)] rfl (by (try simp only [List.map_toArray, List.map_cons, List.map_nil]); first | done | rfl | (simp only [List.length_drop, List.length_take]; rfl)) ?_; (with_reducible refine (impl_allCuts.calls k (l0.length : Int) t392 _ A5.out).mono ?_); rintro e w6 ⟨v393, rfl, ho0, hb⟩; refine ⟨_, rfl, ?_⟩; have n0_ := Aside0.mk (Kd.S_lower ho0 (below_size (by repeat (first | (with_reducible first | exact HB.out | apply below_alloc | apply pw_below_drewN | apply below_drew1) | exact HB.out)))); have n1_ := Aside0.mk (below_step (by repeat (first | (with_reducible first | exact HB.out | apply below_alloc | apply pw_below_drewN | apply below_drew1) | exact HB.out)) hb); clear HB; have HO394 := n0_; have HB := n1_; clear n0_ n1_; (try clear hb); (try clear hb2); (try clear hk); (try clear hi); (try clear ho0); obtain ⟨Ao7, co7, eo7⟩ := Kd.S_slice HO394.out; subst eo7))
    go_loopg [19] k (fun kq v19 w' => ∃ (x19_1 : Int), v19 = .int .i64 x19_1 ∧ Aside0 (impl_TwoCuts.l0 kq l0 l1 t392 (t392.length : Int) x19_1 = some (r1, r2, r3)) ∧ Aside0 (kq ≤ k) ∧ Aside0 (Kd.S (Kd.slice 3 (Kd.int .i64)) 24 w' w.heap.size (fun _ => True) (.slice Ao7 t392.length co7) t392) ∧ Aside0 (Below w.heap.size w w'))
    case atStart => exact ⟨(0), (by first | rfl | (simp; done) | (simp [*]; done)), H', ⟨Nat.le_refl _⟩, ⟨by (with_reducible repeat (first | apply Kd.S_alloc | apply Kd.S_drewN | apply Kd.S_drew)); exact HO394.out⟩, ⟨by repeat (first | (with_reducible first | exact HB.out | apply below_alloc | apply pw_below_drewN | apply below_drew1) | exact HB.out)⟩⟩
    case round =>
      clear H'
      try clear c1
      try clear c2
      try clear p2
      try clear c4
      try clear c6
      obtain ⟨x19_1, rfl, HA, HK1, HO_17, HB⟩ := hrel
      cases gk with
      | zero => exact absurd HA.out (by simp [impl_TwoCuts.l0])
      | succ k1 =>
        have H := HA.out
        clear HA
        simp only [impl_TwoCuts.l0] at H
        by_cases c8 : x19_1 < (t392.length : Int)
        · rw [if_pos c8] at H
          have c8b0 : decide (x19_1 < (t392.length : Int)) = true := decide_eq_true c8
          clear c8
          by_cases c9 : 0 ≤ x19_1
          · rw [if_pos c9] at H
            have c9b0 : decide (0 ≤ x19_1) = true := decide_eq_true c9
            clear c9
            by_cases c10 : x19_1 < (t392.length : Int)
            · rw [if_pos c10] at H
              have c10b0 : decide (x19_1 < (t392.length : Int)) = true := decide_eq_true c10
              clear c10
              replace H := Option.bind_eq_some_iff.mp H
              obtain ⟨t396, A110, H⟩ := H
              replace H : ((impl_cutsTo.f k1 t396 l1).bind fun bt399 => (if bt399.2 = true then (some (rd_L5 t392 x19_1, bt399.1, true)) else (impl_TwoCuts.l0 k1 l0 l1 t392 (t392.length : Int) (wrap64 (x19_1 + 1))))) = some (r1, r2, r3) := H
              have A11 := Aside0.mk A110
              clear A110
              replace H := Option.bind_eq_some_iff.mp H
              obtain ⟨⟨t399, t402⟩, A120, H⟩ := H
              replace H : (if t402 = true then (some (rd_L5 t392 x19_1, t399, true)) else (impl_TwoCuts.l0 k1 l0 l1 t392 (t392.length : Int) (wrap64 (x19_1 + 1)))) = some (r1, r2, r3) := H
              have A12 := Aside0.mk A120
              clear A120
              by_cases c13 : t402 = true
              · subst c13
                have H1 : (some (rd_L5 t392 x19_1, t399, true)) = some (r1, r2, r3) := by rw [if_pos rfl] at H; exact H
                clear H
                have H := H1
                clear H1
                simp only [Option.some.injEq, Prod.mk.injEq] at H
                obtain ⟨rfl, rfl, rfl⟩ := H
                have p395 : 0 ≤ (x19_1 : Int) := of_decide_eq_true (by first | (with_reducible assumption) | assumption)
                have q395 : x19_1 < (t392.length : Int) := of_decide_eq_true (by first | (with_reducible assumption) | assumption)
                obtain ⟨ad395, A395_0, c395_0, e395, hx395_0, hl395_0, hi395_0⟩ := at_L5 (Kd.S_reads' HO_17.out).2.2 x19_1 p395 q395
                cases e395
                obtain ⟨ce395, hce395, hMe395, hcc395⟩ := Kd.S_get HO_17.out [] x19_1 p395 (by first | exact q395 | exact of_decide_eq_true (by first | (with_reducible assumption) | assumption) | (have e_ := (Kd.S_reads' HO_17.out).1; omega))
                obtain ⟨ve395_0, rfl, ge395_0⟩ := hMe395
                have hv395_0 := hcc395 0 _ rfl
                rw [Nat.add_zero, show ((Kd.slice 3 (Kd.int .i64))).sz = 1 from rfl, Nat.mul_one] at hv395_0
                replace hv395_0 := Option.some.inj (hv395_0.symm.trans hx395_0)
                rw [hv395_0] at ge395_0
                have HL395_0 := Aside0.mk (show Kd.R (Kd.int .i64) 3 _ _ _ _ (rd_L5 t392 x19_1) from ge395_0)
                clear hv395_0 ge395_0
                clear hcc395 hce395
                have HR395_0 := Aside0.mk hi395_0
                have HC395_0 := Aside0.mk hl395_0
                clear hi395_0 hl395_0
                replace p395 := eq_true p395
                replace q395 := eq_true q395
                go_wp2_with (first | ((with_reducible refine gate_callee (f := 55) rfl ?_); refine goesL_ (some 26) rfl rfl Try.func55 (by kernel_rfl) rfl #[.slice A0 l0.length c0, .slice A395_0 (rd_L5 t392 x19_1).length c395_0] rfl (by (try simp only [List.map_toArray, List.map_cons, List.map_nil]); first | done | rfl | (simp only [List.length_drop, List.length_take]; rfl)) ?_; (with_reducible refine (impl_runCuts.calls k1 (fun k_ => k_ < w.heap.size) _ _ l0 _ _ (rd_L5 t392 x19_1) t396 _ ?side1 ?side2 ?side3 A11.out).mono ?_); (case side1 => exact Kd.V_mk HC0.out (Kd.F_below (Kd.C_F (Kd.heap_int .i64) HR0.out) (by repeat (first | (with_reducible first | exact HB.out | apply below_alloc | apply pw_below_drewN | apply below_drew1) | exact HB.out)))); (case side2 => repeat (first | exact (by repeat (first | (with_reducible exact HR395_0.out) | (with_reducible refine Kd.C_alloc ?_ _) | (with_reducible refine Kd.C_drewN ?_ _) | (with_reducible refine Kd.C_drew ?_) | exact HR395_0.out)) | (with_reducible refine Kd.C_alloc ?_ _) | (with_reducible refine Kd.C_drewN ?_ _) | (with_reducible refine Kd.C_drew ?_))); (case side3 => exact HC395_0.out); rintro e w14 ⟨v397, rfl, ho0, hb⟩; refine ⟨_, rfl, ?_⟩; have n0_ := Aside0.mk (Kd.S_elder' (by (with_reducible repeat (first | apply Kd.S_alloc | apply Kd.S_drewN | apply Kd.S_drew)); exact HO_17.out) (Kd.R_base ho0) hb); have n1_ := Aside0.mk (Kd.R_elder' (by (with_reducible repeat (first | apply Kd.R_alloc | apply Kd.R_drewN | apply Kd.R_drew)); exact HL395_0.out) (Kd.R_base ho0) hb); have n2_ := Aside0.mk (Kd.R_lower (Kd.R_new' (Kd.R_mono (ok' := fun k_ => True) ho0 (fun _ hk_ => trivial)) (Kd.R_lt (by (with_reducible repeat (first | apply Kd.R_alloc | apply Kd.R_drewN | apply Kd.R_drew)); exact HL395_0.out))) (below_size (by repeat (first | (with_reducible first | exact HB.out | apply below_alloc | apply pw_below_drewN | apply below_drew1) | exact HB.out)))); have n3_ := Aside0.mk (Kd.C_below (by repeat (first | (with_reducible exact HR395_0.out) | (with_reducible refine Kd.C_alloc ?_ _) | (with_reducible refine Kd.C_drewN ?_ _) | (with_reducible refine Kd.C_drew ?_) | exact HR395_0.out)) hb); have n4_ := Aside0.mk (below_step (by repeat (first | (with_reducible first | exact HB.out | apply below_alloc | apply pw_below_drewN | apply below_drew1) | exact HB.out)) hb); clear HO_17; clear HL395_0; clear HR395_0; clear HB; have HO_17 := n0_; have HL395_0 := n1_; have HO398 := n2_; have HR395_0 := n3_; have HB := n4_; clear n0_ n1_ n2_ n3_ n4_; (try clear hb); (try clear hb2); (try clear hk); (try clear hi); (try clear ho0); obtain ⟨Ao15, co15, eo15⟩ := Kd.R_slice HO398.out; subst eo15) | ((with_reducible refine gate_callee (f := 62) rfl ?_); refine goesL_ (some 28) rfl rfl Try.func62 (by kernel_rfl) rfl #[.slice Ao15 t396.length co15, .slice A1 l1.length c1] rfl (by (try simp only [List.map_toArray, List.map_cons, List.map_nil]); first | done | rfl | (simp only [List.length_drop, List.length_take]; rfl)) ?_; (with_reducible refine (impl_cutsTo.calls k1 (fun k_ => some k_ = (.slice Ao15 t396.length co15 : Value).ownBlock) _ _ t396 (fun k_ => k_ < w.heap.size) _ _ l1 t399 true _ ?side1 ?side2 A12.out).mono ?_); (case side1 => exact Kd.R_V (Kd.R_tight rfl (Kd.R_apart' (HO398.out) (Kd.S_typed HO_17.out) (by decide)))); (case side2 => exact Kd.V_mk HC1.out (Kd.F_below (Kd.C_F (Kd.heap_int .i64) HR1.out) (by repeat (first | (with_reducible first | exact HB.out | apply below_alloc | apply pw_below_drewN | apply below_drew1) | exact HB.out)))); rintro e w16 ⟨v400, rfl, ho0, hb⟩; refine ⟨_, rfl, ?_⟩; have n0_ := Aside0.mk (Kd.S_elder' (by (with_reducible repeat (first | apply Kd.S_alloc | apply Kd.S_drewN | apply Kd.S_drew)); exact HO_17.out) (Kd.R_base ho0) hb); have n1_ := Aside0.mk (Kd.R_elder' (by (with_reducible repeat (first | apply Kd.R_alloc | apply Kd.R_drewN | apply Kd.R_drew)); exact HL395_0.out) (Kd.R_base ho0) hb); have n2_ := Aside0.mk (Kd.R_elder' (by (with_reducible repeat (first | apply Kd.R_alloc | apply Kd.R_drewN | apply Kd.R_drew)); exact HO398.out) (Kd.R_base ho0) hb); have n3_ := Aside0.mk (Kd.R_lower (Kd.R_new' (Kd.R_new' (Kd.R_mono (ok' := fun k_ => True) ho0 (fun _ hk_ => trivial)) (Kd.R_lt (by (with_reducible repeat (first | apply Kd.R_alloc | apply Kd.R_drewN | apply Kd.R_drew)); exact HL395_0.out))) (Kd.R_lt (by (with_reducible repeat (first | apply Kd.R_alloc | apply Kd.R_drewN | apply Kd.R_drew)); exact HO398.out))) (below_size (by repeat (first | (with_reducible first | exact HB.out | apply below_alloc | apply pw_below_drewN | apply below_drew1) | exact HB.out)))); have n4_ := Aside0.mk (Kd.C_below (by repeat (first | (with_reducible exact HR395_0.out) | (with_reducible refine Kd.C_alloc ?_ _) | (with_reducible refine Kd.C_drewN ?_ _) | (with_reducible refine Kd.C_drew ?_) | exact HR395_0.out)) hb); have n5_ := Aside0.mk (below_step (by repeat (first | (with_reducible first | exact HB.out | apply below_alloc | apply pw_below_drewN | apply below_drew1) | exact HB.out)) hb); clear HO_17; clear HL395_0; clear HO398; clear HR395_0; clear HB; have HO_17 := n0_; have HL395_0 := n1_; have HO398 := n2_; have HO401 := n3_; have HR395_0 := n4_; have HB := n5_; clear n0_ n1_ n2_ n3_ n4_ n5_; (try clear hb); (try clear hb2); (try clear hk); (try clear hi); (try clear ho0)))
                go_ret3
                exact ⟨_, _, by first | rfl | (simp [errW_none, errW_some] <;> rfl) | (simp [*, errW_none, errW_some] <;> rfl), by (with_reducible repeat (first | apply Kd.R_alloc | apply Kd.R_drewN | apply Kd.R_drew)); exact Kd.R_mono HL395_0.out (fun _ hk => hk.2), by (with_reducible repeat (first | apply Kd.R_alloc | apply Kd.R_drewN | apply Kd.R_drew)); exact Kd.R_mono HO401.out (fun _ hk => hk.1.2), by repeat (first | (with_reducible first | exact HB.out | apply below_alloc | apply pw_below_drewN | apply below_drew1) | exact HB.out)⟩
              · replace c13 := Bool.eq_false_iff.mpr c13
                subst c13
                have H1 : (impl_TwoCuts.l0 k1 l0 l1 t392 (t392.length : Int) (wrap64 (x19_1 + 1))) = some (r1, r2, r3) := by rw [if_neg (show ¬ (false = true) by decide)] at H; exact H
                clear H
                have H := H1
                clear H1
                have H' := Aside0.mk H
                clear H
                have p395 : 0 ≤ (x19_1 : Int) := of_decide_eq_true (by first | (with_reducible assumption) | assumption)
                have q395 : x19_1 < (t392.length : Int) := of_decide_eq_true (by first | (with_reducible assumption) | assumption)
                obtain ⟨ad395, A395_0, c395_0, e395, hx395_0, hl395_0, hi395_0⟩ := at_L5 (Kd.S_reads' HO_17.out).2.2 x19_1 p395 q395
                cases e395
                obtain ⟨ce395, hce395, hMe395, hcc395⟩ := Kd.S_get HO_17.out [] x19_1 p395 (by first | exact q395 | exact of_decide_eq_true (by first | (with_reducible assumption) | assumption) | (have e_ := (Kd.S_reads' HO_17.out).1; omega))
                obtain ⟨ve395_0, rfl, ge395_0⟩ := hMe395
                have hv395_0 := hcc395 0 _ rfl
                rw [Nat.add_zero, show ((Kd.slice 3 (Kd.int .i64))).sz = 1 from rfl, Nat.mul_one] at hv395_0
                replace hv395_0 := Option.some.inj (hv395_0.symm.trans hx395_0)
                rw [hv395_0] at ge395_0
                have HL395_0 := Aside0.mk (show Kd.R (Kd.int .i64) 3 _ _ _ _ (rd_L5 t392 x19_1) from ge395_0)
                clear hv395_0 ge395_0
                clear hcc395 hce395
                have HR395_0 := Aside0.mk hi395_0
                have HC395_0 := Aside0.mk hl395_0
                clear hi395_0 hl395_0
                replace p395 := eq_true p395
                replace q395 := eq_true q395
                go_wp2_with (first | ((with_reducible refine gate_callee (f := 55) rfl ?_); refine goesL_ (some 26) rfl rfl Try.func55 (by kernel_rfl) rfl #[.slice A0 l0.length c0, .slice A395_0 (rd_L5 t392 x19_1).length c395_0] rfl (by (try simp only [List.map_toArray, List.map_cons, List.map_nil]); first | done | rfl | (simp only [List.length_drop, List.length_take]; rfl)) ?_; (with_reducible refine (impl_runCuts.calls k1 (fun k_ => k_ < w.heap.size) _ _ l0 _ _ (rd_L5 t392 x19_1) t396 _ ?side1 ?side2 ?side3 A11.out).mono ?_); (case side1 => exact Kd.V_mk HC0.out (Kd.F_below (Kd.C_F (Kd.heap_int .i64) HR0.out) (by repeat (first | (with_reducible first | exact HB.out | apply below_alloc | apply pw_below_drewN | apply below_drew1) | exact HB.out)))); (case side2 => repeat (first | exact (by repeat (first | (with_reducible exact HR395_0.out) | (with_reducible refine Kd.C_alloc ?_ _) | (with_reducible refine Kd.C_drewN ?_ _) | (with_reducible refine Kd.C_drew ?_) | exact HR395_0.out)) | (with_reducible refine Kd.C_alloc ?_ _) | (with_reducible refine Kd.C_drewN ?_ _) | (with_reducible refine Kd.C_drew ?_))); (case side3 => exact HC395_0.out); rintro e w17 ⟨v397, rfl, ho0, hb⟩; refine ⟨_, rfl, ?_⟩; have n0_ := Aside0.mk (Kd.S_elder' (by (with_reducible repeat (first | apply Kd.S_alloc | apply Kd.S_drewN | apply Kd.S_drew)); exact HO_17.out) (Kd.R_base ho0) hb); have n1_ := Aside0.mk (Kd.R_elder' (by (with_reducible repeat (first | apply Kd.R_alloc | apply Kd.R_drewN | apply Kd.R_drew)); exact HL395_0.out) (Kd.R_base ho0) hb); have n2_ := Aside0.mk (Kd.R_lower (Kd.R_new' (Kd.R_mono (ok' := fun k_ => True) ho0 (fun _ hk_ => trivial)) (Kd.R_lt (by (with_reducible repeat (first | apply Kd.R_alloc | apply Kd.R_drewN | apply Kd.R_drew)); exact HL395_0.out))) (below_size (by repeat (first | (with_reducible first | exact HB.out | apply below_alloc | apply pw_below_drewN | apply below_drew1) | exact HB.out)))); have n3_ := Aside0.mk (Kd.C_below (by repeat (first | (with_reducible exact HR395_0.out) | (with_reducible refine Kd.C_alloc ?_ _) | (with_reducible refine Kd.C_drewN ?_ _) | (with_reducible refine Kd.C_drew ?_) | exact HR395_0.out)) hb); have n4_ := Aside0.mk (below_step (by repeat (first | (with_reducible first | exact HB.out | apply below_alloc | apply pw_below_drewN | apply below_drew1) | exact HB.out)) hb); clear HO_17; clear HL395_0; clear HR395_0; clear HB; have HO_17 := n0_; have HL395_0 := n1_; have HO398 := n2_; have HR395_0 := n3_; have HB := n4_; clear n0_ n1_ n2_ n3_ n4_; (try clear hb); (try clear hb2); (try clear hk); (try clear hi); (try clear ho0); obtain ⟨Ao18, co18, eo18⟩ := Kd.R_slice HO398.out; subst eo18) | ((with_reducible refine gate_callee (f := 62) rfl ?_); refine goesL_ (some 28) rfl rfl Try.func62 (by kernel_rfl) rfl #[.slice Ao18 t396.length co18, .slice A1 l1.length c1] rfl (by (try simp only [List.map_toArray, List.map_cons, List.map_nil]); first | done | rfl | (simp only [List.length_drop, List.length_take]; rfl)) ?_; (with_reducible refine (impl_cutsTo.calls k1 (fun k_ => some k_ = (.slice Ao18 t396.length co18 : Value).ownBlock) _ _ t396 (fun k_ => k_ < w.heap.size) _ _ l1 t399 false _ ?side1 ?side2 A12.out).mono ?_); (case side1 => exact Kd.R_V (Kd.R_tight rfl (Kd.R_apart' (HO398.out) (Kd.S_typed HO_17.out) (by decide)))); (case side2 => exact Kd.V_mk HC1.out (Kd.F_below (Kd.C_F (Kd.heap_int .i64) HR1.out) (by repeat (first | (with_reducible first | exact HB.out | apply below_alloc | apply pw_below_drewN | apply below_drew1) | exact HB.out)))); rintro e w19 ⟨v400, rfl, ho0, hb⟩; refine ⟨_, rfl, ?_⟩; have n0_ := Aside0.mk (Kd.S_elder' (by (with_reducible repeat (first | apply Kd.S_alloc | apply Kd.S_drewN | apply Kd.S_drew)); exact HO_17.out) (Kd.R_base ho0) hb); have n1_ := Aside0.mk (Kd.R_elder' (by (with_reducible repeat (first | apply Kd.R_alloc | apply Kd.R_drewN | apply Kd.R_drew)); exact HL395_0.out) (Kd.R_base ho0) hb); have n2_ := Aside0.mk (Kd.R_elder' (by (with_reducible repeat (first | apply Kd.R_alloc | apply Kd.R_drewN | apply Kd.R_drew)); exact HO398.out) (Kd.R_base ho0) hb); have n3_ := Aside0.mk (Kd.R_lower (Kd.R_new' (Kd.R_new' (Kd.R_mono (ok' := fun k_ => True) ho0 (fun _ hk_ => trivial)) (Kd.R_lt (by (with_reducible repeat (first | apply Kd.R_alloc | apply Kd.R_drewN | apply Kd.R_drew)); exact HL395_0.out))) (Kd.R_lt (by (with_reducible repeat (first | apply Kd.R_alloc | apply Kd.R_drewN | apply Kd.R_drew)); exact HO398.out))) (below_size (by repeat (first | (with_reducible first | exact HB.out | apply below_alloc | apply pw_below_drewN | apply below_drew1) | exact HB.out)))); have n4_ := Aside0.mk (Kd.C_below (by repeat (first | (with_reducible exact HR395_0.out) | (with_reducible refine Kd.C_alloc ?_ _) | (with_reducible refine Kd.C_drewN ?_ _) | (with_reducible refine Kd.C_drew ?_) | exact HR395_0.out)) hb); have n5_ := Aside0.mk (below_step (by repeat (first | (with_reducible first | exact HB.out | apply below_alloc | apply pw_below_drewN | apply below_drew1) | exact HB.out)) hb); clear HO_17; clear HL395_0; clear HO398; clear HR395_0; clear HB; have HO_17 := n0_; have HL395_0 := n1_; have HO398 := n2_; have HO401 := n3_; have HR395_0 := n4_; have HB := n5_; clear n0_ n1_ n2_ n3_ n4_ n5_; (try clear hb); (try clear hb2); (try clear hk); (try clear hi); (try clear ho0)))
                go_roundg k1
                case measure => have := HK1.out; omega
                case rel => exact ⟨(wrap64 (x19_1 + 1)), (by first | rfl | (simp; done) | (simp [*]; done)), H', ⟨by have := HK1.out; omega⟩, ⟨by (with_reducible repeat (first | apply Kd.S_alloc | apply Kd.S_drewN | apply Kd.S_drew)); exact Kd.S_mono HO_17.out (fun _ hk => trivial)⟩, ⟨by repeat (first | (with_reducible first | exact HB.out | apply below_alloc | apply pw_below_drewN | apply below_drew1) | exact HB.out)⟩⟩
            · rw [if_neg c10] at H
              exact absurd H (by simp)
          · rw [if_neg c9] at H
            exact absurd H (by simp)
        · rw [if_neg c8] at H
          have c8b0 : decide (x19_1 < (t392.length : Int)) = false := decide_eq_false c8
          clear c8
          simp only [Option.some.injEq, Prod.mk.injEq] at H
          obtain ⟨rfl, rfl, rfl⟩ := H
          go_wp2
          go_ret3
          exact ⟨_, _, by first | rfl | (simp [errW_none, errW_some] <;> rfl) | (simp [*, errW_none, errW_some] <;> rfl), by first | exact Kd.R_nil _ _ _ _ _ | exact Kd.N_nil _ _ _ _ _ | exact Kd.V_nil _ _ _ _ _ | exact Kd.Q_nil _ _ _ _ _ | exact Kd.S_nil _ _ _ _ _, by first | exact Kd.R_nil _ _ _ _ _ | exact Kd.N_nil _ _ _ _ _ | exact Kd.V_nil _ _ _ _ _ | exact Kd.Q_nil _ _ _ _ _ | exact Kd.S_nil _ _ _ _ _, by repeat (first | (with_reducible first | exact HB.out | apply below_alloc | apply pw_below_drewN | apply below_drew1) | exact HB.out)⟩
  · replace c4 := Bool.eq_false_iff.mpr c4
    subst c4
    have H1 : (some (([] : List Int), ([] : List Int), false)) = some (r1, r2, r3) := by rw [if_neg (show ¬ (false = true) by decide)] at H; exact H
    clear H
    have H := H1
    clear H1
    simp only [Option.some.injEq, Prod.mk.injEq] at H
    obtain ⟨rfl, rfl, rfl⟩ := H
    go_enter Try.func25, Try.ntmps25
    go_wp2_with (first | ((with_reducible refine gate_callee (f := 61) rfl ?_); refine goesL_ (some 13) rfl rfl Try.func61 (by kernel_rfl) rfl #[.slice A0 l0.length c0, .slice A1 l1.length c1] rfl (by (try simp only [List.map_toArray, List.map_cons, List.map_nil]); first | done | rfl | (simp only [List.length_drop, List.length_take]; rfl)) ?_; (with_reducible refine (impl_areOrders.calls k _ _ l0 _ _ l1 false _ ?side1 ?side2 ?side3 ?side4 A3.out).mono ?_); (case side1 => repeat (first | exact HR0.out | (with_reducible refine Kd.C_alloc ?_ _) | (with_reducible refine Kd.C_drewN ?_ _) | (with_reducible refine Kd.C_drew ?_))); (case side2 => exact HC0.out); (case side3 => repeat (first | exact HR1.out | (with_reducible refine Kd.C_alloc ?_ _) | (with_reducible refine Kd.C_drewN ?_ _) | (with_reducible refine Kd.C_drew ?_))); (case side4 => exact HC1.out); rintro e w' ⟨rfl, ⟨nd, rfl⟩⟩; refine ⟨_, rfl, ?_⟩))
    go_ret3
    exact ⟨_, _, by first | rfl | (simp [errW_none, errW_some] <;> rfl) | (simp [*, errW_none, errW_some] <;> rfl), by first | exact Kd.R_nil _ _ _ _ _ | exact Kd.N_nil _ _ _ _ _ | exact Kd.V_nil _ _ _ _ _ | exact Kd.Q_nil _ _ _ _ _ | exact Kd.S_nil _ _ _ _ _, by first | exact Kd.R_nil _ _ _ _ _ | exact Kd.N_nil _ _ _ _ _ | exact Kd.V_nil _ _ _ _ _ | exact Kd.Q_nil _ _ _ _ _ | exact Kd.S_nil _ _ _ _ _, by repeat (first | (with_reducible first | exact HB.out | apply below_alloc | apply pw_below_drewN | apply below_drew1) | exact HB.out)⟩
end Go.Proofs.Ytbnieikbjmfhgaa.PFnCuts
