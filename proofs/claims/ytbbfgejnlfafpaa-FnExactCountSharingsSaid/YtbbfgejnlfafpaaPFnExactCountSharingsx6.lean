-- laid by mkprint.py, a program of this claim's writer, over the kit's print program; parts of it are typed by hand
import Derived.Test.YtbbfgejnlfafpaaPFnExactCountSharingsx0
import Derived.Test.YtbbfgejnlfafpaaPFnExactCountSharingsx1
import Derived.Test.YtbbfgejnlfafpaaPFnExactCountSharingsx3
import Derived.Test.YtbbfgejnlfafpaaPFnExactCountSharingsx4
import Derived.Test.YtbbfgejnlfafpaaPFnExactCountSharingsx5
namespace Go.Proofs.Ytbbfgejnlfafpaa.PFnExactCountSharings
open Go.RowKit Go.Proofs.YtbbfgejnlfafpaaW.PrintWords Go.Proofs.YtbbfgejnlfafpaaW.PrintLast Go.Proofs.YtbbfgejnlfafpaaW.PrintMore
attribute [local go_sem] max2_int min2_int max_two min_two max_three min_three max_four min_four   -- for this text's walks alone
set_option linter.unusedVariables false
set_option linter.unusedSimpArgs false

/-! ### impl_sharings: function 59 -/
def impl_sharings.f {σ : Type} (of_ : Nat → σ → List Int → Option (σ × Bool)) (k : Nat) (o : List Int) (n : Int) (s : σ) : Option σ := (impl_sharings_1.f of_ k o n s []).bind fun x => some x.1
theorem impl_sharings.mono {σ : Type} (of_ : Nat → σ → List Int → Option (σ × Bool)) (hm : ∀ s d k, LeO (of_ k s d) (of_ (k + 1) s d)) : ∀ o n s k, LeO (impl_sharings.f of_ k o n s) (impl_sharings.f of_ (k + 1) o n s) := fun o n s k => LeO.bind ((impl_sharings_1.mono_l of_ hm k).1 o n s []) (fun _ => LeO.refl _)
set_option maxHeartbeats 8000000 in
set_option maxRecDepth 100000 in
theorem impl_sharings.calls {σ : Type} (St : σ → World → Prop) (PS : Nat → Prop) (g_ : Nat) (lb_ : Array Value) (of_ : Nat → σ → List Int → Option (σ × Bool)) (eg_ : ∀ args w, (callFunc g_ args).run Try.prog w = .ok (.enter g_ args) w) (A0 : Option Addr) (c0 : Nat) (l0 : List Int) (n : Int) (w0 w : World)
    (hr0 : Kd.C (Kd.int .i64) w0 A0 l0.length l0) (hc0 : l0.length ≤ c0) (hPS : ∀ q, PS q → w0.heap.size ≤ q ∧ q < w.heap.size) (hB : Below w0.heap.size w0 w) (hKeep : ∀ s W W', St s W → Kept W W' (fun _ => False) → St s W')
    (hWith : ∀ (k : Nat) (s : σ) (d : List Int) (s' : σ) (r : Bool) (v : Value) (W : World), St s W → Below w0.heap.size w0 W → Kd.R (Kd.int .i64) 3 W w0.heap.size (fun q_ => w0.heap.size ≤ q_ ∧ ¬ PS q_) v d → of_ k s d = some (s', r) → Calls Try.prog g_ (#[v] ++ lb_) W fun e W' => e = .returned (.bool r) ∧ St s' W' ∧ Kept W W' PS ∧ Below w0.heap.size w0 W')
    (K : Nat) (s s' : σ) (hst : St s w) (h : impl_sharings.f of_ K l0 n s = some s') :
    Calls Try.prog 59 #[.slice A0 l0.length c0, .int .i64 n, .func (.func g_) #[] lb_] w fun e W' => e = .returned (.tuple #[]) ∧ St s' W' ∧ Kept w W' PS ∧ Below w0.heap.size w0 W' := by
  obtain ⟨⟨s2, r2⟩, h1, h2⟩ := Option.bind_eq_some_iff.1 h
  obtain rfl := Option.some.inj h2
  have HF := Aside0.mk h1
  have HB := Aside0.mk hB
  have HBw := Aside0.mk hB
  have HST := Aside0.mk hst
  have HR0 := Aside0.mk hr0
  have HC0 := Aside0.mk hc0
  have HPS := Aside0.mk hPS
  have HKEEP := Aside0.mk hKeep
  have HWITH := Aside0.mk hWith
  have HK := Aside0.mk (Kept.refl w (fun _ => False))
  clear h h1 h2 hB hst hr0 hc0 hPS hKeep hWith
  go_enter Try.func59, Try.ntmps59
  (repeat ((fail_if_success (with_reducible refine gate_dst (N := 3) rfl ?_)); first | go_values | go_skip | go_guarded | go_step | go_upon))
  refine box_event ?hg (N := 3) ?hd (cs := #[.slice A0 l0.length c0]) (t := 22) ?hr ?_
  case hd => rfl
  case hg => rfl
  case hr => first | (go_simp; done) | (go_simp; rfl)
  intro bO hg w1 hbox hb
  have n0_ := Aside0.mk (below_step HB.out hb)
  have n1_ := Aside0.mk (HK.out.below hb)
  have BO := Aside0.mk hbox
  have GO := Aside0.mk hg
  clear HB HK hg hb hbox 
  have HB := n0_
  have HK := n1_
  clear n0_ n1_ 
  have s1 := Aside0.mk (blk_lt BO.out)
  (repeat ((fail_if_success (with_reducible refine gate_dst (N := 4) rfl ?_)); first | go_values | go_skip | go_guarded | go_step | go_upon))
  refine box_event ?hg (N := 4) ?hd (cs := #[.int .i64 n]) (t := 3) ?hr ?_
  case hd => rfl
  case hg => rfl
  case hr => first | (go_simp; done) | (go_simp; rfl)
  intro bS hg w2 hbox hb
  have n0_ := Aside0.mk (below_step HB.out hb)
  have n1_ := Aside0.mk (HK.out.below hb)
  have m0_ := Aside0.mk (blk_below BO.out hb)
  have BS := Aside0.mk hbox
  have GS := Aside0.mk hg
  clear HB HK hg hb hbox BO
  have HB := n0_
  have HK := n1_
  have BO := m0_
  clear n0_ n1_ m0_
  have s2 := Aside0.mk (blk_lt BS.out)
  (repeat ((fail_if_success (with_reducible refine gate_dst (N := 5) rfl ?_)); first | go_values | go_skip | go_guarded | go_step | go_upon))
  refine box_event ?hg (N := 5) ?hd (cs := #[.func (.func g_) #[] lb_]) (t := 36) ?hr ?_
  case hd => rfl
  case hg => rfl
  case hr => first | (go_simp; done) | (go_simp; rfl)
  intro bW hg w3 hbox hb
  have n0_ := Aside0.mk (below_step HB.out hb)
  have n1_ := Aside0.mk (HK.out.below hb)
  have m0_ := Aside0.mk (blk_below BO.out hb)
  have m1_ := Aside0.mk (blk_below BS.out hb)
  have BW := Aside0.mk hbox
  have GW := Aside0.mk hg
  clear HB HK hg hb hbox BO BS
  have HB := n0_
  have HK := n1_
  have BO := m0_
  have BS := m1_
  clear n0_ n1_ m0_ m1_
  have s3 := Aside0.mk (blk_lt BW.out)
  (repeat ((fail_if_success (with_reducible refine gate_dst (N := 6) rfl ?_)); first | go_values | go_skip | go_guarded | go_step | go_upon))
  refine box_event ?hg (N := 6) ?hd (cs := #[.nilFunc]) (t := 36) ?hr ?_
  case hd => rfl
  case hg => rfl
  case hr => first | (go_simp; done) | (go_simp; rfl)
  intro bA hg w4 hbox hb
  have n0_ := Aside0.mk (below_step HB.out hb)
  have n1_ := Aside0.mk (HK.out.below hb)
  have m0_ := Aside0.mk (blk_below BO.out hb)
  have m1_ := Aside0.mk (blk_below BS.out hb)
  have m2_ := Aside0.mk (blk_below BW.out hb)
  have BA := Aside0.mk hbox
  have GA := Aside0.mk hg
  clear HB HK hg hb hbox BO BS BW
  have HB := n0_
  have HK := n1_
  have BO := m0_
  have BS := m1_
  have BW := m2_
  clear n0_ n1_ m0_ m1_ m2_
  have HLT := Aside0.mk (show w.heap.size ≤ bO ∧ bO < bS ∧ bO < bW ∧ bO < bA ∧ bS ≠ bA ∧ bW ≠ bA from by have := GO.out; have := GS.out; have := GW.out; have := GA.out; have := s1.out; have := s2.out; have := s3.out; omega)
  clear GO GS GW GA s1 s2 s3
  have ea : w4.cell? ⟨bA, 0, none⟩ = some .nilFunc := (blk_cell BA.out 0).trans rfl
  have fa : w4.frozen? ⟨bA, 0, none⟩ = false := blk_frozen BA.out 0
  (repeat ((fail_if_success (with_reducible refine gate_store (t := 36) (p := 6) rfl ?_)); first | go_values | go_skip | go_guarded | go_step | go_upon))
  refine store_event (t := 36) (p := 6) (v := ?vo) (w1 := (w4.setCell ⟨bA, 0, none⟩ (.func (.func 77) #[] #[.pointer (some ⟨bO, 0, none⟩), .pointer (some ⟨bW, 0, none⟩), .pointer (some ⟨bS, 0, none⟩), .pointer (some ⟨bA, 0, none⟩)]))) ?hg ?ho ?hn ?hr ?_
  case ho => rfl
  case hg => rfl
  case hn => rfl
  case hr => first | (go_simp; done) | (go_simp; rfl)
  intro w5 hw
  have BA2 := Aside0.mk (show w5.heap[bA]? = some (.cells #[.func (.func 77) #[] #[.pointer (some ⟨bO, 0, none⟩), .pointer (some ⟨bW, 0, none⟩), .pointer (some ⟨bS, 0, none⟩), .pointer (some ⟨bA, 0, none⟩)]] 36 (0, 0)) from by rw [hw]; exact blk_put (cs := #[.nilFunc]) BA.out 0 _ rfl)
  have hk5 : Kept w4 w5 (fun q_ => q_ = bA) := by rw [hw]; exact (Kept.refl w4 (fun q_ => q_ = bA)).setCell (p := ⟨bA, 0, none⟩) (.inl rfl) _
  have n0_ := Aside0.mk (show Below w0.heap.size w0 w5 from by rw [hw]; exact below_set HB.out (by have := HLT.out; have := HB.out.size; have h1_ := HBw.out.size; omega))
  have n1_ := Aside0.mk (show Kept w w5 (fun _ => False) from HK.out.then_ hk5 (fun q_ h_ => .inr (by have := HLT.out; omega)))
  have HCAP := Aside0.mk (show ShCap A0 c0 l0 n g_ lb_ bO bW bS bA w5 from ⟨blk_kept BO.out hk5 (by have := HLT.out; omega), blk_kept BW.out hk5 (by have := HLT.out; omega), blk_kept BS.out hk5 (by have := HLT.out; omega), BA2.out⟩)
  clear HB HK BO BS BW BA BA2 hk5 hw ea fa
  have HB := n0_
  have HK := n1_
  clear n0_ n1_
  have ea : w5.cell? ⟨bA, 0, none⟩ = some (.func (.func 77) #[] #[.pointer (some ⟨bO, 0, none⟩), .pointer (some ⟨bW, 0, none⟩), .pointer (some ⟨bS, 0, none⟩), .pointer (some ⟨bA, 0, none⟩)]) := (blk_cell HCAP.out.2.2.2 0).trans rfl
  (repeat ((fail_if_success (with_reducible refine gate_dst (N := 9) rfl ?_)); first | go_values | go_skip | go_guarded | go_step | go_upon))
  refine Kd.R_lit (Kd.int .i64) _ 3 ?hg (N := 9) ?hd (xs := ([] : List Int)) (inner := []) (ok := fun _ => True) (okp := fun _ => True) ?hr ?hp (fun _ hk => hk) trivial (Below.refl _ _) (Nat.le_refl _) (by simp) ?_
  case hd => rfl
  case hg => rfl
  case hr => first | (go_simp; done) | (go_simp; rfl)
  case hp => exact (Reps.none _ _)
  intro v9 w6 ho hb hg_ hnew_
  clear hg_ hnew_
  have HV := Aside0.mk (show Kd.R (Kd.int .i64) 3 w6 w0.heap.size (fun q_ => w0.heap.size ≤ q_ ∧ ¬ PS q_) v9 [] from Kd.R_lower (Kd.R_mono (Kd.R_bound ho) (fun q_ h_ => ⟨Nat.le_trans HB.out.size h_.2.1, fun hp_ => by have h1_ := (HPS.out q_ hp_).2; have h2_ := h_.2.1; have h3_ := HK.out.1; omega⟩)) HB.out.size)
  have n0_ := Aside0.mk (below_step HB.out hb)
  have n1_ := Aside0.mk (HK.out.below hb)
  have n2_ := Aside0.mk (HCAP.out.kept (Kept.of_below hb (fun _ => False)) (fun h => h) (fun h => h) (fun h => h) (fun h => h))
  clear HB HK HCAP ho hb ea
  have HB := n0_
  have HK := n1_
  have HCAP := n2_
  clear n0_ n1_ n2_
  (repeat ((fail_if_success (with_reducible refine gate_dst (N := 10) rfl ?_)); first | go_values | go_skip | go_guarded | go_step | go_upon))
  refine goesV_ (some 10) rfl rfl (enters_of Try.func77 (by kernel_rfl) rfl) #[.pointer (some ⟨bO, 0, none⟩), .pointer (some ⟨bW, 0, none⟩), .pointer (some ⟨bS, 0, none⟩), .pointer (some ⟨bA, 0, none⟩)] #[v9] rfl rfl (by (try simp only [List.map_toArray, List.map_cons, List.map_nil]); first | done | rfl) ?_
  refine (impl_sharings_1.calls St PS g_ lb_ of_ eg_ bO bW bS bA A0 c0 l0 n w0 HR0.out HC0.out (fun q hq => ⟨(HPS.out q hq).1, by have := (HPS.out q hq).2; have := HLT.out; omega⟩) ⟨HLT.out.2.1, HLT.out.2.2.1, HLT.out.2.2.2.1⟩ HKEEP.out HWITH.out K s [] _ r2 v9 w6 HCAP.out (HKEEP.out _ _ _ HST.out HK.out) HB.out HV.out HF.out).mono ?_
  rintro e w7 ⟨rfl, h1, h2, h3⟩
  refine ⟨_, rfl, ?_⟩
  have HZ := Aside0.mk (And.intro h1 (And.intro ((HK.out.mono (S' := PS) (fun _ h => h.elim)).then_ h2 (fun _ h => .inl h)) h3))
  clear h1 h2 h3 HB HK HCAP HV HST HF
  go_wp2
  go_end0
  exact ⟨rfl, HZ.out⟩


-- NOT PRINTED: function 60 (impl_CountSharings_1)

/-! ### impl_CountSharings: function 35 -/
def impl_CountSharings_1.f (_k : Nat) (s : Int) (_d : List Int) : Option (Int × Bool) := some (wrap64 (s + 1), false)
set_option maxHeartbeats 8000000 in
set_option maxRecDepth 100000 in
theorem impl_CountSharings_1.calls (g : Nat) (w0 : World) (hg : w0.heap.size ≤ g) (k : Nat) (s : Int) (d : List Int) (s' : Int) (r : Bool) (v : Value) (W : World) (hst : W.heap[g]? = some (.cells #[.int .i64 s] 3 (0, 0))) (hB : Below w0.heap.size w0 W) (h : impl_CountSharings_1.f k s d = some (s', r)) :
    Calls Try.prog 60 (#[v] ++ #[.pointer (some ⟨g, 0, none⟩)]) W fun e W' => e = .returned (.bool r) ∧ W'.heap[g]? = some (.cells #[.int .i64 s'] 3 (0, 0)) ∧ Kept W W' (fun q_ => q_ = g) ∧ Below w0.heap.size w0 W' := by
  unfold impl_CountSharings_1.f at h
  obtain ⟨rfl, rfl⟩ := Prod.mk.inj (Option.some.inj h)
  obtain ⟨s1, hs1⟩ : ∃ s1 : Int, s1 = wrap64 (s + 1) := ⟨_, rfl⟩
  have z1 : wrap64 (s + 1) = s1 := hs1.symm
  rw [← hs1]
  clear hs1 h
  have HB := Aside0.mk hB
  have HG := Aside0.mk hg
  have BK := Aside0.mk hst
  have ea : W.cell? ⟨g, 0, none⟩ = some (.int .i64 s) := (blk_cell hst 0).trans rfl
  have fa : W.frozen? ⟨g, 0, none⟩ = false := blk_frozen hst 0
  clear hB hg hst
  go_enter Try.func60, Try.ntmps60
  (repeat ((fail_if_success (with_reducible refine gate_store (t := 3) (p := 1) rfl ?_)); first | go_values | go_skip | go_guarded | go_step | go_upon))
  refine store_event (t := 3) (p := 1) (v := ?vo) (w1 := (W.setCell ⟨g, 0, none⟩ (.int .i64 s1))) ?hg ?ho ?hn ?hr ?_
  case ho => rfl
  case hg => rfl
  case hn => rfl
  case hr => first | (go_simp; done) | (go_simp; rfl)
  intro w5 hw
  have B2 := Aside0.mk (show w5.heap[g]? = some (.cells #[.int .i64 s1] 3 (0, 0)) from by rw [hw]; exact blk_put (cs := #[.int .i64 s]) BK.out 0 _ rfl)
  have K2 := Aside0.mk (show Kept W w5 (fun q_ => q_ = g) from by rw [hw]; exact (Kept.refl W (fun q_ => q_ = g)).setCell (p := ⟨g, 0, none⟩) (.inl rfl) _)
  have n0_ := Aside0.mk (show Below w0.heap.size w0 w5 from by rw [hw]; exact below_set HB.out HG.out)
  clear HB hw ea fa BK
  go_wp2
  go_ret
  exact ⟨rfl, B2.out, K2.out, n0_.out⟩
def impl_CountSharings.f (k : Nat) (l0 : List Int) (a1 : Int) : Option (Int × Bool) := (impl_isOrder.f k l0).bind fun t => if t = true then ((impl_isStacks.f a1).bind fun u => if u = true then ((impl_sharings.f impl_CountSharings_1.f k l0 a1 0).bind fun m => some (m, true)) else some (0, false)) else some (0, false)
theorem impl_CountSharings.mono : ∀ a0 a1 k, LeO (impl_CountSharings.f k a0 a1) (impl_CountSharings.f (k + 1) a0 a1) := fun a0 a1 k => LeO.bind (impl_isOrder.mono _ _) (fun t => LeO.ite (LeO.bind (LeO.refl _) (fun u => LeO.ite (LeO.bind (impl_sharings.mono _ (fun _ _ _ => LeO.refl _) _ _ _ _) (fun _ => LeO.refl _)) (LeO.refl _))) (LeO.refl _))
set_option maxHeartbeats 8000000 in
set_option maxRecDepth 100000 in
theorem impl_CountSharings.calls (k : Nat) (A0 : Option Addr) (c0 : Nat) (l0 : List Int) (a1 : Int) (r1 : Int) (r2 : Bool) (w : World) (hr0 : Kd.C (Kd.int .i64) w A0 l0.length l0) (hc0 : l0.length ≤ c0) (h : impl_CountSharings.f k l0 a1 = some (r1, r2)) :
    Calls Try.prog 35 #[.slice A0 l0.length c0, .int .i64 a1] w fun e w' => e = .returned (.tuple #[.int .i64 r1, .bool r2]) ∧ Below w.heap.size w w' := by
  have HR0 := Aside0.mk hr0
  have HC0 := Aside0.mk hc0
  clear hr0 hc0
  have HB := Aside0.mk (Below.refl w.heap.size w)
  obtain ⟨t, h1, H⟩ := Option.bind_eq_some_iff.mp h
  have A1 := Aside0.mk h1
  clear h h1
  cases t with
  | false =>
    rw [if_neg (by simp)] at H
    obtain ⟨rfl, rfl⟩ := Prod.mk.inj (Option.some.inj H)
    clear H
    go_enter Try.func35, Try.ntmps35
    go_wp2_with (first | ((with_reducible refine gate_callee (f := 52) rfl ?_); refine goesL_ (some 8) rfl rfl Try.func52 (by kernel_rfl) rfl #[.slice A0 l0.length c0] rfl (by (try simp only [List.map_toArray, List.map_cons, List.map_nil]); first | done | rfl) ?_; (with_reducible refine (impl_isOrder.calls k _ _ l0 false _ ?side1 ?side2 A1.out).mono ?_); (case side1 => repeat (first | exact HR0.out | (with_reducible refine Kd.C_alloc ?_ _) | (with_reducible refine Kd.C_drewN ?_ _) | (with_reducible refine Kd.C_drew ?_))); (case side2 => exact HC0.out); rintro e w' ⟨rfl, ⟨nd, rfl⟩⟩; refine ⟨_, rfl, ?_⟩))
    go_ret2
    exact ⟨by first | rfl | (simp [errW_none, errW_some] <;> rfl) | (simp [*, errW_none, errW_some] <;> rfl), by repeat (first | (with_reducible first | exact HB.out | apply below_alloc | apply pw_below_drewN | apply below_drew1) | exact HB.out)⟩
  | true =>
    rw [if_pos rfl] at H
    obtain ⟨u, h1, H⟩ := Option.bind_eq_some_iff.mp H
    have A2 := Aside0.mk h1
    clear h1
    cases u with
    | false =>
      rw [if_neg (by simp)] at H
      obtain ⟨rfl, rfl⟩ := Prod.mk.inj (Option.some.inj H)
      clear H
      go_enter Try.func35, Try.ntmps35
      go_wp2_with (first | ((with_reducible refine gate_callee (f := 52) rfl ?_); refine goesL_ (some 8) rfl rfl Try.func52 (by kernel_rfl) rfl #[.slice A0 l0.length c0] rfl (by (try simp only [List.map_toArray, List.map_cons, List.map_nil]); first | done | rfl) ?_; (with_reducible refine (impl_isOrder.calls k _ _ l0 true _ ?side1 ?side2 A1.out).mono ?_); (case side1 => repeat (first | exact HR0.out | (with_reducible refine Kd.C_alloc ?_ _) | (with_reducible refine Kd.C_drewN ?_ _) | (with_reducible refine Kd.C_drew ?_))); (case side2 => exact HC0.out); rintro e w' ⟨rfl, ⟨nd, rfl⟩⟩; refine ⟨_, rfl, ?_⟩) | (go_at_call 58; (with_reducible refine (impl_isStacks.calls a1 false _ A2.out).mono ?_); rintro e w' ⟨rfl, ⟨nd, rfl⟩⟩))
      go_ret2
      exact ⟨by first | rfl | (simp [errW_none, errW_some] <;> rfl) | (simp [*, errW_none, errW_some] <;> rfl), by repeat (first | (with_reducible first | exact HB.out | apply below_alloc | apply pw_below_drewN | apply below_drew1) | exact HB.out)⟩
    | true =>
      rw [if_pos rfl] at H
      obtain ⟨m, h1, H⟩ := Option.bind_eq_some_iff.mp H
      obtain ⟨rfl, rfl⟩ := Prod.mk.inj (Option.some.inj H)
      have A3 := Aside0.mk h1
      clear H h1
      go_enter Try.func35, Try.ntmps35
      (repeat ((fail_if_success (with_reducible refine gate_dst (N := 6) rfl ?_)); first | ((with_reducible refine gate_callee (f := 52) rfl ?_); refine goesL_ (some 8) rfl rfl Try.func52 (by kernel_rfl) rfl #[.slice A0 l0.length c0] rfl (by (try simp only [List.map_toArray, List.map_cons, List.map_nil]); first | done | rfl) ?_; (with_reducible refine (impl_isOrder.calls k _ _ l0 true _ ?side1 ?side2 A1.out).mono ?_); (case side1 => repeat (first | exact HR0.out | (with_reducible refine Kd.C_alloc ?_ _) | (with_reducible refine Kd.C_drewN ?_ _) | (with_reducible refine Kd.C_drew ?_))); (case side2 => exact HC0.out); rintro e w' ⟨rfl, ⟨nd, rfl⟩⟩; refine ⟨_, rfl, ?_⟩) | (go_at_call 58; (with_reducible refine (impl_isStacks.calls a1 true _ A2.out).mono ?_); rintro e w' ⟨rfl, ⟨nd, rfl⟩⟩) | go_values | go_skip | go_guarded | go_step | go_upon | go_back | go_simp))
      refine box_event ?hg (N := 6) ?hd (cs := #[.int .i64 0]) (t := 3) ?hr ?_
      case hd => rfl
      case hg => rfl
      case hr => first | (go_simp; done) | (go_simp; rfl)
      intro g hg w6 hbox hb
      have n0_ := Aside0.mk (below_step (by repeat (first | (with_reducible first | exact HB.out | apply below_alloc | apply pw_below_drewN | apply below_drew1) | exact HB.out)) hb)
      have GE := Aside0.mk (show w.heap.size ≤ g by rw [hg]; exact below_size (by repeat (first | (with_reducible first | exact HB.out | apply below_alloc | apply pw_below_drewN | apply below_drew1) | exact HB.out)))
      have BK := Aside0.mk hbox
      clear HB hg hb hbox
      have HB := n0_
      clear n0_
      have ea : w6.cell? ⟨g, 0, none⟩ = some (.int .i64 0) := (blk_cell BK.out 0).trans rfl
      have fa : w6.frozen? ⟨g, 0, none⟩ = false := blk_frozen BK.out 0
      (repeat ((fail_if_success (with_reducible refine gate_store (t := 3) (p := 6) rfl ?_)); first | go_values | go_skip | go_guarded | go_step | go_upon))
      refine store_event (t := 3) (p := 6) (v := ?vo) (w1 := (w6.setCell ⟨g, 0, none⟩ (.int .i64 0))) ?hg ?ho ?hn ?hr ?_
      case ho => rfl
      case hg => rfl
      case hn => rfl
      case hr => first | (go_simp; done) | (go_simp; rfl)
      intro w7 hw
      have B2 := Aside0.mk (show w7.heap[g]? = some (.cells #[.int .i64 0] 3 (0, 0)) from by rw [hw]; exact blk_put (cs := #[.int .i64 0]) BK.out 0 _ rfl)
      have n0_ := Aside0.mk (show Below w.heap.size w w7 from by rw [hw]; exact below_set HB.out GE.out)
      clear HB hw ea fa BK
      have HB := n0_
      clear n0_
      (repeat ((fail_if_success (with_reducible refine gate_callee (f := 59) rfl ?_)); first | go_values | go_skip | go_guarded | go_step | go_upon))
      refine goesL_ (some 18) rfl rfl Try.func59 (by kernel_rfl) rfl #[.slice A0 l0.length c0, .int .i64 a1, .func (.func 60) #[] #[.pointer (some ⟨g, 0, none⟩)]] rfl (by (try simp only [List.map_toArray, List.map_cons, List.map_nil]); first | done | rfl) ?_
      refine (impl_sharings.calls (fun (s : Int) W => W.heap[g]? = some (.cells #[.int .i64 s] 3 (0, 0))) (fun q_ => q_ = g) 60 #[.pointer (some ⟨g, 0, none⟩)] impl_CountSharings_1.f (enters_of Try.func60 (by kernel_rfl) rfl) A0 c0 l0 a1 w w7 HR0.out HC0.out ?hps HB.out ?hkeep ?hwith k 0 m B2.out A3.out).mono ?_
      case hps => rintro q rfl; exact ⟨GE.out, blk_lt B2.out⟩
      case hkeep => exact fun s W W' h1 h2 => blk_kept h1 h2 (fun h => h)
      case hwith => exact fun k s d s' r v W h1 h2 _ h4 => impl_CountSharings_1.calls g w GE.out k s d s' r v W h1 h2 h4
      rintro e w8 ⟨rfl, h1, h2, h3⟩
      refine ⟨_, rfl, ?_⟩
      have HB := Aside0.mk h3
      have ea : w8.cell? ⟨g, 0, none⟩ = some (.int .i64 m) := (blk_cell h1 0).trans rfl
      clear h1 h2 h3
      go_wp2
      go_ret2
      exact ⟨by first | rfl | (simp [errW_none, errW_some] <;> rfl) | (simp [*, errW_none, errW_some] <;> rfl), by repeat (first | (with_reducible first | exact HB.out | apply below_alloc | apply pw_below_drewN | apply below_drew1) | exact HB.out)⟩


/-! ### laws_FnExactCountSharings: function 9 -/
def laws_FnExactCountSharings.j0 : Nat → List Int → List Int → Bool → Option (Bool)
  | 0, _, _, _ => none
  | k + 1, x0, x7, x35 => if x35 = true then (some false) else ((laws_toIntS.f k x0).bind fun t181 => ((laws_eqIntS.f k x7 t181).bind fun t184 => (if t184 = true then (some true) else (some false))))
def laws_FnExactCountSharings.f (k : Nat) (l0 : List Int) (a1 : Int) : Option (Bool) := if (l0.length : Int) > 1048576 then (some true) else ((laws_toIntS.f k l0).bind fun t171 => ((spec_CountSharings.f k t171 a1).bind fun bt174 => ((laws_toIntS.f k l0).bind fun t176 => ((impl_CountSharings.f k t176 a1).bind fun bt179 => (if bt179.1 = bt174.1 then (laws_FnExactCountSharings.j0 k l0 t176 (bt179.2 != bt174.2)) else (laws_FnExactCountSharings.j0 k l0 t176 true))))))
theorem laws_FnExactCountSharings.mono_l : ∀ k, (∀ y0 y1 y2, LeO (laws_FnExactCountSharings.j0 k y0 y1 y2) (laws_FnExactCountSharings.j0 (k + 1) y0 y1 y2))
  | 0 => fun _ _ _ r h => by simp [laws_FnExactCountSharings.j0] at h
  | k + 1 => by
    have ih0 := laws_FnExactCountSharings.mono_l k
    · intro y0 y1 y2
      unfold laws_FnExactCountSharings.j0
      repeat' first
      | (with_reducible exact ih0 _ _ _)
      | (with_reducible exact impl_CountSharings.mono _ _ _)
      | (with_reducible exact laws_eqIntS.mono _ _ _)
      | (with_reducible exact laws_toIntS.mono _ _)
      | (with_reducible exact spec_CountSharings.mono _ _ _)
      | (with_reducible exact LeO.refl _)
      | (with_reducible exact LeO.none _)
      | (with_reducible refine LeO.ite ?_ ?_)
      | (with_reducible refine LeO.bind ?_ (fun _ => ?_))
      | exact ih0 _ _ _
      | exact impl_CountSharings.mono _ _ _
      | exact laws_eqIntS.mono _ _ _
      | exact laws_toIntS.mono _ _
      | exact spec_CountSharings.mono _ _ _
      | exact LeO.none _
      | refine LeO.ite ?_ ?_
      | refine LeO.bind ?_ (fun _ => ?_)
theorem laws_FnExactCountSharings.mono : ∀ a0 a1 k, LeO (laws_FnExactCountSharings.f k a0 a1) (laws_FnExactCountSharings.f (k + 1) a0 a1) := by
  intro a0 a1 k
  have ih0 := laws_FnExactCountSharings.mono_l k
  unfold laws_FnExactCountSharings.f
  repeat' first
      | (with_reducible exact ih0 _ _ _)
      | (with_reducible exact impl_CountSharings.mono _ _ _)
      | (with_reducible exact laws_eqIntS.mono _ _ _)
      | (with_reducible exact laws_toIntS.mono _ _)
      | (with_reducible exact spec_CountSharings.mono _ _ _)
      | (with_reducible exact LeO.refl _)
      | (with_reducible exact LeO.none _)
      | (with_reducible refine LeO.ite ?_ ?_)
      | (with_reducible refine LeO.bind ?_ (fun _ => ?_))
      | exact ih0 _ _ _
      | exact impl_CountSharings.mono _ _ _
      | exact laws_eqIntS.mono _ _ _
      | exact laws_toIntS.mono _ _
      | exact spec_CountSharings.mono _ _ _
      | exact LeO.none _
      | refine LeO.ite ?_ ?_
      | refine LeO.bind ?_ (fun _ => ?_)
set_option maxHeartbeats 8000000 in
set_option maxRecDepth 100000 in
theorem laws_FnExactCountSharings.calls (k : Nat) (A0 : Option Addr) (c0 : Nat) (l0 : List Int) (a1 : Int) (r : Bool) (w : World) (hr0 : Kd.C (Kd.int .i64) w A0 l0.length l0) (hc0 : l0.length ≤ c0) (h : laws_FnExactCountSharings.f k l0 a1 = some r) :
    Calls Try.prog 9 #[.slice A0 l0.length c0, .int .i64 a1] w fun e w' => e = .returned (.bool r) ∧ Below w.heap.size w w' := by
  have HR0 := Aside0.mk hr0
  have HC0 := Aside0.mk hc0
  clear hr0 hc0
  have HB := Aside0.mk (Below.refl w.heap.size w)
  have H : (if (l0.length : Int) > 1048576 then (some true) else ((laws_toIntS.f k l0).bind fun t171 => ((spec_CountSharings.f k t171 a1).bind fun bt174 => ((laws_toIntS.f k l0).bind fun t176 => ((impl_CountSharings.f k t176 a1).bind fun bt179 => (if bt179.1 = bt174.1 then (laws_FnExactCountSharings.j0 k l0 t176 (bt179.2 != bt174.2)) else (laws_FnExactCountSharings.j0 k l0 t176 true))))))) = some r := h
  clear h
  by_cases c3 : (l0.length : Int) > 1048576
  · rw [if_pos c3] at H
    have c3b0 : decide (1048576 < (l0.length : Int)) = true := decide_eq_true c3
    have c3b1 : decide (1048576 < l0.length) = true := decide_eq_true (by omega)
    clear c3
    obtain rfl := Option.some.inj H
    go_enter Try.func9, Try.ntmps9
    go_wp2
    go_ret
    exact ⟨by first | rfl | (simp [errW_none, errW_some] <;> rfl) | (simp [*, errW_none, errW_some] <;> rfl), by repeat (first | (with_reducible first | exact HB.out | apply below_alloc | apply pw_below_drewN | apply below_drew1) | exact HB.out)⟩
  · rw [if_neg c3] at H
    have c3b0 : decide (1048576 < (l0.length : Int)) = false := decide_eq_false c3
    have c3b1 : decide (1048576 < l0.length) = false := decide_eq_false (by omega)
    clear c3
    replace H := Option.bind_eq_some_iff.mp H
    obtain ⟨t171, A40, H⟩ := H
    replace H : ((spec_CountSharings.f k t171 a1).bind fun bt174 => ((laws_toIntS.f k l0).bind fun t176 => ((impl_CountSharings.f k t176 a1).bind fun bt179 => (if bt179.1 = bt174.1 then (laws_FnExactCountSharings.j0 k l0 t176 (bt179.2 != bt174.2)) else (laws_FnExactCountSharings.j0 k l0 t176 true))))) = some r := H
    have A4 := Aside0.mk A40
    clear A40
    replace H := Option.bind_eq_some_iff.mp H
    obtain ⟨⟨t174, t175⟩, A50, H⟩ := H
    replace H : ((laws_toIntS.f k l0).bind fun t176 => ((impl_CountSharings.f k t176 a1).bind fun bt179 => (if bt179.1 = t174 then (laws_FnExactCountSharings.j0 k l0 t176 (bt179.2 != t175)) else (laws_FnExactCountSharings.j0 k l0 t176 true)))) = some r := H
    have A5 := Aside0.mk A50
    clear A50
    replace H := Option.bind_eq_some_iff.mp H
    obtain ⟨t176, A60, H⟩ := H
    replace H : ((impl_CountSharings.f k t176 a1).bind fun bt179 => (if bt179.1 = t174 then (laws_FnExactCountSharings.j0 k l0 t176 (bt179.2 != t175)) else (laws_FnExactCountSharings.j0 k l0 t176 true))) = some r := H
    have A6 := Aside0.mk A60
    clear A60
    replace H := Option.bind_eq_some_iff.mp H
    obtain ⟨⟨t179, t180⟩, A70, H⟩ := H
    replace H : (if t179 = t174 then (laws_FnExactCountSharings.j0 k l0 t176 (t180 != t175)) else (laws_FnExactCountSharings.j0 k l0 t176 true)) = some r := H
    have A7 := Aside0.mk A70
    clear A70
    have HC8 := Aside0.mk H
    clear H
    go_enter Try.func9, Try.ntmps9
    go_upto_region 6 with (first | ((with_reducible refine gate_callee (f := 15) rfl ?_); refine goesL_ (some 15) rfl rfl Try.func15 (by kernel_rfl) rfl #[.slice A0 l0.length c0] rfl (by (try simp only [List.map_toArray, List.map_cons, List.map_nil]); first | done | rfl | (simp only [List.length_drop, List.length_take]; rfl)) ?_; (with_reducible refine (laws_toIntS.calls k _ _ l0 t171 _ ?side1 ?side2 A4.out).mono ?_); (case side1 => repeat (first | exact HR0.out | (with_reducible refine Kd.C_alloc ?_ _) | (with_reducible refine Kd.C_drewN ?_ _) | (with_reducible refine Kd.C_drew ?_))); (case side2 => exact HC0.out); rintro e w9 ⟨v172, rfl, ho0, hb⟩; refine ⟨_, rfl, ?_⟩; have n0_ := Aside0.mk (Kd.R_lower ho0 (below_size (by repeat (first | (with_reducible first | exact HB.out | apply below_alloc | apply pw_below_drewN | apply below_drew1) | exact HB.out)))); have n1_ := Aside0.mk (below_step (by repeat (first | (with_reducible first | exact HB.out | apply below_alloc | apply pw_below_drewN | apply below_drew1) | exact HB.out)) hb); clear HB; have HO173 := n0_; have HB := n1_; clear n0_ n1_; (try clear hb); (try clear hb2); (try clear hk); (try clear hi); (try clear ho0); obtain ⟨Ao10, co10, eo10⟩ := Kd.R_slice HO173.out; subst eo10) | ((with_reducible refine gate_callee (f := 34) rfl ?_); refine goesL_ (some 17) rfl rfl Try.func34 (by kernel_rfl) rfl #[.slice Ao10 t171.length co10, .int .i64 a1] rfl (by (try simp only [List.map_toArray, List.map_cons, List.map_nil]); first | done | rfl | (simp only [List.length_drop, List.length_take]; rfl)) ?_; (with_reducible refine (spec_CountSharings.calls k _ _ t171 a1 t174 t175 _ ?side1 ?side2 A5.out).mono ?_); (case side1 => repeat (first | exact (Kd.R_reads' HO173.out).2.2 | (with_reducible refine Kd.C_alloc ?_ _) | (with_reducible refine Kd.C_drewN ?_ _) | (with_reducible refine Kd.C_drew ?_))); (case side2 => exact (Kd.R_reads' HO173.out).2.1); rintro e w11 ⟨rfl, hb⟩; refine ⟨_, rfl, ?_⟩; have n0_ := Aside0.mk (Kd.R_below (by (with_reducible repeat (first | apply Kd.R_alloc | apply Kd.R_drewN | apply Kd.R_drew)); exact HO173.out) hb); have n1_ := Aside0.mk (below_step (by repeat (first | (with_reducible first | exact HB.out | apply below_alloc | apply pw_below_drewN | apply below_drew1) | exact HB.out)) hb); clear HO173; clear HB; have HO173 := n0_; have HB := n1_; clear n0_ n1_; (try clear hb); (try clear hb2); (try clear hk); (try clear hi)) | ((with_reducible refine gate_callee (f := 15) rfl ?_); refine goesL_ (some 21) rfl rfl Try.func15 (by kernel_rfl) rfl #[.slice A0 l0.length c0] rfl (by (try simp only [List.map_toArray, List.map_cons, List.map_nil]); first | done | rfl | (simp only [List.length_drop, List.length_take]; rfl)) ?_; (with_reducible refine (laws_toIntS.calls k _ _ l0 t176 _ ?side1 ?side2 A6.out).mono ?_); (case side1 => repeat (first | exact (Kd.C_below HR0.out HB.out) | (with_reducible refine Kd.C_alloc ?_ _) | (with_reducible refine Kd.C_drewN ?_ _) | (with_reducible refine Kd.C_drew ?_))); (case side2 => exact HC0.out); rintro e w12 ⟨v177, rfl, ho0, hb⟩; refine ⟨_, rfl, ?_⟩; have n0_ := Aside0.mk (Kd.R_elder' (by (with_reducible repeat (first | apply Kd.R_alloc | apply Kd.R_drewN | apply Kd.R_drew)); exact HO173.out) (Kd.R_base ho0) hb); have n1_ := Aside0.mk (Kd.R_lower (Kd.R_new' ho0 (Kd.R_lt (by (with_reducible repeat (first | apply Kd.R_alloc | apply Kd.R_drewN | apply Kd.R_drew)); exact HO173.out))) (below_size (by repeat (first | (with_reducible first | exact HB.out | apply below_alloc | apply pw_below_drewN | apply below_drew1) | exact HB.out)))); have n2_ := Aside0.mk (below_step (by repeat (first | (with_reducible first | exact HB.out | apply below_alloc | apply pw_below_drewN | apply below_drew1) | exact HB.out)) hb); clear HO173; clear HB; have HO173 := n0_; have HO178 := n1_; have HB := n2_; clear n0_ n1_ n2_; (try clear hb); (try clear hb2); (try clear hk); (try clear hi); (try clear ho0); obtain ⟨Ao13, co13, eo13⟩ := Kd.R_slice HO178.out; subst eo13) | ((with_reducible refine gate_callee (f := 35) rfl ?_); refine goesL_ (some 25) rfl rfl Try.func35 (by kernel_rfl) rfl #[.slice Ao13 t176.length co13, .int .i64 a1] rfl (by (try simp only [List.map_toArray, List.map_cons, List.map_nil]); first | done | rfl | (simp only [List.length_drop, List.length_take]; rfl)) ?_; (with_reducible refine (impl_CountSharings.calls k _ _ t176 a1 t179 t180 _ ?side1 ?side2 A7.out).mono ?_); (case side1 => repeat (first | exact (Kd.R_reads' HO178.out).2.2 | (with_reducible refine Kd.C_alloc ?_ _) | (with_reducible refine Kd.C_drewN ?_ _) | (with_reducible refine Kd.C_drew ?_))); (case side2 => exact (Kd.R_reads' HO178.out).2.1); rintro e w14 ⟨rfl, hb⟩; refine ⟨_, rfl, ?_⟩; have n0_ := Aside0.mk (Kd.R_below (by (with_reducible repeat (first | apply Kd.R_alloc | apply Kd.R_drewN | apply Kd.R_drew)); exact HO173.out) hb); have n1_ := Aside0.mk (Kd.R_below (by (with_reducible repeat (first | apply Kd.R_alloc | apply Kd.R_drewN | apply Kd.R_drew)); exact HO178.out) hb); have n2_ := Aside0.mk (below_step (by repeat (first | (with_reducible first | exact HB.out | apply below_alloc | apply pw_below_drewN | apply below_drew1) | exact HB.out)) hb); clear HO173; clear HO178; clear HB; have HO173 := n0_; have HO178 := n1_; have HB := n2_; clear n0_ n1_ n2_; (try clear hb); (try clear hb2); (try clear hk); (try clear hi)))
    (try simp only [Act.put, List.setIfInBounds_toArray, List.set_cons_zero, List.set_cons_succ])
    go_cut [35] (fun v35 wc => ∃ (kq : Nat) (x35_7 : Bool), v35 = .bool x35_7 ∧ Aside0 (laws_FnExactCountSharings.j0 kq l0 t176 x35_7 = some r) ∧ Aside0 (kq ≤ k) ∧ Aside0 (Kd.R (Kd.int .i64) 3 wc w.heap.size (fun _ => True) (.slice Ao13 t176.length co13) t176) ∧ Aside0 (Below w.heap.size w wc))
    case first =>
      have H := HC8.out
      clear HC8
      by_cases c15 : t179 = t174
      · rw [if_pos c15] at H
        have c15b0 : (t179 == t174) = true := beq_iff_eq.mpr c15
        have c15b1 : (t179 != t174) = false := bne_eq_false_iff_eq.mpr c15
        clear c15
        (first | rw [c15b0] | (simp only [i64_w, i32_w]; rw [c15b0]) | skip)
        have H' := Aside0.mk H
        clear H
        go_wp2
        go_meet
        case rel => exact ⟨_, ((t180 != t175)), (by first | rfl | (simp; done) | (simp [*]; done)), H', ⟨by first | omega | exact Nat.le_refl _⟩, ⟨by (with_reducible repeat (first | apply Kd.R_alloc | apply Kd.R_drewN | apply Kd.R_drew)); exact Kd.R_mono HO178.out (fun _ hk => trivial)⟩, ⟨by repeat (first | (with_reducible first | exact HB.out | apply below_alloc | apply pw_below_drewN | apply below_drew1) | exact HB.out)⟩⟩
      · rw [if_neg c15] at H
        have c15b0 : (t179 == t174) = false := beq_eq_false_iff_ne.mpr c15
        have c15b1 : (t179 != t174) = true := bne_iff_ne.mpr c15
        (first | rw [c15b0] | (simp only [i64_w, i32_w]; rw [c15b0]) | skip)
        have H' := Aside0.mk H
        clear H
        go_wp2
        go_meet
        case rel => exact ⟨_, (true), (by first | rfl | (simp; done) | (simp [*]; done)), H', ⟨by first | omega | exact Nat.le_refl _⟩, ⟨by (with_reducible repeat (first | apply Kd.R_alloc | apply Kd.R_drewN | apply Kd.R_drew)); exact Kd.R_mono HO178.out (fun _ hk => trivial)⟩, ⟨by repeat (first | (with_reducible first | exact HB.out | apply below_alloc | apply pw_below_drewN | apply below_drew1) | exact HB.out)⟩⟩
    case rest =>
      clear HC8
      try clear c1
      try clear p2
      try clear c3
      try clear c3b0
      try clear c3b1
      try clear c9
      try clear c15
      try clear c15b0
      try clear c15b1
      obtain ⟨kq, x35_7, rfl, HA, HJ7, HO_7, HB⟩ := hcut
      cases kq with
      | zero => exact absurd HA.out (by simp [laws_FnExactCountSharings.j0])
      | succ kj7 =>
        have H := HA.out
        clear HA
        simp only [laws_FnExactCountSharings.j0] at H
        by_cases c16 : x35_7 = true
        · subst c16
          have H1 : (some false) = some r := by rw [if_pos rfl] at H; exact H
          clear H
          have H := H1
          clear H1
          obtain rfl := Option.some.inj H
          go_wp2
          go_ret
          exact ⟨by first | rfl | (simp [errW_none, errW_some] <;> rfl) | (simp [*, errW_none, errW_some] <;> rfl), by repeat (first | (with_reducible first | exact HB.out | apply below_alloc | apply pw_below_drewN | apply below_drew1) | exact HB.out)⟩
        · replace c16 := Bool.eq_false_iff.mpr c16
          subst c16
          have H1 : ((laws_toIntS.f kj7 l0).bind fun t181 => ((laws_eqIntS.f kj7 t176 t181).bind fun t184 => (if t184 = true then (some true) else (some false)))) = some r := by rw [if_neg (show ¬ (false = true) by decide)] at H; exact H
          clear H
          have H := H1
          clear H1
          replace H := Option.bind_eq_some_iff.mp H
          obtain ⟨t181, A170, H⟩ := H
          replace H : ((laws_eqIntS.f kj7 t176 t181).bind fun t184 => (if t184 = true then (some true) else (some false))) = some r := H
          have A17 := Aside0.mk A170
          clear A170
          replace H := Option.bind_eq_some_iff.mp H
          obtain ⟨t184, A180, H⟩ := H
          replace H : (if t184 = true then (some true) else (some false)) = some r := H
          have A18 := Aside0.mk A180
          clear A180
          by_cases c19 : t184 = true
          · subst c19
            have H1 : (some true) = some r := by rw [if_pos rfl] at H; exact H
            clear H
            have H := H1
            clear H1
            obtain rfl := Option.some.inj H
            go_wp2_with (first | ((with_reducible refine gate_callee (f := 15) rfl ?_); refine goesL_ (some 38) rfl rfl Try.func15 (by kernel_rfl) rfl #[.slice A0 l0.length c0] rfl (by (try simp only [List.map_toArray, List.map_cons, List.map_nil]); first | done | rfl | (simp only [List.length_drop, List.length_take]; rfl)) ?_; (with_reducible refine (laws_toIntS.calls kj7 _ _ l0 t181 _ ?side1 ?side2 A17.out).mono ?_); (case side1 => repeat (first | exact (Kd.C_below HR0.out HB.out) | (with_reducible refine Kd.C_alloc ?_ _) | (with_reducible refine Kd.C_drewN ?_ _) | (with_reducible refine Kd.C_drew ?_))); (case side2 => exact HC0.out); rintro e w20 ⟨v182, rfl, ho0, hb⟩; refine ⟨_, rfl, ?_⟩; have n0_ := Aside0.mk (Kd.R_elder' (by (with_reducible repeat (first | apply Kd.R_alloc | apply Kd.R_drewN | apply Kd.R_drew)); exact HO_7.out) (Kd.R_base ho0) hb); have n1_ := Aside0.mk (Kd.R_lower (Kd.R_new' ho0 (Kd.R_lt (by (with_reducible repeat (first | apply Kd.R_alloc | apply Kd.R_drewN | apply Kd.R_drew)); exact HO_7.out))) (below_size (by repeat (first | (with_reducible first | exact HB.out | apply below_alloc | apply pw_below_drewN | apply below_drew1) | exact HB.out)))); have n2_ := Aside0.mk (below_step (by repeat (first | (with_reducible first | exact HB.out | apply below_alloc | apply pw_below_drewN | apply below_drew1) | exact HB.out)) hb); clear HO_7; clear HB; have HO_7 := n0_; have HO183 := n1_; have HB := n2_; clear n0_ n1_ n2_; (try clear hb); (try clear hb2); (try clear hk); (try clear hi); (try clear ho0); obtain ⟨Ao21, co21, eo21⟩ := Kd.R_slice HO183.out; subst eo21) | ((with_reducible refine gate_callee (f := 17) rfl ?_); refine goesL_ (some 39) rfl rfl Try.func17 (by kernel_rfl) rfl #[.slice Ao13 t176.length co13, .slice Ao21 t181.length co21] rfl (by (try simp only [List.map_toArray, List.map_cons, List.map_nil]); first | done | rfl | (simp only [List.length_drop, List.length_take]; rfl)) ?_; (with_reducible refine (laws_eqIntS.calls kj7 _ _ t176 _ _ t181 true _ ?side1 ?side2 ?side3 ?side4 A18.out).mono ?_); (case side1 => repeat (first | exact (Kd.R_reads' HO_7.out).2.2 | (with_reducible refine Kd.C_alloc ?_ _) | (with_reducible refine Kd.C_drewN ?_ _) | (with_reducible refine Kd.C_drew ?_))); (case side2 => exact (Kd.R_reads' HO_7.out).2.1); (case side3 => repeat (first | exact (Kd.R_reads' HO183.out).2.2 | (with_reducible refine Kd.C_alloc ?_ _) | (with_reducible refine Kd.C_drewN ?_ _) | (with_reducible refine Kd.C_drew ?_))); (case side4 => exact (Kd.R_reads' HO183.out).2.1); rintro e w' ⟨rfl, ⟨nd, rfl⟩⟩; refine ⟨_, rfl, ?_⟩))
            go_ret
            exact ⟨by first | rfl | (simp [errW_none, errW_some] <;> rfl) | (simp [*, errW_none, errW_some] <;> rfl), by repeat (first | (with_reducible first | exact HB.out | apply below_alloc | apply pw_below_drewN | apply below_drew1) | exact HB.out)⟩
          · replace c19 := Bool.eq_false_iff.mpr c19
            subst c19
            have H1 : (some false) = some r := by rw [if_neg (show ¬ (false = true) by decide)] at H; exact H
            clear H
            have H := H1
            clear H1
            obtain rfl := Option.some.inj H
            go_wp2_with (first | ((with_reducible refine gate_callee (f := 15) rfl ?_); refine goesL_ (some 38) rfl rfl Try.func15 (by kernel_rfl) rfl #[.slice A0 l0.length c0] rfl (by (try simp only [List.map_toArray, List.map_cons, List.map_nil]); first | done | rfl | (simp only [List.length_drop, List.length_take]; rfl)) ?_; (with_reducible refine (laws_toIntS.calls kj7 _ _ l0 t181 _ ?side1 ?side2 A17.out).mono ?_); (case side1 => repeat (first | exact (Kd.C_below HR0.out HB.out) | (with_reducible refine Kd.C_alloc ?_ _) | (with_reducible refine Kd.C_drewN ?_ _) | (with_reducible refine Kd.C_drew ?_))); (case side2 => exact HC0.out); rintro e w22 ⟨v182, rfl, ho0, hb⟩; refine ⟨_, rfl, ?_⟩; have n0_ := Aside0.mk (Kd.R_elder' (by (with_reducible repeat (first | apply Kd.R_alloc | apply Kd.R_drewN | apply Kd.R_drew)); exact HO_7.out) (Kd.R_base ho0) hb); have n1_ := Aside0.mk (Kd.R_lower (Kd.R_new' ho0 (Kd.R_lt (by (with_reducible repeat (first | apply Kd.R_alloc | apply Kd.R_drewN | apply Kd.R_drew)); exact HO_7.out))) (below_size (by repeat (first | (with_reducible first | exact HB.out | apply below_alloc | apply pw_below_drewN | apply below_drew1) | exact HB.out)))); have n2_ := Aside0.mk (below_step (by repeat (first | (with_reducible first | exact HB.out | apply below_alloc | apply pw_below_drewN | apply below_drew1) | exact HB.out)) hb); clear HO_7; clear HB; have HO_7 := n0_; have HO183 := n1_; have HB := n2_; clear n0_ n1_ n2_; (try clear hb); (try clear hb2); (try clear hk); (try clear hi); (try clear ho0); obtain ⟨Ao23, co23, eo23⟩ := Kd.R_slice HO183.out; subst eo23) | ((with_reducible refine gate_callee (f := 17) rfl ?_); refine goesL_ (some 39) rfl rfl Try.func17 (by kernel_rfl) rfl #[.slice Ao13 t176.length co13, .slice Ao23 t181.length co23] rfl (by (try simp only [List.map_toArray, List.map_cons, List.map_nil]); first | done | rfl | (simp only [List.length_drop, List.length_take]; rfl)) ?_; (with_reducible refine (laws_eqIntS.calls kj7 _ _ t176 _ _ t181 false _ ?side1 ?side2 ?side3 ?side4 A18.out).mono ?_); (case side1 => repeat (first | exact (Kd.R_reads' HO_7.out).2.2 | (with_reducible refine Kd.C_alloc ?_ _) | (with_reducible refine Kd.C_drewN ?_ _) | (with_reducible refine Kd.C_drew ?_))); (case side2 => exact (Kd.R_reads' HO_7.out).2.1); (case side3 => repeat (first | exact (Kd.R_reads' HO183.out).2.2 | (with_reducible refine Kd.C_alloc ?_ _) | (with_reducible refine Kd.C_drewN ?_ _) | (with_reducible refine Kd.C_drew ?_))); (case side4 => exact (Kd.R_reads' HO183.out).2.1); rintro e w' ⟨rfl, ⟨nd, rfl⟩⟩; refine ⟨_, rfl, ?_⟩))
            go_ret
            exact ⟨by first | rfl | (simp [errW_none, errW_some] <;> rfl) | (simp [*, errW_none, errW_some] <;> rfl), by repeat (first | (with_reducible first | exact HB.out | apply below_alloc | apply pw_below_drewN | apply below_drew1) | exact HB.out)⟩

/-- THE ONE PURE STATEMENT of laws_FnExactCountSharings: yours. -/
def laws_FnExactCountSharings.Pure : Prop := ∀ (l0 : List Int) (a1 : Int), l0.length ≤ maxLen → l0.length * 8 ≤ 140737488351232 → (∀ x ∈ l0, (Lit.int .i64 x).wf = true) → (Lit.int .i64 a1).wf = true → ∃ k, laws_FnExactCountSharings.f k l0 a1 = some true
theorem laws_FnExactCountSharings.walk (P : laws_FnExactCountSharings.Pure) (a0 : Option Addr) (len0 cap0 : Nat) (z0 : List Int) (a1 : Int) (w : World) (w0 : (a0 = none ∧ len0 = 0 ∧ cap0 = 0 ∧ z0 = []) ∨ ∃ x, a0 = some x ∧ len0 ≤ cap0 ∧ cap0 ≤ maxLen ∧ z0.length = cap0 ∧ (∀ i, i < z0.length → w.cell? (x.add i) = some (.int .i64 (z0.getD i 0))) ∧ ∀ n ∈ z0, (Lit.int .i64 n).wf = true) (y0 : len0 * 8 ≤ 140737488351232) (w1 : (Lit.int .i64 a1).wf = true) :
    Calls Try.prog 9 #[.slice a0 len0 cap0, .int .i64 a1] w fun e w' => e = .returned (.bool true) ∧ Below w.heap.size w w' := by
  obtain ⟨l0, rfl, hr0, hm0, hw0, hc0⟩ := ReadsInt.ofRowC w0
  obtain ⟨k, h⟩ := P l0 a1 hm0 y0 hw0 w1
  refine (laws_FnExactCountSharings.calls k _ _ l0 a1 true w (Kd.C_of_reads (d := (0 : Int)) (h1 := fun _ => rfl) hr0) hc0 h).mono ?_
  rintro e w' ⟨rfl, hd⟩
  exact ⟨rfl, hd⟩

end Go.Proofs.Ytbbfgejnlfafpaa.PFnExactCountSharings
