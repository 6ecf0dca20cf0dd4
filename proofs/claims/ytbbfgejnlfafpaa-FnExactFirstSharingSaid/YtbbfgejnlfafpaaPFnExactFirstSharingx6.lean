-- laid by mkprint.py, a program of this claim's writer, over the kit's print program; parts of it are typed by hand
import Derived.Test.YtbbfgejnlfafpaaPFnExactFirstSharingx0
import Derived.Test.YtbbfgejnlfafpaaPFnExactFirstSharingx4
import Derived.Test.YtbbfgejnlfafpaaPFnExactFirstSharingx5
namespace Go.Proofs.Ytbbfgejnlfafpaa.PFnExactFirstSharing
open Go.RowKit Go.Proofs.YtbbfgejnlfafpaaW.PrintWords Go.Proofs.YtbbfgejnlfafpaaW.PrintLast Go.Proofs.YtbbfgejnlfafpaaW.PrintMore
attribute [local go_sem] max2_int min2_int max_two min_two max_three min_three max_four min_four   -- for this text's walks alone
set_option linter.unusedVariables false
set_option linter.unusedSimpArgs false

/-! ### impl_sharings: function 59 -/
def impl_sharings.f {σ : Type} (of_ : Nat → σ → List Int → Option (σ × Bool)) (k : Nat) (o : List Int) (n : Int) (s : σ) : Option σ := (impl_sharings_1.f of_ k o n s []).bind fun x => some x.1
theorem impl_sharings.mono {σ : Type} (of_ : Nat → σ → List Int → Option (σ × Bool)) (hm : ∀ s d k, LeO (of_ k s d) (of_ (k + 1) s d)) : ∀ o n s k, LeO (impl_sharings.f of_ k o n s) (impl_sharings.f of_ (k + 1) o n s) := fun o n s k => LeO.bind ((impl_sharings_1.mono_l of_ hm k).1 o n s []) (fun _ => LeO.refl _)
set_option maxHeartbeats 8000000 in
set_option maxRecDepth 100000 in
theorem impl_sharings.calls {σ : Type} (St : σ → World → Prop) (PS : Nat → Prop) (g_ : Nat) (lb_ : Array Value) (of_ : Nat → σ → List Int → Option (σ × Bool)) (eg_ : ∀ args w, (callFunc g_ args).run Try.prog w = .ok (.enter g_ args) w) (A0 : Option Addr) (c0 : Nat) (l0 : List Int) (n : Int) (w0 w : World)
    (hr0 : Kd.C (Kd.int .i64) w0 A0 l0.length l0) (hc0 : l0.length ≤ c0) (hPS : ∀ q, PS q → w0.heap.size ≤ q ∧ q < w.heap.size) (hB : Below w0.heap.size w0 w) (hKeep : ∀ s W W', St s W → Kept W W' (fun _ => False) → St s W')
    (hWith : ∀ (k : Nat) (s : σ) (d : List Int) (s' : σ) (r : Bool) (v : Value) (W : World), St s W → Below w0.heap.size w0 W → Kd.R (Kd.int .i64) 3 W w0.heap.size (fun q_ => w0.heap.size ≤ q_ ∧ ¬ PS q_) v d → of_ k s d = some (s', r) → Calls Try.prog g_ (#[v] ++ lb_) W fun e W' => e = .returned (.bool r) ∧ St s' W' ∧ Kept W W' PS ∧ Below w0.heap.size w0 W')
    (K : Nat) (s s' : σ) (hst : St s w) (h : impl_sharings.f of_ K l0 n s = some s') :
    Calls Try.prog 59 #[.slice A0 l0.length c0, .int .i64 n, .func (.func g_) #[] lb_] w fun e W' => e = .returned (.tuple #[]) ∧ St s' W' ∧ Kept w W' PS ∧ Below w0.heap.size w0 W' := by
  obtain ⟨⟨s2, r2⟩, h1, h2⟩ := Option.bind_eq_some_iff.1 h
  obtain rfl := Option.some.inj h2
  have HF := Aside0.mk h1
  have HB := Aside0.mk hB
  have HBw := Aside0.mk hB
  have HST := Aside0.mk hst
  have HR0 := Aside0.mk hr0
  have HC0 := Aside0.mk hc0
  have HPS := Aside0.mk hPS
  have HKEEP := Aside0.mk hKeep
  have HWITH := Aside0.mk hWith
  have HK := Aside0.mk (Kept.refl w (fun _ => False))
  clear h h1 h2 hB hst hr0 hc0 hPS hKeep hWith
  go_enter Try.func59, Try.ntmps59
  (repeat ((fail_if_success (with_reducible refine gate_dst (N := 3) rfl ?_)); first | go_values | go_skip | go_guarded | go_step | go_upon))
  refine box_event ?hg (N := 3) ?hd (cs := #[.slice A0 l0.length c0]) (t := 22) ?hr ?_
  case hd => rfl
  case hg => rfl
  case hr => first | (go_simp; done) | (go_simp; rfl)
  intro bO hg w1 hbox hb
  have n0_ := Aside0.mk (below_step HB.out hb)
  have n1_ := Aside0.mk (HK.out.below hb)
  have BO := Aside0.mk hbox
  have GO := Aside0.mk hg
  clear HB HK hg hb hbox 
  have HB := n0_
  have HK := n1_
  clear n0_ n1_ 
  have s1 := Aside0.mk (blk_lt BO.out)
  (repeat ((fail_if_success (with_reducible refine gate_dst (N := 4) rfl ?_)); first | go_values | go_skip | go_guarded | go_step | go_upon))
  refine box_event ?hg (N := 4) ?hd (cs := #[.int .i64 n]) (t := 3) ?hr ?_
  case hd => rfl
  case hg => rfl
  case hr => first | (go_simp; done) | (go_simp; rfl)
  intro bS hg w2 hbox hb
  have n0_ := Aside0.mk (below_step HB.out hb)
  have n1_ := Aside0.mk (HK.out.below hb)
  have m0_ := Aside0.mk (blk_below BO.out hb)
  have BS := Aside0.mk hbox
  have GS := Aside0.mk hg
  clear HB HK hg hb hbox BO
  have HB := n0_
  have HK := n1_
  have BO := m0_
  clear n0_ n1_ m0_
  have s2 := Aside0.mk (blk_lt BS.out)
  (repeat ((fail_if_success (with_reducible refine gate_dst (N := 5) rfl ?_)); first | go_values | go_skip | go_guarded | go_step | go_upon))
  refine box_event ?hg (N := 5) ?hd (cs := #[.func (.func g_) #[] lb_]) (t := 36) ?hr ?_
  case hd => rfl
  case hg => rfl
  case hr => first | (go_simp; done) | (go_simp; rfl)
  intro bW hg w3 hbox hb
  have n0_ := Aside0.mk (below_step HB.out hb)
  have n1_ := Aside0.mk (HK.out.below hb)
  have m0_ := Aside0.mk (blk_below BO.out hb)
  have m1_ := Aside0.mk (blk_below BS.out hb)
  have BW := Aside0.mk hbox
  have GW := Aside0.mk hg
  clear HB HK hg hb hbox BO BS
  have HB := n0_
  have HK := n1_
  have BO := m0_
  have BS := m1_
  clear n0_ n1_ m0_ m1_
  have s3 := Aside0.mk (blk_lt BW.out)
  (repeat ((fail_if_success (with_reducible refine gate_dst (N := 6) rfl ?_)); first | go_values | go_skip | go_guarded | go_step | go_upon))
  refine box_event ?hg (N := 6) ?hd (cs := #[.nilFunc]) (t := 36) ?hr ?_
  case hd => rfl
  case hg => rfl
  case hr => first | (go_simp; done) | (go_simp; rfl)
  intro bA hg w4 hbox hb
  have n0_ := Aside0.mk (below_step HB.out hb)
  have n1_ := Aside0.mk (HK.out.below hb)
  have m0_ := Aside0.mk (blk_below BO.out hb)
  have m1_ := Aside0.mk (blk_below BS.out hb)
  have m2_ := Aside0.mk (blk_below BW.out hb)
  have BA := Aside0.mk hbox
  have GA := Aside0.mk hg
  clear HB HK hg hb hbox BO BS BW
  have HB := n0_
  have HK := n1_
  have BO := m0_
  have BS := m1_
  have BW := m2_
  clear n0_ n1_ m0_ m1_ m2_
  have HLT := Aside0.mk (show w.heap.size ≤ bO ∧ bO < bS ∧ bO < bW ∧ bO < bA ∧ bS ≠ bA ∧ bW ≠ bA from by have := GO.out; have := GS.out; have := GW.out; have := GA.out; have := s1.out; have := s2.out; have := s3.out; omega)
  clear GO GS GW GA s1 s2 s3
  have ea : w4.cell? ⟨bA, 0, none⟩ = some .nilFunc := (blk_cell BA.out 0).trans rfl
  have fa : w4.frozen? ⟨bA, 0, none⟩ = false := blk_frozen BA.out 0
  (repeat ((fail_if_success (with_reducible refine gate_store (t := 36) (p := 6) rfl ?_)); first | go_values | go_skip | go_guarded | go_step | go_upon))
  refine store_event (t := 36) (p := 6) (v := ?vo) (w1 := (w4.setCell ⟨bA, 0, none⟩ (.func (.func 77) #[] #[.pointer (some ⟨bO, 0, none⟩), .pointer (some ⟨bW, 0, none⟩), .pointer (some ⟨bS, 0, none⟩), .pointer (some ⟨bA, 0, none⟩)]))) ?hg ?ho ?hn ?hr ?_
  case ho => rfl
  case hg => rfl
  case hn => rfl
  case hr => first | (go_simp; done) | (go_simp; rfl)
  intro w5 hw
  have BA2 := Aside0.mk (show w5.heap[bA]? = some (.cells #[.func (.func 77) #[] #[.pointer (some ⟨bO, 0, none⟩), .pointer (some ⟨bW, 0, none⟩), .pointer (some ⟨bS, 0, none⟩), .pointer (some ⟨bA, 0, none⟩)]] 36 (0, 0)) from by rw [hw]; exact blk_put (cs := #[.nilFunc]) BA.out 0 _ rfl)
  have hk5 : Kept w4 w5 (fun q_ => q_ = bA) := by rw [hw]; exact (Kept.refl w4 (fun q_ => q_ = bA)).setCell (p := ⟨bA, 0, none⟩) (.inl rfl) _
  have n0_ := Aside0.mk (show Below w0.heap.size w0 w5 from by rw [hw]; exact below_set HB.out (by have := HLT.out; have := HB.out.size; have h1_ := HBw.out.size; omega))
  have n1_ := Aside0.mk (show Kept w w5 (fun _ => False) from HK.out.then_ hk5 (fun q_ h_ => .inr (by have := HLT.out; omega)))
  have HCAP := Aside0.mk (show ShCap A0 c0 l0 n g_ lb_ bO bW bS bA w5 from ⟨blk_kept BO.out hk5 (by have := HLT.out; omega), blk_kept BW.out hk5 (by have := HLT.out; omega), blk_kept BS.out hk5 (by have := HLT.out; omega), BA2.out⟩)
  clear HB HK BO BS BW BA BA2 hk5 hw ea fa
  have HB := n0_
  have HK := n1_
  clear n0_ n1_
  have ea : w5.cell? ⟨bA, 0, none⟩ = some (.func (.func 77) #[] #[.pointer (some ⟨bO, 0, none⟩), .pointer (some ⟨bW, 0, none⟩), .pointer (some ⟨bS, 0, none⟩), .pointer (some ⟨bA, 0, none⟩)]) := (blk_cell HCAP.out.2.2.2 0).trans rfl
  (repeat ((fail_if_success (with_reducible refine gate_dst (N := 9) rfl ?_)); first | go_values | go_skip | go_guarded | go_step | go_upon))
  refine Kd.R_lit (Kd.int .i64) _ 3 ?hg (N := 9) ?hd (xs := ([] : List Int)) (inner := []) (ok := fun _ => True) (okp := fun _ => True) ?hr ?hp (fun _ hk => hk) trivial (Below.refl _ _) (Nat.le_refl _) (by simp) ?_
  case hd => rfl
  case hg => rfl
  case hr => first | (go_simp; done) | (go_simp; rfl)
  case hp => exact (Reps.none _ _)
  intro v9 w6 ho hb hg_ hnew_
  clear hg_ hnew_
  have HV := Aside0.mk (show Kd.R (Kd.int .i64) 3 w6 w0.heap.size (fun q_ => w0.heap.size ≤ q_ ∧ ¬ PS q_) v9 [] from Kd.R_lower (Kd.R_mono (Kd.R_bound ho) (fun q_ h_ => ⟨Nat.le_trans HB.out.size h_.2.1, fun hp_ => by have h1_ := (HPS.out q_ hp_).2; have h2_ := h_.2.1; have h3_ := HK.out.1; omega⟩)) HB.out.size)
  have n0_ := Aside0.mk (below_step HB.out hb)
  have n1_ := Aside0.mk (HK.out.below hb)
  have n2_ := Aside0.mk (HCAP.out.kept (Kept.of_below hb (fun _ => False)) (fun h => h) (fun h => h) (fun h => h) (fun h => h))
  clear HB HK HCAP ho hb ea
  have HB := n0_
  have HK := n1_
  have HCAP := n2_
  clear n0_ n1_ n2_
  (repeat ((fail_if_success (with_reducible refine gate_dst (N := 10) rfl ?_)); first | go_values | go_skip | go_guarded | go_step | go_upon))
  refine goesV_ (some 10) rfl rfl (enters_of Try.func77 (by kernel_rfl) rfl) #[.pointer (some ⟨bO, 0, none⟩), .pointer (some ⟨bW, 0, none⟩), .pointer (some ⟨bS, 0, none⟩), .pointer (some ⟨bA, 0, none⟩)] #[v9] rfl rfl (by (try simp only [List.map_toArray, List.map_cons, List.map_nil]); first | done | rfl) ?_
  refine (impl_sharings_1.calls St PS g_ lb_ of_ eg_ bO bW bS bA A0 c0 l0 n w0 HR0.out HC0.out (fun q hq => ⟨(HPS.out q hq).1, by have := (HPS.out q hq).2; have := HLT.out; omega⟩) ⟨HLT.out.2.1, HLT.out.2.2.1, HLT.out.2.2.2.1⟩ HKEEP.out HWITH.out K s [] _ r2 v9 w6 HCAP.out (HKEEP.out _ _ _ HST.out HK.out) HB.out HV.out HF.out).mono ?_
  rintro e w7 ⟨rfl, h1, h2, h3⟩
  refine ⟨_, rfl, ?_⟩
  have HZ := Aside0.mk (And.intro h1 (And.intro ((HK.out.mono (S' := PS) (fun _ h => h.elim)).then_ h2 (fun _ h => .inl h)) h3))
  clear h1 h2 h3 HB HK HCAP HV HST HF
  go_wp2
  go_end0
  exact ⟨rfl, HZ.out⟩


-- NOT PRINTED: function 83 (impl_firstSharing_1)

/-! ### impl_firstSharing: function 68 -/
def impl_firstSharing_1.f (_k : Nat) (_s : List Int × Bool) (d : List Int) : Option ((List Int × Bool) × Bool) := some ((d, true), true)
def FsSt (gO gF base : Nat) (s : List Int × Bool) (W : World) : Prop := (∃ vo, W.heap[gO]? = some (.cells #[vo] 22 (0, 0)) ∧ Kd.R (Kd.int .i64) 3 W base (fun q_ => base ≤ q_ ∧ ¬ (q_ = gO ∨ q_ = gF)) vo s.1) ∧ W.heap[gF]? = some (.cells #[.bool s.2] 4 (0, 0))
theorem FsSt.kept {gO gF base : Nat} {s : List Int × Bool} {W W' : World} (h : FsSt gO gF base s W) (hk : Kept W W' (fun _ => False)) : FsSt gO gF base s W' := by
  obtain ⟨⟨vo, h1, h2⟩, h3⟩ := h
  exact ⟨⟨vo, blk_kept h1 hk (fun h => h), Kd.R_kept h2 hk (fun _ _ h => h)⟩, blk_kept h3 hk (fun h => h)⟩
set_option maxHeartbeats 8000000 in
set_option maxRecDepth 100000 in
theorem impl_firstSharing_1.calls (gO gF : Nat) (hne : gO ≠ gF) (w0 : World) (hgO : w0.heap.size ≤ gO) (hgF : w0.heap.size ≤ gF) (k : Nat) (s : List Int × Bool) (d : List Int) (s' : List Int × Bool) (r : Bool) (v : Value) (W : World) (hst : FsSt gO gF w0.heap.size s W) (hB : Below w0.heap.size w0 W) (hR : Kd.R (Kd.int .i64) 3 W w0.heap.size (fun q_ => w0.heap.size ≤ q_ ∧ ¬ (q_ = gO ∨ q_ = gF)) v d) (h : impl_firstSharing_1.f k s d = some (s', r)) :
    Calls Try.prog 83 (#[v] ++ #[.pointer (some ⟨gO, 0, none⟩), .pointer (some ⟨gF, 0, none⟩)]) W fun e W' => e = .returned (.bool r) ∧ FsSt gO gF w0.heap.size s' W' ∧ Kept W W' (fun q_ => q_ = gO ∨ q_ = gF) ∧ Below w0.heap.size w0 W' := by
  obtain ⟨rfl, rfl⟩ := Prod.mk.inj (Option.some.inj h)
  clear h
  obtain ⟨⟨vo, h1, h2⟩, h3⟩ := hst
  obtain ⟨Ad, cd, rfl⟩ := Kd.R_slice hR
  have HB := Aside0.mk hB
  have HG := Aside0.mk (And.intro hne (And.intro hgO hgF))
  have BO := Aside0.mk h1
  have BF := Aside0.mk h3
  have HR := Aside0.mk hR
  have ea : W.cell? ⟨gO, 0, none⟩ = some vo := (blk_cell h1 0).trans rfl
  have fa : W.frozen? ⟨gO, 0, none⟩ = false := blk_frozen h1 0
  clear hB hne hgO hgF h1 h2 h3 hR
  go_enter Try.func83, Try.ntmps83
  (repeat ((fail_if_success (with_reducible refine gate_store (t := 22) (p := 1) rfl ?_)); first | go_values | go_skip | go_guarded | go_step | go_upon))
  refine store_event (t := 22) (p := 1) (v := ?vow5) (w1 := (W.setCell ⟨gO, 0, none⟩ (.slice Ad d.length cd))) ?hg ?ho ?hn ?hr ?_
  case ho => rfl
  case hg => rfl
  case hn => rfl
  case hr => first | (go_simp; done) | (go_simp; rfl)
  intro w5 hw
  have B2 := Aside0.mk (show w5.heap[gO]? = some (.cells #[.slice Ad d.length cd] 22 (0, 0)) from by rw [hw]; exact blk_put (cs := #[vo]) BO.out 0 _ rfl)
  have K2 := Aside0.mk (show Kept W w5 (fun q_ => q_ = gO) from by rw [hw]; exact (Kept.refl W (fun q_ => q_ = gO)).setCell (p := ⟨gO, 0, none⟩) (.inl rfl) _)
  have n0_ := Aside0.mk (show Below w0.heap.size w0 w5 from by rw [hw]; exact below_set HB.out HG.out.2.1)
  have F2 := Aside0.mk (blk_kept BF.out K2.out (fun h => HG.out.1 h.symm))
  clear HB hw ea fa BO BF
  have ea : w5.cell? ⟨gF, 0, none⟩ = some (.bool s.2) := (blk_cell F2.out 0).trans rfl
  have fa : w5.frozen? ⟨gF, 0, none⟩ = false := blk_frozen F2.out 0
  (repeat ((fail_if_success (with_reducible refine gate_store (t := 4) (p := 2) rfl ?_)); first | go_values | go_skip | go_guarded | go_step | go_upon))
  refine store_event (t := 4) (p := 2) (v := ?vow6) (w1 := (w5.setCell ⟨gF, 0, none⟩ (.bool true))) ?hg ?ho ?hn ?hr ?_
  case ho => rfl
  case hg => rfl
  case hn => rfl
  case hr => first | (go_simp; done) | (go_simp; rfl)
  intro w6 hw
  have F3 := Aside0.mk (show w6.heap[gF]? = some (.cells #[.bool true] 4 (0, 0)) from by rw [hw]; exact blk_put (cs := #[.bool s.2]) F2.out 0 _ rfl)
  have K3 := Aside0.mk (show Kept w5 w6 (fun q_ => q_ = gF) from by rw [hw]; exact (Kept.refl w5 (fun q_ => q_ = gF)).setCell (p := ⟨gF, 0, none⟩) (.inl rfl) _)
  have n1_ := Aside0.mk (show Below w0.heap.size w0 w6 from by rw [hw]; exact below_set n0_.out HG.out.2.2)
  have B3 := Aside0.mk (blk_kept B2.out K3.out (fun h => HG.out.1 h))
  have KK := Aside0.mk (show Kept W w6 (fun q_ => q_ = gO ∨ q_ = gF) from (K2.out.mono (fun _ h => .inl h)).then_ (K3.out.mono (fun _ h => .inr h)) (fun _ h => .inl h))
  clear hw ea fa F2 B2 K2 K3 n0_
  go_wp2
  go_ret
  exact ⟨rfl, ⟨⟨_, B3.out, Kd.R_kept HR.out KK.out (fun _ hk => hk.2)⟩, F3.out⟩, KK.out, n1_.out⟩
def impl_firstSharing.f (k : Nat) (l0 : List Int) (a1 : Int) : Option (List Int × Bool) := impl_sharings.f impl_firstSharing_1.f k l0 a1 ([], false)
theorem impl_firstSharing.mono : ∀ a0 a1 k, LeO (impl_firstSharing.f k a0 a1) (impl_firstSharing.f (k + 1) a0 a1) := fun a0 a1 k => impl_sharings.mono _ (fun _ _ _ => LeO.refl _) _ _ _ _
set_option maxHeartbeats 8000000 in
set_option maxRecDepth 100000 in
theorem impl_firstSharing.calls (k : Nat) (A0 : Option Addr) (c0 : Nat) (l0 : List Int) (a1 : Int) (r1 : List Int) (r2 : Bool) (w : World) (hr0 : Kd.C (Kd.int .i64) w A0 l0.length l0) (hc0 : l0.length ≤ c0) (h : impl_firstSharing.f k l0 a1 = some (r1, r2)) :
    Calls Try.prog 68 #[.slice A0 l0.length c0, .int .i64 a1] w fun e w' => ∃ v0_ : Value, e = .returned (.tuple #[v0_, .bool r2]) ∧ Kd.R (Kd.int .i64) 3 w' w.heap.size (fun _ => True) v0_ r1 ∧ Below w.heap.size w w' := by
  have HR0 := Aside0.mk hr0
  have HC0 := Aside0.mk hc0
  have A3 := Aside0.mk (show impl_sharings.f impl_firstSharing_1.f k l0 a1 ([], false) = some (r1, r2) from h)
  clear hr0 hc0 h
  have HB := Aside0.mk (Below.refl w.heap.size w)
  go_enter Try.func68, Try.ntmps68
  (repeat ((fail_if_success (with_reducible refine gate_dst (N := 6) rfl ?_)); first | go_values | go_skip | go_guarded | go_step | go_upon))
  refine box_event ?hg (N := 6) ?hd (cs := #[.slice none 0 0]) (t := 22) ?hr ?_
  case hd => rfl
  case hg => rfl
  case hr => first | (go_simp; done) | (go_simp; rfl)
  intro gO hg w6 hbox hb
  have n0_ := Aside0.mk (below_step (by repeat (first | (with_reducible first | exact HB.out | apply below_alloc | apply pw_below_drewN | apply below_drew1) | exact HB.out)) hb)
  have GO := Aside0.mk (show w.heap.size ≤ gO by rw [hg]; exact below_size (by repeat (first | (with_reducible first | exact HB.out | apply below_alloc | apply pw_below_drewN | apply below_drew1) | exact HB.out)))
  have BO := Aside0.mk hbox
  clear HB hg hb hbox
  have HB := n0_
  clear n0_
  (repeat ((fail_if_success (with_reducible refine gate_dst (N := 7) rfl ?_)); first | go_values | go_skip | go_guarded | go_step | go_upon))
  refine box_event ?hg (N := 7) ?hd (cs := #[.bool false]) (t := 4) ?hr ?_
  case hd => rfl
  case hg => rfl
  case hr => first | (go_simp; done) | (go_simp; rfl)
  intro gF hg w7 hbox hb
  have n0_ := Aside0.mk (below_step (by repeat (first | (with_reducible first | exact HB.out | apply below_alloc | apply pw_below_drewN | apply below_drew1) | exact HB.out)) hb)
  have n1_ := Aside0.mk (blk_below BO.out hb)
  have GF := Aside0.mk (show w.heap.size ≤ gF by rw [hg]; exact below_size (by repeat (first | (with_reducible first | exact HB.out | apply below_alloc | apply pw_below_drewN | apply below_drew1) | exact HB.out)))
  have NE := Aside0.mk (show gO ≠ gF by have := blk_lt BO.out; omega)
  have BF := Aside0.mk hbox
  clear HB BO hg hb hbox
  have HB := n0_
  have BO := n1_
  clear n0_ n1_
  have ea : w7.cell? ⟨gO, 0, none⟩ = some (.slice none 0 0) := (blk_cell BO.out 0).trans rfl
  have fa : w7.frozen? ⟨gO, 0, none⟩ = false := blk_frozen BO.out 0
  (repeat ((fail_if_success (with_reducible refine gate_store (t := 22) (p := 6) rfl ?_)); first | go_values | go_skip | go_guarded | go_step | go_upon))
  refine store_event (t := 22) (p := 6) (v := ?vow8) (w1 := (w7.setCell ⟨gO, 0, none⟩ (.slice none 0 0))) ?hg ?ho ?hn ?hr ?_
  case ho => rfl
  case hg => rfl
  case hn => rfl
  case hr => first | (go_simp; done) | (go_simp; rfl)
  intro w8 hw
  have B2 := Aside0.mk (show w8.heap[gO]? = some (.cells #[.slice none 0 0] 22 (0, 0)) from by rw [hw]; exact blk_put (cs := #[.slice none 0 0]) BO.out 0 _ rfl)
  have K2 := Aside0.mk (show Kept w7 w8 (fun q_ => q_ = gO) from by rw [hw]; exact (Kept.refl w7 (fun q_ => q_ = gO)).setCell (p := ⟨gO, 0, none⟩) (.inl rfl) _)
  have n0_ := Aside0.mk (show Below w.heap.size w w8 from by rw [hw]; exact below_set HB.out GO.out)
  have F2 := Aside0.mk (blk_kept BF.out K2.out (fun h => NE.out h.symm))
  clear HB hw ea fa BO BF K2
  have HB := n0_
  clear n0_
  have ea : w8.cell? ⟨gF, 0, none⟩ = some (.bool false) := (blk_cell F2.out 0).trans rfl
  have fa : w8.frozen? ⟨gF, 0, none⟩ = false := blk_frozen F2.out 0
  (repeat ((fail_if_success (with_reducible refine gate_store (t := 4) (p := 7) rfl ?_)); first | go_values | go_skip | go_guarded | go_step | go_upon))
  refine store_event (t := 4) (p := 7) (v := ?vow9) (w1 := (w8.setCell ⟨gF, 0, none⟩ (.bool false))) ?hg ?ho ?hn ?hr ?_
  case ho => rfl
  case hg => rfl
  case hn => rfl
  case hr => first | (go_simp; done) | (go_simp; rfl)
  intro w9 hw
  have F3 := Aside0.mk (show w9.heap[gF]? = some (.cells #[.bool false] 4 (0, 0)) from by rw [hw]; exact blk_put (cs := #[.bool false]) F2.out 0 _ rfl)
  have K3 := Aside0.mk (show Kept w8 w9 (fun q_ => q_ = gF) from by rw [hw]; exact (Kept.refl w8 (fun q_ => q_ = gF)).setCell (p := ⟨gF, 0, none⟩) (.inl rfl) _)
  have n0_ := Aside0.mk (show Below w.heap.size w w9 from by rw [hw]; exact below_set HB.out GF.out)
  have B3 := Aside0.mk (blk_kept B2.out K3.out (fun h => NE.out h))
  clear HB hw ea fa F2 B2 K3
  have HB := n0_
  clear n0_
  (repeat ((fail_if_success (with_reducible refine gate_callee (f := 59) rfl ?_)); first | go_values | go_skip | go_guarded | go_step | go_upon))
  refine goesL_ (some 11) rfl rfl Try.func59 (by kernel_rfl) rfl #[.slice A0 l0.length c0, .int .i64 a1, .func (.func 83) #[] #[.pointer (some ⟨gO, 0, none⟩), .pointer (some ⟨gF, 0, none⟩)]] rfl (by (try simp only [List.map_toArray, List.map_cons, List.map_nil]); first | done | rfl) ?_
  refine (impl_sharings.calls (FsSt gO gF w.heap.size) (fun q_ => q_ = gO ∨ q_ = gF) 83 #[.pointer (some ⟨gO, 0, none⟩), .pointer (some ⟨gF, 0, none⟩)] impl_firstSharing_1.f (enters_of Try.func83 (by kernel_rfl) rfl) A0 c0 l0 a1 w w9 HR0.out HC0.out ?hps HB.out (fun s W W' h1 h2 => h1.kept h2) ?hwith k ([], false) (r1, r2) ⟨⟨_, B3.out, Kd.R_nil _ _ _ _ _⟩, F3.out⟩ A3.out).mono ?_
  case hps =>
    rintro q (rfl | rfl)
    · exact ⟨GO.out, blk_lt B3.out⟩
    · exact ⟨GF.out, blk_lt F3.out⟩
  case hwith => exact fun k s d s' r v W h1 h2 h3 h4 => impl_firstSharing_1.calls gO gF NE.out w GO.out GF.out k s d s' r v W h1 h2 h3 h4
  rintro e w10 ⟨rfl, ⟨⟨vR, h1, h2⟩, h3⟩, h4, h5⟩
  refine ⟨_, rfl, ?_⟩
  obtain ⟨AR, cR, rfl⟩ := Kd.R_slice h2
  have BO := Aside0.mk h1
  have HV := Aside0.mk h2
  have BF := Aside0.mk h3
  have HB := Aside0.mk h5
  clear h1 h2 h3 h4 h5 B3 F3 HR0 HC0 A3
  go_wp2
  refine start_ (n := 4) (S := fun w' => w'.cell? ⟨gO, 0, none⟩ = some (.slice AR r1.length cR) ∧ w'.cell? ⟨gF, 0, none⟩ = some (.bool r2)) (ds := []) #[false, false, false, false] (by kernel_rfl) rfl rfl ⟨(blk_cell BO.out 0).trans rfl, (blk_cell BF.out 0).trans rfl⟩ (fun hHeld => ?_)
  have n0_ := Aside0.mk (below_drew1 HB.out)
  have n1_ := Aside0.mk (Kd.R_kept HV.out (Kept.drew (Kept.refl w10 (fun _ => False))) (fun _ _ h => h))
  clear HB HV
  have HB := n0_
  have HV := n1_
  clear n0_ n1_
  generalize w10.drew = w11 at HB HV hHeld ⊢
  refine take_ (i := 0) (N := some 12) (v := ?_) (a' := ?_) #[true, false, false, false] rfl rfl (by kernel_rfl) (fun _ _ _ h => h) (Or.inl ⟨by rfl, ?_⟩) hHeld ?_ ?_
  rotate_left
  · rintro w' ⟨s0_, s1_⟩
    go_simp
    with_reducible rfl
  rotate_left
  · simp only [Act.put, List.setIfInBounds_toArray, List.set_cons_zero, List.set_cons_succ, i64_w, i32_w]
    rfl
  refine take_ (i := 1) (N := some 13) (v := ?_) (a' := ?_) #[true, true, false, false] rfl rfl (by kernel_rfl) (fun _ _ _ h => h) (Or.inl ⟨by rfl, ?_⟩) hHeld ?_ ?_
  rotate_left
  · rintro w' ⟨s0_, s1_⟩
    go_simp
    with_reducible rfl
  rotate_left
  · simp only [Act.put, List.setIfInBounds_toArray, List.set_cons_zero, List.set_cons_succ, i64_w, i32_w]
    rfl
  refine pure_ (i := 2) (N := some 4) (v := ?_) (a' := ?_) #[true, true, true, false] rfl rfl (by kernel_rfl) (fun _ _ _ h => h) (Or.inl ⟨by rfl, ?_⟩) ?_ ?_
  rotate_left
  · intro w'
    go_simp
    with_reducible rfl
  rotate_left
  · simp only [Act.put, List.setIfInBounds_toArray, List.set_cons_zero, List.set_cons_succ, i64_w, i32_w]
    rfl
  refine pure_ (i := 3) (N := some 5) (v := ?_) (a' := ?_) #[true, true, true, true] rfl rfl (by kernel_rfl) (fun _ _ _ h => h) (Or.inl ⟨by rfl, ?_⟩) ?_ ?_
  rotate_left
  · intro w'
    go_simp
    with_reducible rfl
  rotate_left
  · simp only [Act.put, List.setIfInBounds_toArray, List.set_cons_zero, List.set_cons_succ, i64_w, i32_w]
    rfl
  refine done_ (by kernel_rfl) ?_
  clear hHeld
  go_wp2
  go_ret2
  exact ⟨_, rfl, Kd.R_mono HV.out (fun _ _ => trivial), HB.out⟩


/-! ### impl_fewestStacks: function 62 -/
def impl_fewestStacks.l0 : Nat → List Int → Int → Option (Int)
  | 0, _, _ => none
  | k + 1, x0, x3 => (impl_firstSharing.f k x0 x3).bind fun bt192 => (if bt192.2 = true then (some x3) else (impl_fewestStacks.l0 k x0 (wrap64 (x3 + 1))))
def impl_fewestStacks.f (k : Nat) (l0 : List Int) : Option (Int) := impl_fewestStacks.l0 k l0 1
theorem impl_fewestStacks.mono_l : ∀ k, (∀ y0 y1, LeO (impl_fewestStacks.l0 k y0 y1) (impl_fewestStacks.l0 (k + 1) y0 y1))
  | 0 => fun _ _ r h => by simp [impl_fewestStacks.l0] at h
  | k + 1 => by
    have ih0 := impl_fewestStacks.mono_l k
    · intro y0 y1
      unfold impl_fewestStacks.l0
      repeat' first
      | (with_reducible exact ih0 _ _)
      | (with_reducible exact impl_firstSharing.mono _ _ _)
      | (with_reducible exact LeO.refl _)
      | (with_reducible exact LeO.none _)
      | (with_reducible refine LeO.ite ?_ ?_)
      | (with_reducible refine LeO.bind ?_ (fun _ => ?_))
      | exact ih0 _ _
      | exact impl_firstSharing.mono _ _ _
      | exact LeO.none _
      | refine LeO.ite ?_ ?_
      | refine LeO.bind ?_ (fun _ => ?_)
theorem impl_fewestStacks.mono : ∀ a0 k, LeO (impl_fewestStacks.f k a0) (impl_fewestStacks.f (k + 1) a0) := by
  intro a0 k
  have ih0 := impl_fewestStacks.mono_l k
  unfold impl_fewestStacks.f
  repeat' first
      | (with_reducible exact ih0 _ _)
      | (with_reducible exact impl_firstSharing.mono _ _ _)
      | (with_reducible exact LeO.refl _)
      | (with_reducible exact LeO.none _)
      | (with_reducible refine LeO.ite ?_ ?_)
      | (with_reducible refine LeO.bind ?_ (fun _ => ?_))
      | exact ih0 _ _
      | exact impl_firstSharing.mono _ _ _
      | exact LeO.none _
      | refine LeO.ite ?_ ?_
      | refine LeO.bind ?_ (fun _ => ?_)
set_option maxHeartbeats 8000000 in
set_option maxRecDepth 100000 in
theorem impl_fewestStacks.calls (k : Nat) (A0 : Option Addr) (c0 : Nat) (l0 : List Int) (r : Int) (w : World) (hr0 : Kd.C (Kd.int .i64) w A0 l0.length l0) (hc0 : l0.length ≤ c0) (h : impl_fewestStacks.f k l0 = some r) :
    Calls Try.prog 62 #[.slice A0 l0.length c0] w fun e w' => e = .returned (.int .i64 r) ∧ Below w.heap.size w w' := by
  have HR0 := Aside0.mk hr0
  have HC0 := Aside0.mk hc0
  clear hr0 hc0
  have HB := Aside0.mk (Below.refl w.heap.size w)
  have H : (impl_fewestStacks.l0 k l0 1) = some r := h
  clear h
  have H' := Aside0.mk H
  clear H
  go_enter Try.func62, Try.ntmps62
  go_wp2
  go_loopg [3] k (fun kq v3 w' => ∃ (x3_1 : Int), v3 = .int .i64 x3_1 ∧ Aside0 (impl_fewestStacks.l0 kq l0 x3_1 = some r) ∧ Aside0 (kq ≤ k) ∧ Aside0 (Below w.heap.size w w'))
  case atStart => exact ⟨(1), (by first | rfl | (simp; done) | (simp [*]; done)), H', ⟨Nat.le_refl _⟩, ⟨by repeat (first | (with_reducible first | exact HB.out | apply below_alloc | apply pw_below_drewN | apply below_drew1) | exact HB.out)⟩⟩
  case round =>
    clear H'
    obtain ⟨x3_1, rfl, HA, HK1, HB⟩ := hrel
    cases gk with
    | zero => exact absurd HA.out (by simp [impl_fewestStacks.l0])
    | succ k1 =>
      have H := HA.out
      clear HA
      simp only [impl_fewestStacks.l0] at H
      replace H := Option.bind_eq_some_iff.mp H
      obtain ⟨⟨t192, t193⟩, A20, H⟩ := H
      replace H : (if t193 = true then (some x3_1) else (impl_fewestStacks.l0 k1 l0 (wrap64 (x3_1 + 1)))) = some r := H
      have A2 := Aside0.mk A20
      clear A20
      by_cases c3 : t193 = true
      · subst c3
        have H1 : (some x3_1) = some r := by rw [if_pos rfl] at H; exact H
        clear H
        have H := H1
        clear H1
        obtain rfl := Option.some.inj H
        go_wp2_with (first | ((with_reducible refine gate_callee (f := 68) rfl ?_); refine goesL_ (some 11) rfl rfl Try.func68 (by kernel_rfl) rfl #[.slice A0 l0.length c0, .int .i64 x3_1] rfl (by (try simp only [List.map_toArray, List.map_cons, List.map_nil]); first | done | rfl | (simp only [List.length_drop, List.length_take]; rfl)) ?_; (with_reducible refine (impl_firstSharing.calls k1 _ _ l0 x3_1 t192 true _ ?side1 ?side2 A2.out).mono ?_); (case side1 => repeat (first | exact (Kd.C_below HR0.out HB.out) | (with_reducible refine Kd.C_alloc ?_ _) | (with_reducible refine Kd.C_drewN ?_ _) | (with_reducible refine Kd.C_drew ?_))); (case side2 => exact HC0.out); rintro e w4 ⟨v194, rfl, ho0, hb⟩; refine ⟨_, rfl, ?_⟩; have n0_ := Aside0.mk (Kd.R_lower ho0 (below_size (by repeat (first | (with_reducible first | exact HB.out | apply below_alloc | apply pw_below_drewN | apply below_drew1) | exact HB.out)))); have n1_ := Aside0.mk (below_step (by repeat (first | (with_reducible first | exact HB.out | apply below_alloc | apply pw_below_drewN | apply below_drew1) | exact HB.out)) hb); clear HB; have HO195 := n0_; have HB := n1_; clear n0_ n1_; (try clear hb); (try clear hb2); (try clear hk); (try clear hi); (try clear ho0)))
        go_ret
        exact ⟨by first | rfl | (simp [errW_none, errW_some] <;> rfl) | (simp [*, errW_none, errW_some] <;> rfl), by repeat (first | (with_reducible first | exact HB.out | apply below_alloc | apply pw_below_drewN | apply below_drew1) | exact HB.out)⟩
      · replace c3 := Bool.eq_false_iff.mpr c3
        subst c3
        have H1 : (impl_fewestStacks.l0 k1 l0 (wrap64 (x3_1 + 1))) = some r := by rw [if_neg (show ¬ (false = true) by decide)] at H; exact H
        clear H
        have H := H1
        clear H1
        have H' := Aside0.mk H
        clear H
        go_wp2_with (first | ((with_reducible refine gate_callee (f := 68) rfl ?_); refine goesL_ (some 11) rfl rfl Try.func68 (by kernel_rfl) rfl #[.slice A0 l0.length c0, .int .i64 x3_1] rfl (by (try simp only [List.map_toArray, List.map_cons, List.map_nil]); first | done | rfl | (simp only [List.length_drop, List.length_take]; rfl)) ?_; (with_reducible refine (impl_firstSharing.calls k1 _ _ l0 x3_1 t192 false _ ?side1 ?side2 A2.out).mono ?_); (case side1 => repeat (first | exact (Kd.C_below HR0.out HB.out) | (with_reducible refine Kd.C_alloc ?_ _) | (with_reducible refine Kd.C_drewN ?_ _) | (with_reducible refine Kd.C_drew ?_))); (case side2 => exact HC0.out); rintro e w5 ⟨v194, rfl, ho0, hb⟩; refine ⟨_, rfl, ?_⟩; have n0_ := Aside0.mk (Kd.R_lower ho0 (below_size (by repeat (first | (with_reducible first | exact HB.out | apply below_alloc | apply pw_below_drewN | apply below_drew1) | exact HB.out)))); have n1_ := Aside0.mk (below_step (by repeat (first | (with_reducible first | exact HB.out | apply below_alloc | apply pw_below_drewN | apply below_drew1) | exact HB.out)) hb); clear HB; have HO195 := n0_; have HB := n1_; clear n0_ n1_; (try clear hb); (try clear hb2); (try clear hk); (try clear hi); (try clear ho0)))
        go_roundg k1
        case measure => have := HK1.out; omega
        case rel => exact ⟨(wrap64 (x3_1 + 1)), (by first | rfl | (simp; done) | (simp [*]; done)), H', ⟨by have := HK1.out; omega⟩, ⟨by repeat (first | (with_reducible first | exact HB.out | apply below_alloc | apply pw_below_drewN | apply below_drew1) | exact HB.out)⟩⟩

/-! ### impl_FirstSharing: function 41 -/
def impl_FirstSharing.f (k : Nat) (l0 : List Int) : Option (List Int × Bool) := (impl_isOrder.f k l0).bind fun t196 => (if t196 = true then ((impl_fewestStacks.f k l0).bind fun t197 => (if t197 > 4 then (some (([] : List Int), false)) else ((impl_firstSharing.f k l0 t197).bind fun bt198 => (some (bt198.1, bt198.2))))) else (some (([] : List Int), false)))
theorem impl_FirstSharing.mono : ∀ a0 k, LeO (impl_FirstSharing.f k a0) (impl_FirstSharing.f (k + 1) a0) := by
  intro a0 k
  unfold impl_FirstSharing.f
  repeat' first
      | (with_reducible exact impl_fewestStacks.mono _ _)
      | (with_reducible exact impl_firstSharing.mono _ _ _)
      | (with_reducible exact impl_isOrder.mono _ _)
      | (with_reducible exact LeO.refl _)
      | (with_reducible exact LeO.none _)
      | (with_reducible refine LeO.ite ?_ ?_)
      | (with_reducible refine LeO.bind ?_ (fun _ => ?_))
      | exact impl_fewestStacks.mono _ _
      | exact impl_firstSharing.mono _ _ _
      | exact impl_isOrder.mono _ _
      | exact LeO.none _
      | refine LeO.ite ?_ ?_
      | refine LeO.bind ?_ (fun _ => ?_)
set_option maxHeartbeats 8000000 in
set_option maxRecDepth 100000 in
theorem impl_FirstSharing.calls (k : Nat) (A0 : Option Addr) (c0 : Nat) (l0 : List Int) (r1 : List Int) (r2 : Bool) (w : World) (hr0 : Kd.C (Kd.int .i64) w A0 l0.length l0) (hc0 : l0.length ≤ c0) (h : impl_FirstSharing.f k l0 = some (r1, r2)) :
    Calls Try.prog 41 #[.slice A0 l0.length c0] w fun e w' => ∃ v0_ : Value, e = .returned (.tuple #[v0_, .bool r2]) ∧ Kd.R (Kd.int .i64) 3 w' w.heap.size (fun _ => True) v0_ r1 ∧ Below w.heap.size w w' := by
  have HR0 := Aside0.mk hr0
  have HC0 := Aside0.mk hc0
  clear hr0 hc0
  have HB := Aside0.mk (Below.refl w.heap.size w)
  have H : ((impl_isOrder.f k l0).bind fun t196 => (if t196 = true then ((impl_fewestStacks.f k l0).bind fun t197 => (if t197 > 4 then (some (([] : List Int), false)) else ((impl_firstSharing.f k l0 t197).bind fun bt198 => (some (bt198.1, bt198.2))))) else (some (([] : List Int), false)))) = some (r1, r2) := h
  clear h
  replace H := Option.bind_eq_some_iff.mp H
  obtain ⟨t196, A20, H⟩ := H
  replace H : (if t196 = true then ((impl_fewestStacks.f k l0).bind fun t197 => (if t197 > 4 then (some (([] : List Int), false)) else ((impl_firstSharing.f k l0 t197).bind fun bt198 => (some (bt198.1, bt198.2))))) else (some (([] : List Int), false))) = some (r1, r2) := H
  have A2 := Aside0.mk A20
  clear A20
  by_cases c3 : t196 = true
  · subst c3
    have H1 : ((impl_fewestStacks.f k l0).bind fun t197 => (if t197 > 4 then (some (([] : List Int), false)) else ((impl_firstSharing.f k l0 t197).bind fun bt198 => (some (bt198.1, bt198.2))))) = some (r1, r2) := by rw [if_pos rfl] at H; exact H
    clear H
    have H := H1
    clear H1
    replace H := Option.bind_eq_some_iff.mp H
    obtain ⟨t197, A40, H⟩ := H
    replace H : (if t197 > 4 then (some (([] : List Int), false)) else ((impl_firstSharing.f k l0 t197).bind fun bt198 => (some (bt198.1, bt198.2)))) = some (r1, r2) := H
    have A4 := Aside0.mk A40
    clear A40
    by_cases c5 : t197 > 4
    · rw [if_pos c5] at H
      have c5b0 : decide (4 < t197) = true := decide_eq_true c5
      clear c5
      simp only [Option.some.injEq, Prod.mk.injEq] at H
      obtain ⟨rfl, rfl⟩ := H
      go_enter Try.func41, Try.ntmps41
      go_wp2_with (first | ((with_reducible refine gate_callee (f := 52) rfl ?_); refine goesL_ (some 6) rfl rfl Try.func52 (by kernel_rfl) rfl #[.slice A0 l0.length c0] rfl (by (try simp only [List.map_toArray, List.map_cons, List.map_nil]); first | done | rfl | (simp only [List.length_drop, List.length_take]; rfl)) ?_; (with_reducible refine (impl_isOrder.calls k _ _ l0 true _ ?side1 ?side2 A2.out).mono ?_); (case side1 => repeat (first | exact HR0.out | (with_reducible refine Kd.C_alloc ?_ _) | (with_reducible refine Kd.C_drewN ?_ _) | (with_reducible refine Kd.C_drew ?_))); (case side2 => exact HC0.out); rintro e w' ⟨rfl, ⟨nd, rfl⟩⟩; refine ⟨_, rfl, ?_⟩) | ((with_reducible refine gate_callee (f := 62) rfl ?_); refine goesL_ (some 9) rfl rfl Try.func62 (by kernel_rfl) rfl #[.slice A0 l0.length c0] rfl (by (try simp only [List.map_toArray, List.map_cons, List.map_nil]); first | done | rfl | (simp only [List.length_drop, List.length_take]; rfl)) ?_; (with_reducible refine (impl_fewestStacks.calls k _ _ l0 t197 _ ?side1 ?side2 A4.out).mono ?_); (case side1 => repeat (first | exact HR0.out | (with_reducible refine Kd.C_alloc ?_ _) | (with_reducible refine Kd.C_drewN ?_ _) | (with_reducible refine Kd.C_drew ?_))); (case side2 => exact HC0.out); rintro e w6 ⟨rfl, hb⟩; refine ⟨_, rfl, ?_⟩; have n0_ := Aside0.mk (below_step (by repeat (first | (with_reducible first | exact HB.out | apply below_alloc | apply pw_below_drewN | apply below_drew1) | exact HB.out)) hb); clear HB; have HB := n0_; clear n0_; (try clear hb); (try clear hb2); (try clear hk); (try clear hi)))
      go_ret2
      exact ⟨_, by first | rfl | (simp [errW_none, errW_some] <;> rfl) | (simp [*, errW_none, errW_some] <;> rfl), by first | exact Kd.R_nil _ _ _ _ _ | exact Kd.N_nil _ _ _ _ _ | exact Kd.V_nil _ _ _ _ _ | exact Kd.Q_nil _ _ _ _ _ | exact Kd.S_nil _ _ _ _ _, by repeat (first | (with_reducible first | exact HB.out | apply below_alloc | apply pw_below_drewN | apply below_drew1) | exact HB.out)⟩
    · rw [if_neg c5] at H
      have c5b0 : decide (4 < t197) = false := decide_eq_false c5
      clear c5
      replace H := Option.bind_eq_some_iff.mp H
      obtain ⟨⟨t198, t199⟩, A70, H⟩ := H
      replace H : (some (t198, t199)) = some (r1, r2) := H
      have A7 := Aside0.mk A70
      clear A70
      simp only [Option.some.injEq, Prod.mk.injEq] at H
      obtain ⟨rfl, rfl⟩ := H
      go_enter Try.func41, Try.ntmps41
      go_wp2_with (first | ((with_reducible refine gate_callee (f := 52) rfl ?_); refine goesL_ (some 6) rfl rfl Try.func52 (by kernel_rfl) rfl #[.slice A0 l0.length c0] rfl (by (try simp only [List.map_toArray, List.map_cons, List.map_nil]); first | done | rfl | (simp only [List.length_drop, List.length_take]; rfl)) ?_; (with_reducible refine (impl_isOrder.calls k _ _ l0 true _ ?side1 ?side2 A2.out).mono ?_); (case side1 => repeat (first | exact HR0.out | (with_reducible refine Kd.C_alloc ?_ _) | (with_reducible refine Kd.C_drewN ?_ _) | (with_reducible refine Kd.C_drew ?_))); (case side2 => exact HC0.out); rintro e w' ⟨rfl, ⟨nd, rfl⟩⟩; refine ⟨_, rfl, ?_⟩) | ((with_reducible refine gate_callee (f := 62) rfl ?_); refine goesL_ (some 9) rfl rfl Try.func62 (by kernel_rfl) rfl #[.slice A0 l0.length c0] rfl (by (try simp only [List.map_toArray, List.map_cons, List.map_nil]); first | done | rfl | (simp only [List.length_drop, List.length_take]; rfl)) ?_; (with_reducible refine (impl_fewestStacks.calls k _ _ l0 t197 _ ?side1 ?side2 A4.out).mono ?_); (case side1 => repeat (first | exact HR0.out | (with_reducible refine Kd.C_alloc ?_ _) | (with_reducible refine Kd.C_drewN ?_ _) | (with_reducible refine Kd.C_drew ?_))); (case side2 => exact HC0.out); rintro e w8 ⟨rfl, hb⟩; refine ⟨_, rfl, ?_⟩; have n0_ := Aside0.mk (below_step (by repeat (first | (with_reducible first | exact HB.out | apply below_alloc | apply pw_below_drewN | apply below_drew1) | exact HB.out)) hb); clear HB; have HB := n0_; clear n0_; (try clear hb); (try clear hb2); (try clear hk); (try clear hi)) | ((with_reducible refine gate_callee (f := 68) rfl ?_); refine goesL_ (some 14) rfl rfl Try.func68 (by kernel_rfl) rfl #[.slice A0 l0.length c0, .int .i64 t197] rfl (by (try simp only [List.map_toArray, List.map_cons, List.map_nil]); first | done | rfl | (simp only [List.length_drop, List.length_take]; rfl)) ?_; (with_reducible refine (impl_firstSharing.calls k _ _ l0 t197 t198 t199 _ ?side1 ?side2 A7.out).mono ?_); (case side1 => repeat (first | exact (Kd.C_below HR0.out HB.out) | (with_reducible refine Kd.C_alloc ?_ _) | (with_reducible refine Kd.C_drewN ?_ _) | (with_reducible refine Kd.C_drew ?_))); (case side2 => exact HC0.out); rintro e w9 ⟨v200, rfl, ho0, hb⟩; refine ⟨_, rfl, ?_⟩; have n0_ := Aside0.mk (Kd.R_lower ho0 (below_size (by repeat (first | (with_reducible first | exact HB.out | apply below_alloc | apply pw_below_drewN | apply below_drew1) | exact HB.out)))); have n1_ := Aside0.mk (below_step (by repeat (first | (with_reducible first | exact HB.out | apply below_alloc | apply pw_below_drewN | apply below_drew1) | exact HB.out)) hb); clear HB; have HO201 := n0_; have HB := n1_; clear n0_ n1_; (try clear hb); (try clear hb2); (try clear hk); (try clear hi); (try clear ho0)))
      go_ret2
      exact ⟨_, by first | rfl | (simp [errW_none, errW_some] <;> rfl) | (simp [*, errW_none, errW_some] <;> rfl), by (with_reducible repeat (first | apply Kd.R_alloc | apply Kd.R_drewN | apply Kd.R_drew)); exact HO201.out, by repeat (first | (with_reducible first | exact HB.out | apply below_alloc | apply pw_below_drewN | apply below_drew1) | exact HB.out)⟩
  · replace c3 := Bool.eq_false_iff.mpr c3
    subst c3
    have H1 : (some (([] : List Int), false)) = some (r1, r2) := by rw [if_neg (show ¬ (false = true) by decide)] at H; exact H
    clear H
    have H := H1
    clear H1
    simp only [Option.some.injEq, Prod.mk.injEq] at H
    obtain ⟨rfl, rfl⟩ := H
    go_enter Try.func41, Try.ntmps41
    go_wp2_with (first | ((with_reducible refine gate_callee (f := 52) rfl ?_); refine goesL_ (some 6) rfl rfl Try.func52 (by kernel_rfl) rfl #[.slice A0 l0.length c0] rfl (by (try simp only [List.map_toArray, List.map_cons, List.map_nil]); first | done | rfl | (simp only [List.length_drop, List.length_take]; rfl)) ?_; (with_reducible refine (impl_isOrder.calls k _ _ l0 false _ ?side1 ?side2 A2.out).mono ?_); (case side1 => repeat (first | exact HR0.out | (with_reducible refine Kd.C_alloc ?_ _) | (with_reducible refine Kd.C_drewN ?_ _) | (with_reducible refine Kd.C_drew ?_))); (case side2 => exact HC0.out); rintro e w' ⟨rfl, ⟨nd, rfl⟩⟩; refine ⟨_, rfl, ?_⟩))
    go_ret2
    exact ⟨_, by first | rfl | (simp [errW_none, errW_some] <;> rfl) | (simp [*, errW_none, errW_some] <;> rfl), by first | exact Kd.R_nil _ _ _ _ _ | exact Kd.N_nil _ _ _ _ _ | exact Kd.V_nil _ _ _ _ _ | exact Kd.Q_nil _ _ _ _ _ | exact Kd.S_nil _ _ _ _ _, by repeat (first | (with_reducible first | exact HB.out | apply below_alloc | apply pw_below_drewN | apply below_drew1) | exact HB.out)⟩

end Go.Proofs.Ytbbfgejnlfafpaa.PFnExactFirstSharing
