-- laid by mkprint.py, a program of this claim's writer, over the kit's print program; parts of it are typed by hand
import Derived.Test.YtfjbgmemjjjjoaaPFnEndsCountsx0
import Derived.Test.YtfjbgmemjjjjoaaPFnEndsCountsx1
namespace Go.Proofs.Ytfjbgmemjjjjoaa.PFnEndsCounts
open Go.RowKit Go.Proofs.YtfjbgmemjjjjoaaW.PrintWords Go.Proofs.YtfjbgmemjjjjoaaW.PrintLast Go.Proofs.YtfjbgmemjjjjoaaW.PrintMore
attribute [local go_sem] max2_int min2_int max_two min_two max_three min_three max_four min_four
set_option linter.unusedVariables false
set_option linter.unusedSimpArgs false
def spec_l1Cur_order.l0 (s0 : List Int) : Nat → List Int → Int → Int → Option (List Int × Int × Int)
 | 0, o, a, b => some (o, a, b)
 | d + 1, o, a, b => (spec_l1Cur_pick.f s0 a b ((o.length : Int) + 1)).bind fun t => if (0 ≤ t.1 ∧ t.1 ≤ (o.length : Int)) ∧ o.length < 1000000 then spec_l1Cur_order.l0 s0 d ((o.take t.1.toNat ++ [(o.length : Int) + 1]) ++ o.drop t.1.toNat) t.2.1 t.2.2 else none
def spec_l1Cur_order.f (s0 : List Int) (s1 : Int) (s2 : Int) : Option (List Int × Int × Int) := (spec_l1Cur_among.f s0 s1 s2 [4, 5, 3, 6, 2, 7, 1, 4]).bind fun n => (if n.1 ≤ 1000000 then spec_l1Cur_order.l0 s0 n.1.toNat [] n.2.1 n.2.2 else none).bind fun t => (spec_l1Cur_pick.f s0 t.2.1 t.2.2 40).bind fun q => if q.1 = 0 then some ([], q.2.1, q.2.2) else if q.1 = 1 then ((spec_l1Cur_pick.f s0 q.2.1 q.2.2 (t.1.length : Int)).bind fun k => (spec_l1Cur_among.f s0 k.2.1 k.2.2 [0, 1, 8, -1]).bind fun x => if 0 ≤ k.1 ∧ k.1 < (t.1.length : Int) then some (t.1.set k.1.toNat x.1, x.2.1, x.2.2) else none) else if q.1 = 2 then some ([1, 2, 3, 4, 5, 6, 7, 8], q.2.1, q.2.2) else some (t.1, q.2.1, q.2.2)
set_option maxHeartbeats 8000000 in
set_option maxRecDepth 100000 in
theorem spec_l1Cur_order.calls (g : Nat) (s0 : List Int) (s1 : Int) (s2 : Int) (r1 : List Int) (r2 : Int) (r3 : Int) (w0 w : World) (hI : IsS52 w0 w g s0 s1 s2) (hB : Below w0.heap.size w0 w) (h : spec_l1Cur_order.f s0 s1 s2 = some (r1, r2, r3)) :
  Calls Try.prog 52 #[.pointer (some ⟨g, 0, none⟩)] w fun e w' => ∃ v0_ : Value, e = .returned (v0_) ∧ Kd.R (Kd.int .i64) 3 w' w.heap.size (fun _ => True) v0_ r1 ∧ IsS52 w0 w' g s0 r2 r3 ∧ Below w0.heap.size w0 w' ∧ KeepBut w w' g none := by
 have HI := Aside0.mk hI
 have HW0 := Aside0.mk hB.size
 have HB := Aside0.mk hB
 have HK := Aside0.mk (KeepBut.refl w g none)
 obtain ⟨⟨n0, na, nb⟩, h1, h⟩ := Option.bind_eq_some_iff.1 h
 have A1 := Aside0.mk h1
 obtain ⟨⟨o9, oa, ob⟩, h1, h⟩ := Option.bind_eq_some_iff.1 h
 by_cases hn0 : n0 ≤ 1000000
 case neg => rw [if_neg hn0] at h1; exact absurd h1 (by simp)
 rw [if_pos hn0] at h1
 have HN0 := Aside0.mk hn0
 clear hn0
 have A2 := Aside0.mk h1
 obtain ⟨⟨q9, qa, qb⟩, h1, h⟩ := Option.bind_eq_some_iff.1 h
 have A3 := Aside0.mk h1
 have HF := Aside0.mk h
 clear hI hB h h1
 go_enter Try.func52, Try.ntmps52
 obtain ⟨yE, hyE⟩ : ∃ y : List Int, y = [] := ⟨_, rfl⟩
 (repeat ((fail_if_success (with_reducible refine gate_dst (N := 6) rfl ?_)); first | go_values | go_skip | go_guarded | go_step | go_upon | go_back | go_simp))
 refine Kd.R_lit (Kd.int .i64) _ 3 ?hg (N := 6) ?hd (xs := ([] : List Int)) (inner := []) (ok := fun _ => True) (okp := fun _ => True) ?hr ?hp (fun _ hk => hk) trivial (Below.refl _ _) (Nat.le_refl _) (by simp) ?_
 case hd => rfl
 case hg => rfl
 case hr => first | (go_simp; done) | (go_simp; rfl)
 case hp => exact (Reps.none _ _)
 intro vE w1 ho hb hg_ hnew_
 clear hg_ hnew_
 rw [← hyE] at ho
 have NYE := Aside0.mk hyE
 clear hyE
 have HVE := Aside0.mk (Kd.R_lower (Kd.R_mono (ok' := fun k_ => k_ ≠ g) (Kd.R_bound ho) (fun k_ h_ => by have h1_ := HI.out.lt; have h2_ := h_.2.1; exact fun h3_ => by omega)) HK.out.1)
 have ni_ := Aside0.mk (HI.out.below hb)
 have nb_ := Aside0.mk (below_step HB.out hb)
 have nk_ := Aside0.mk (KeepBut.trans HK.out (KeepBut.of_below hb g none) (.inl rfl))
 clear HI HB HK hb ho
 have HI := ni_; have HB := nb_; have HK := nk_
 clear ni_ nb_ nk_
 obtain ⟨AE, cE, eE⟩ := Kd.R_slice HVE.out
 subst eE
 obtain ⟨yL, hyL⟩ : ∃ y : List Int, y = [4, 5, 3, 6, 2, 7, 1, 4] := ⟨_, rfl⟩
 (repeat ((fail_if_success (with_reducible refine gate_dst (N := 8) rfl ?_)); first | go_values | go_skip | go_guarded | go_step | go_upon | go_back | go_simp))
 refine Kd.R_lit (Kd.int .i64) _ 3 ?hg (N := 8) ?hd (xs := ([4, 5, 3, 6, 2, 7, 1, 4] : List Int)) (inner := [.int .i64 (4), .int .i64 (5), .int .i64 (3), .int .i64 (6), .int .i64 (2), .int .i64 (7), .int .i64 (1), .int .i64 (4)]) (ok := fun _ => True) (okp := fun _ => True) ?hr ?hp (fun _ hk => hk) trivial (Below.refl _ _) (Nat.le_refl _) (by simp) ?_
 case hd => rfl
 case hg => rfl
 case hr => first | (go_simp; done) | (go_simp; rfl)
 case hp => exact (Reps.one (show Kd.M (Kd.int .i64) _ _ _ (4) [.int .i64 (4)] from rfl) (Reps.one (show Kd.M (Kd.int .i64) _ _ _ (5) [.int .i64 (5)] from rfl) (Reps.one (show Kd.M (Kd.int .i64) _ _ _ (3) [.int .i64 (3)] from rfl) (Reps.one (show Kd.M (Kd.int .i64) _ _ _ (6) [.int .i64 (6)] from rfl) (Reps.one (show Kd.M (Kd.int .i64) _ _ _ (2) [.int .i64 (2)] from rfl) (Reps.one (show Kd.M (Kd.int .i64) _ _ _ (7) [.int .i64 (7)] from rfl) (Reps.one (show Kd.M (Kd.int .i64) _ _ _ (1) [.int .i64 (1)] from rfl) (Reps.one (show Kd.M (Kd.int .i64) _ _ _ (4) [.int .i64 (4)] from rfl) (Reps.none _ _)))))))))
 intro vL w2 ho hb hg_ hnew_
 clear hg_ hnew_
 rw [← hyL] at ho
 have NYL := Aside0.mk hyL
 clear hyL
 have HVL := Aside0.mk (Kd.R_lower (Kd.R_mono (ok' := fun k_ => k_ ≠ g) (Kd.R_bound ho) (fun k_ h_ => by have h1_ := HI.out.lt; have h2_ := h_.2.1; exact fun h3_ => by omega)) HK.out.1)
 have nE_ := Aside0.mk (Kd.R_below HVE.out hb)
 have ni_ := Aside0.mk (HI.out.below hb)
 have nb_ := Aside0.mk (below_step HB.out hb)
 have nk_ := Aside0.mk (KeepBut.trans HK.out (KeepBut.of_below hb g none) (.inl rfl))
 clear HI HB HK hb ho HVE
 have HI := ni_; have HB := nb_; have HK := nk_
 clear ni_ nb_ nk_
 have HVE := nE_
 obtain ⟨bL, cL, eL, _, _, _⟩ := Kd.R_form HVL.out (by rw [NYL.out]; decide)
 subst eL
 have CCL := Aside0.mk (Kd.R_reads' HVL.out).2.1
 (repeat ((fail_if_success (with_reducible refine gate_callee (f := 37) rfl ?_)); first | go_values | go_skip | go_guarded | go_step | go_upon | go_back | go_simp))
 refine goesL_ (some 9) rfl rfl Try.func37 (by kernel_rfl) rfl #[.pointer (some ⟨g, 0, none⟩), .slice (some ⟨bL, 0, none⟩) yL.length cL] rfl (by (try simp only [List.map_toArray, List.map_cons, List.map_nil]); first | done | rfl) ?_
 refine (spec_l1Cur_among.calls g s0 s1 s2 (some ⟨bL, 0, none⟩) cL yL n0 na nb w0 _ HI.out HB.out (Kd.R_reads' HVL.out).2.2 CCL.out (fun ad e_ _ => by cases e_; exact HVL.out.1 _ rfl) (by rw [NYL.out]; exact A1.out)).mono ?_
 rintro e w3 ⟨rfl, hi, hb, hk⟩
 refine ⟨_, rfl, ?_⟩
 have nE_ := Aside0.mk (Kd.R_keep HVE.out hk (fun _ h => h))
 have nk_ := Aside0.mk (KeepBut.trans HK.out hk (.inl rfl))
 clear HI HB HK hk HVL HVE
 have HI := Aside0.mk hi
 have HB := Aside0.mk hb
 have HK := nk_
 clear nk_ hi hb
 have HVE := nE_
 have A2b := Aside0.mk (show spec_l1Cur_order.l0 s0 n0.toNat yE na nb = some (o9, oa, ob) from by rw [NYE.out]; exact A2.out)
 clear A2 NYE
 go_wp2
 go_loopg [3, 4] n0.toNat (fun kq v3 v4 w' => ∃ (n a b : Int) (o : List Int) (vo : Value), v3 = vo ∧ v4 = .int .i64 n ∧ Aside0 (n.toNat = kq ∧ n ≤ 1000000) ∧ Aside0 (spec_l1Cur_order.l0 s0 kq o a b = some (o9, oa, ob)) ∧ Aside0 (Kd.R (Kd.int .i64) 3 w' w.heap.size (fun k_ => k_ ≠ g) vo o) ∧ Aside0 (IsS52 w0 w' g s0 a b) ∧ Aside0 (Below w0.heap.size w0 w') ∧ Aside0 (KeepBut w w' g none))
 case atStart => exact ⟨n0, na, nb, yE, _, rfl, rfl, ⟨rfl, HN0.out⟩, A2b, HVE, HI, HB, HK⟩
 case round =>
  clear A2b HVE HI HB HK
  obtain ⟨n, a, b, o, vo, rfl, rfl, HN, HA, HVA, HI, HB, HK⟩ := hrel
  obtain ⟨Ab, cb, eA⟩ := Kd.R_slice HVA.out
  subst eA
  cases gk with
  | zero =>
   have c1 : decide (0 < n) = false := decide_eq_false (by have := HN.out; omega)
   obtain ⟨rfl, rfl, rfl⟩ : o = o9 ∧ a = oa ∧ b = ob := by have := HA.out; simpa [spec_l1Cur_order.l0] using this
   clear HA
   (repeat ((fail_if_success (with_reducible refine gate_callee (f := 63) rfl ?_)); first | go_values | go_skip | go_guarded | go_step | go_upon | go_back | go_simp))
   refine goesL_ (some 33) rfl rfl Try.func63 (by kernel_rfl) rfl #[.pointer (some ⟨g, 0, none⟩), .int .i64 40] rfl (by (try simp only [List.map_toArray, List.map_cons, List.map_nil]); first | done | rfl) ?_
   refine (spec_l1Cur_pick.calls g s0 a b 40 q9 qa qb w0 _ HI.out HB.out A3.out).mono ?_
   rintro e w4 ⟨rfl, hi, hb, hk⟩
   refine ⟨_, rfl, ?_⟩
   have nA_ := Aside0.mk (Kd.R_keep HVA.out hk (fun _ h => h))
   have nk_ := Aside0.mk (KeepBut.trans HK.out hk (.inl rfl))
   clear HI HB HK hk HVA
   have HI := Aside0.mk hi
   have HB := Aside0.mk hb
   have HK := nk_
   clear nk_ hi hb
   have HVA := nA_
   have h := HF.out
   clear HF
   by_cases hq0 : q9 = 0
   ·
    have d0 : (q9 == 0) = true := beq_iff_eq.mpr hq0
    rw [if_pos hq0] at h
    obtain ⟨rfl, rfl, rfl⟩ : ([] : List Int) = r1 ∧ qa = r2 ∧ qb = r3 := by simpa using h
    clear h hq0
    obtain ⟨yZ, hyZ⟩ : ∃ y : List Int, y = [] := ⟨_, rfl⟩
    (repeat ((fail_if_success (with_reducible refine gate_dst (N := 36) rfl ?_)); first | go_values | go_skip | go_guarded | go_step | go_upon | go_back | go_simp))
    refine Kd.R_lit (Kd.int .i64) _ 3 ?hg (N := 36) ?hd (xs := ([] : List Int)) (inner := []) (ok := fun _ => True) (okp := fun _ => True) ?hr ?hp (fun _ hk => hk) trivial (Below.refl _ _) (Nat.le_refl _) (by simp) ?_
    case hd => rfl
    case hg => rfl
    case hr => first | (go_simp; done) | (go_simp; rfl)
    case hp => exact (Reps.none _ _)
    intro vZ w5 ho hb hg_ hnew_
    clear hg_ hnew_
    rw [← hyZ] at ho
    have NYZ := Aside0.mk hyZ
    clear hyZ
    have HVZ := Aside0.mk (Kd.R_lower (Kd.R_mono (ok' := fun k_ => k_ ≠ g) (Kd.R_bound ho) (fun k_ h_ => by have h1_ := HI.out.lt; have h2_ := h_.2.1; exact fun h3_ => by omega)) HK.out.1)
    have ni_ := Aside0.mk (HI.out.below hb)
    have nb_ := Aside0.mk (below_step HB.out hb)
    have nk_ := Aside0.mk (KeepBut.trans HK.out (KeepBut.of_below hb g none) (.inl rfl))
    clear HI HB HK hb ho
    have HI := ni_; have HB := nb_; have HK := nk_
    clear ni_ nb_ nk_
    obtain ⟨AZ, cZ, eZ⟩ := Kd.R_slice HVZ.out
    subst eZ
    have HZZ := Aside0.mk (show Kd.R (Kd.int .i64) 3 w5 w.heap.size (fun k_ => k_ ≠ g) (.slice AZ yZ.length cZ) [] from by have := HVZ.out; rw [← NYZ.out]; exact this)
    go_wp2
    go_ret
    exact ⟨_, rfl, Kd.R_mono HZZ.out (fun _ _ => trivial), HI.out, HB.out, HK.out⟩
   ·
    have d0 : (q9 == 0) = false := beq_eq_false_iff_ne.mpr hq0
    rw [if_neg hq0] at h
    by_cases hq1 : q9 = 1
    ·
     have d1 : (q9 == 1) = true := beq_iff_eq.mpr hq1
     rw [if_pos hq1] at h
     obtain ⟨⟨k9, ka, kb⟩, h1, h⟩ := Option.bind_eq_some_iff.1 h
     have A4 := Aside0.mk h1
     obtain ⟨⟨x9, xa, xb⟩, h1, h⟩ := Option.bind_eq_some_iff.1 h
     have A5 := Aside0.mk h1
     clear h1
     by_cases hk9 : 0 ≤ k9 ∧ k9 < (o.length : Int)
     case neg => rw [if_neg hk9] at h; exact absurd h (by simp)
     rw [if_pos hk9] at h
     obtain ⟨rfl, rfl, rfl⟩ : o.set k9.toNat x9 = r1 ∧ xa = r2 ∧ xb = r3 := by simpa using h
     have HK9 := Aside0.mk hk9
     clear h hq0 hq1 hk9
     (repeat ((fail_if_success (with_reducible refine gate_callee (f := 63) rfl ?_)); first | go_values | go_skip | go_guarded | go_step | go_upon | go_back | go_simp))
     refine goesL_ (some 43) rfl rfl Try.func63 (by kernel_rfl) rfl #[.pointer (some ⟨g, 0, none⟩), .int .i64 (o.length : Int)] rfl (by (try simp only [List.map_toArray, List.map_cons, List.map_nil]); first | done | rfl) ?_
     refine (spec_l1Cur_pick.calls g s0 qa qb (o.length : Int) k9 ka kb w0 _ HI.out HB.out A4.out).mono ?_
     rintro e w5 ⟨rfl, hi, hb, hk⟩
     refine ⟨_, rfl, ?_⟩
     have nA_ := Aside0.mk (Kd.R_keep HVA.out hk (fun _ h => h))
     have nk_ := Aside0.mk (KeepBut.trans HK.out hk (.inl rfl))
     clear HI HB HK hk HVA
     have HI := Aside0.mk hi
     have HB := Aside0.mk hb
     have HK := nk_
     clear nk_ hi hb
     have HVA := nA_
     obtain ⟨yX, hyX⟩ : ∃ y : List Int, y = [0, 1, 8, -1] := ⟨_, rfl⟩
     (repeat ((fail_if_success (with_reducible refine gate_dst (N := 45) rfl ?_)); first | go_values | go_skip | go_guarded | go_step | go_upon | go_back | go_simp))
     refine Kd.R_lit (Kd.int .i64) _ 3 ?hg (N := 45) ?hd (xs := ([0, 1, 8, -1] : List Int)) (inner := [.int .i64 (0), .int .i64 (1), .int .i64 (8), .int .i64 (-1)]) (ok := fun _ => True) (okp := fun _ => True) ?hr ?hp (fun _ hk => hk) trivial (Below.refl _ _) (Nat.le_refl _) (by simp) ?_
     case hd => rfl
     case hg => rfl
     case hr => first | (go_simp; done) | (go_simp; rfl)
     case hp => exact (Reps.one (show Kd.M (Kd.int .i64) _ _ _ (0) [.int .i64 (0)] from rfl) (Reps.one (show Kd.M (Kd.int .i64) _ _ _ (1) [.int .i64 (1)] from rfl) (Reps.one (show Kd.M (Kd.int .i64) _ _ _ (8) [.int .i64 (8)] from rfl) (Reps.one (show Kd.M (Kd.int .i64) _ _ _ (-1) [.int .i64 (-1)] from rfl) (Reps.none _ _)))))
     intro vX w6 ho hb hg_ hnew_
     clear hg_ hnew_
     rw [← hyX] at ho
     have NYX := Aside0.mk hyX
     clear hyX
     have HVX := Aside0.mk (Kd.R_lower (Kd.R_mono (ok' := fun k_ => k_ ≠ g) (Kd.R_bound ho) (fun k_ h_ => by have h1_ := HI.out.lt; have h2_ := h_.2.1; exact fun h3_ => by omega)) HK.out.1)
     have nA_ := Aside0.mk (Kd.R_below HVA.out hb)
     have ni_ := Aside0.mk (HI.out.below hb)
     have nb_ := Aside0.mk (below_step HB.out hb)
     have nk_ := Aside0.mk (KeepBut.trans HK.out (KeepBut.of_below hb g none) (.inl rfl))
     clear HI HB HK hb ho HVA
     have HI := ni_; have HB := nb_; have HK := nk_
     clear ni_ nb_ nk_
     have HVA := nA_
     obtain ⟨bX, cX, eX, _, _, _⟩ := Kd.R_form HVX.out (by rw [NYX.out]; decide)
     subst eX
     have CCX := Aside0.mk (Kd.R_reads' HVX.out).2.1
     (repeat ((fail_if_success (with_reducible refine gate_callee (f := 37) rfl ?_)); first | go_values | go_skip | go_guarded | go_step | go_upon | go_back | go_simp))
     refine goesL_ (some 46) rfl rfl Try.func37 (by kernel_rfl) rfl #[.pointer (some ⟨g, 0, none⟩), .slice (some ⟨bX, 0, none⟩) yX.length cX] rfl (by (try simp only [List.map_toArray, List.map_cons, List.map_nil]); first | done | rfl) ?_
     refine (spec_l1Cur_among.calls g s0 ka kb (some ⟨bX, 0, none⟩) cX yX x9 xa xb w0 _ HI.out HB.out (Kd.R_reads' HVX.out).2.2 CCX.out (fun ad e_ _ => by cases e_; exact HVX.out.1 _ rfl) (by rw [NYX.out]; exact A5.out)).mono ?_
     rintro e w7 ⟨rfl, hi, hb, hk⟩
     refine ⟨_, rfl, ?_⟩
     have nA_ := Aside0.mk (Kd.R_keep HVA.out hk (fun _ h => h))
     have nk_ := Aside0.mk (KeepBut.trans HK.out hk (.inl rfl))
     clear HI HB HK hk HVX HVA
     have HI := Aside0.mk hi
     have HB := Aside0.mk hb
     have HK := nk_
     clear nk_ hi hb
     have HVA := nA_
     obtain ⟨go, co, eo, gb, _, _⟩ := Kd.R_form HVA.out (by have := HK9.out; omega)
     injection eo with ea_ en_ ec_
     subst ea_ ec_
     clear en_
     have GB := Aside0.mk gb
     have GN := Aside0.mk (HVA.out.1 go rfl)
     clear gb
     obtain ⟨hx_, hf_⟩ := Kd.R_celln 0 HVA.out k9 HK9.out.1 HK9.out.2
     have p1 : (0 ≤ k9) = True := eq_true HK9.out.1
     have p2 : (k9 < (o.length : Int)) = True := eq_true HK9.out.2
     have HP := Kd.R_putg HVA.out k9 x9
     (repeat ((fail_if_success (with_reducible refine gate_store (t := 3) (p := 47) rfl ?_)); first | go_values | go_skip | go_guarded | go_step | go_upon))
     refine store_event (t := 3) (p := 47) (v := ?vo_w8) (w1 := (w7.setCell ⟨go, k9.toNat, none⟩ (.int .i64 x9))) ?hg ?ho ?hn ?hr ?_
     case ho => rfl
     case hg => rfl
     case hn => rfl
     case hr => first | (go_simp; done) | (go_simp; rfl)
     intro w8 hw
     have hgr : w7.grownBy w8 (some go) := by rw [hw]; exact HP.2
     have n0_ := Aside0.mk (show Kd.R (Kd.int .i64) 3 w8 w.heap.size (fun k_ => k_ ≠ g) (.slice (some ⟨go, 0, none⟩) o.length cb) (o.set k9.toNat x9) from by rw [hw]; exact HP.1)
     have n1_ := Aside0.mk (HI.out.grown hgr (fun e_ => GN.out (by injection e_ with e_; exact e_.symm)))
     have n2_ := Aside0.mk (show Below w0.heap.size w0 w8 from by rw [hw]; exact below_set HB.out (Nat.le_trans HW0.out GB.out))
     have n3_ := Aside0.mk (KeepBut.trans HK.out (KeepBut.of_grown hgr g) (.inr ⟨go, rfl, GB.out⟩))
     clear HVA HI HB HK HP hgr hw hx_ hf_
     have HVA := n0_; have HI := n1_; have HB := n2_; have HK := n3_
     clear n0_ n1_ n2_ n3_
     go_wp2
     go_ret
     exact ⟨_, rfl, Kd.R_mono HVA.out (fun _ _ => trivial), HI.out, HB.out, HK.out⟩
    ·
     have d1 : (q9 == 1) = false := beq_eq_false_iff_ne.mpr hq1
     rw [if_neg hq1] at h
     by_cases hq2 : q9 = 2
     ·
      have d2 : (q9 == 2) = true := beq_iff_eq.mpr hq2
      rw [if_pos hq2] at h
      obtain ⟨rfl, rfl, rfl⟩ : [1, 2, 3, 4, 5, 6, 7, 8] = r1 ∧ qa = r2 ∧ qb = r3 := by simpa using h
      clear h hq0 hq1 hq2
      obtain ⟨yZ, hyZ⟩ : ∃ y : List Int, y = [1, 2, 3, 4, 5, 6, 7, 8] := ⟨_, rfl⟩
      (repeat ((fail_if_success (with_reducible refine gate_dst (N := 50) rfl ?_)); first | go_values | go_skip | go_guarded | go_step | go_upon | go_back | go_simp))
      refine Kd.R_lit (Kd.int .i64) _ 3 ?hg (N := 50) ?hd (xs := ([1, 2, 3, 4, 5, 6, 7, 8] : List Int)) (inner := [.int .i64 (1), .int .i64 (2), .int .i64 (3), .int .i64 (4), .int .i64 (5), .int .i64 (6), .int .i64 (7), .int .i64 (8)]) (ok := fun _ => True) (okp := fun _ => True) ?hr ?hp (fun _ hk => hk) trivial (Below.refl _ _) (Nat.le_refl _) (by simp) ?_
      case hd => rfl
      case hg => rfl
      case hr => first | (go_simp; done) | (go_simp; rfl)
      case hp => exact (Reps.one (show Kd.M (Kd.int .i64) _ _ _ (1) [.int .i64 (1)] from rfl) (Reps.one (show Kd.M (Kd.int .i64) _ _ _ (2) [.int .i64 (2)] from rfl) (Reps.one (show Kd.M (Kd.int .i64) _ _ _ (3) [.int .i64 (3)] from rfl) (Reps.one (show Kd.M (Kd.int .i64) _ _ _ (4) [.int .i64 (4)] from rfl) (Reps.one (show Kd.M (Kd.int .i64) _ _ _ (5) [.int .i64 (5)] from rfl) (Reps.one (show Kd.M (Kd.int .i64) _ _ _ (6) [.int .i64 (6)] from rfl) (Reps.one (show Kd.M (Kd.int .i64) _ _ _ (7) [.int .i64 (7)] from rfl) (Reps.one (show Kd.M (Kd.int .i64) _ _ _ (8) [.int .i64 (8)] from rfl) (Reps.none _ _)))))))))
      intro vZ w5 ho hb hg_ hnew_
      clear hg_ hnew_
      rw [← hyZ] at ho
      have NYZ := Aside0.mk hyZ
      clear hyZ
      have HVZ := Aside0.mk (Kd.R_lower (Kd.R_mono (ok' := fun k_ => k_ ≠ g) (Kd.R_bound ho) (fun k_ h_ => by have h1_ := HI.out.lt; have h2_ := h_.2.1; exact fun h3_ => by omega)) HK.out.1)
      have ni_ := Aside0.mk (HI.out.below hb)
      have nb_ := Aside0.mk (below_step HB.out hb)
      have nk_ := Aside0.mk (KeepBut.trans HK.out (KeepBut.of_below hb g none) (.inl rfl))
      clear HI HB HK hb ho
      have HI := ni_; have HB := nb_; have HK := nk_
      clear ni_ nb_ nk_
      obtain ⟨bZ, cZ, eZ, _, _, _⟩ := Kd.R_form HVZ.out (by rw [NYZ.out]; decide)
      subst eZ
      have CCZ := Aside0.mk (Kd.R_reads' HVZ.out).2.1
      have HZZ := Aside0.mk (show Kd.R (Kd.int .i64) 3 w5 w.heap.size (fun k_ => k_ ≠ g) (.slice (some ⟨bZ, 0, none⟩) yZ.length cZ) [1, 2, 3, 4, 5, 6, 7, 8] from by have := HVZ.out; rw [← NYZ.out]; exact this)
      go_wp2
      go_ret
      exact ⟨_, rfl, Kd.R_mono HZZ.out (fun _ _ => trivial), HI.out, HB.out, HK.out⟩
     ·
      have d2 : (q9 == 2) = false := beq_eq_false_iff_ne.mpr hq2
      rw [if_neg hq2] at h
      obtain ⟨rfl, rfl, rfl⟩ : o = r1 ∧ qa = r2 ∧ qb = r3 := by simpa using h
      clear h hq0 hq1 hq2
      go_wp2
      go_ret
      exact ⟨_, rfl, Kd.R_mono HVA.out (fun _ _ => trivial), HI.out, HB.out, HK.out⟩
  | succ d =>
   clear A3 HF
   have c1 : decide (0 < n) = true := decide_eq_true (by have := HN.out; omega)
   obtain ⟨n1, hn1⟩ : ∃ n1 : Int, n1 = n - 1 := ⟨_, rfl⟩
   have zn : wrap64 (n - 1) = n1 := by rw [hn1]; exact IntWalk.wrap64_in _ (by have := HN.out; omega)
   have zn_ : IntKind.i64.wrap (n - 1) = n1 := (i64_w _).trans zn
   have HN1 := Aside0.mk (show n1.toNat = d ∧ n1 ≤ 1000000 by have := HN.out; omega)
   clear hn1
   obtain ⟨⟨p, pa, pb⟩, h1, h2⟩ := Option.bind_eq_some_iff.1 (show ((spec_l1Cur_pick.f s0 a b ((o.length : Int) + 1)).bind fun t => if (0 ≤ t.1 ∧ t.1 ≤ (o.length : Int)) ∧ o.length < 1000000 then spec_l1Cur_order.l0 s0 d ((o.take t.1.toNat ++ [(o.length : Int) + 1]) ++ o.drop t.1.toNat) t.2.1 t.2.2 else none) = some (o9, oa, ob) from HA.out)
   clear HA
   by_cases hp : (0 ≤ p ∧ p ≤ (o.length : Int)) ∧ o.length < 1000000
   case neg => rw [if_neg hp] at h2; exact absurd h2 (by simp)
   rw [if_pos hp] at h2
   have HP9 := Aside0.mk hp
   obtain ⟨m1, hm1⟩ : ∃ m1 : Int, m1 = (o.length : Int) + 1 := ⟨_, rfl⟩
   have zm : wrap64 ((o.length : Int) + 1) = m1 := by rw [hm1]; exact IntWalk.wrap64_in _ (by have := HP9.out; omega)
   have zm_ : IntKind.i64.wrap ((o.length : Int) + 1) = m1 := (i64_w _).trans zm
   rw [← hm1] at h1 h2
   obtain ⟨yt, hyt⟩ : ∃ y : List Int, y = o.take p.toNat := ⟨_, rfl⟩
   obtain ⟨yd, hyd⟩ : ∃ y : List Int, y = o.drop p.toNat := ⟨_, rfl⟩
   rw [← hyt, ← hyd] at h2
   have AP := Aside0.mk h1
   have H' := Aside0.mk h2
   have NYT := Aside0.mk hyt
   have NYD := Aside0.mk hyd
   have hylt : yt.length = p.toNat := by rw [hyt, List.length_take]; have := HP9.out; omega
   have hyld : yd.length = o.length - p.toNat := by rw [hyd, List.length_drop]
   have LT := Aside0.mk hylt
   have LD := Aside0.mk hyld
   clear hp hm1 h1 h2 hyt hyd
   obtain ⟨i0, hi0, _, hsz, _⟩ := info_parts info3
   have CAP := Aside0.mk (Kd.R_reads' HVA.out).2.1
   have hcutT := cut_to (P := Try.prog) 24 3 .i64 Try.underlying24 hi0 Ab o.length cb p HP9.out.1.1 HP9.out.1.2 CAP.out
   have hcutF := cut_from (P := Try.prog) 24 3 .i64 Try.underlying24 hi0 1 hsz Ab o.length cb p HP9.out.1.1 HP9.out.1.2
   obtain ⟨Ad, hAd⟩ : ∃ A1, A1 = (if cb = p.toNat then Ab else Ab.map (·.add (p.toNat * 1))) := ⟨_, rfl⟩
   obtain ⟨cd, hcd⟩ : ∃ c1, c1 = cb - p.toNat := ⟨_, rfl⟩
   rw [← hylt] at hcutT
   rw [← hAd, ← hyld, ← hcd] at hcutF
   have NAD := Aside0.mk hAd
   have NCD := Aside0.mk hcd
   clear hylt hyld hAd hcd hi0 hsz
   (repeat ((fail_if_success (with_reducible refine gate_callee (f := 63) rfl ?_)); first | go_values | go_skip | go_guarded | go_step | go_upon | go_back | go_simp))
   refine goesL_ (some 18) rfl rfl Try.func63 (by kernel_rfl) rfl #[.pointer (some ⟨g, 0, none⟩), .int .i64 m1] rfl (by (try simp only [List.map_toArray, List.map_cons, List.map_nil]); first | done | rfl) ?_
   refine (spec_l1Cur_pick.calls g s0 a b m1 p pa pb w0 _ HI.out HB.out AP.out).mono ?_
   rintro e w4 ⟨rfl, hi, hb, hk⟩
   refine ⟨_, rfl, ?_⟩
   have nA_ := Aside0.mk (Kd.R_keep HVA.out hk (fun _ h => h))
   have nk_ := Aside0.mk (KeepBut.trans HK.out hk (.inl rfl))
   clear HI HB HK hk HVA
   have HI := Aside0.mk hi
   have HB := Aside0.mk hb
   have HK := nk_
   clear nk_ hi hb
   have HVA := nA_
   go_wp2
   have nb_ := Aside0.mk (below_drew1 HB.out)
   have ni_ := Aside0.mk (HI.out.drew)
   have nk_ := Aside0.mk (keep_drew HK.out)
   have na_ := Aside0.mk (Kd.R_drew HVA.out)
   clear HB HI HK HVA
   have HB := nb_; have HI := ni_; have HK := nk_; have HVA := na_
   clear nb_ ni_ nk_ na_
   refine start_ (n := 14) (S := fun _ => True) (ds := []) #[false, false, false, false, false, false, false, false, false, false, false, false, false, false] (by kernel_rfl) rfl rfl trivial (fun hHeld => ?_)
   generalize w4.drew = w5 at HB HI HK HVA ⊢
   have HT_ := Aside0.mk (Kept.refl w5 (fun _ => False))
   refine pure_ (i := 0) (N := some 19) (v := ?_) (a' := ?_) #[true, false, false, false, false, false, false, false, false, false, false, false, false, false] rfl rfl (by kernel_rfl) (fun _ _ _ h => h) (Or.inl ⟨by rfl, ?_⟩) ?_ ?_; rotate_left; (· intro w'; go_simp; with_reducible rfl); rotate_left; (· simp only [Act.put, List.setIfInBounds_toArray, List.set_cons_zero, List.set_cons_succ, i64_w, i32_w]; rfl)
   refine pure_ (i := 1) (N := some 20) (v := ?_) (a' := ?_) #[true, true, false, false, false, false, false, false, false, false, false, false, false, false] rfl rfl (by kernel_rfl) (fun _ _ _ h => h) (Or.inl ⟨by rfl, ?_⟩) ?_ ?_; rotate_left; (· intro w'; go_simp; with_reducible rfl); rotate_left; (· simp only [Act.put, List.setIfInBounds_toArray, List.set_cons_zero, List.set_cons_succ, i64_w, i32_w]; rfl)
   refine pure_ (i := 2) (N := some 21) (v := ?_) (a' := ?_) #[true, true, true, false, false, false, false, false, false, false, false, false, false, false] rfl rfl (by kernel_rfl) (fun _ _ _ h => h) (Or.inl ⟨by rfl, ?_⟩) ?_ ?_; rotate_left; (· intro w'; go_simp; with_reducible rfl); rotate_left; (· simp only [Act.put, List.setIfInBounds_toArray, List.set_cons_zero, List.set_cons_succ, i64_w, i32_w]; rfl)
   refine pure_ (i := 4) (N := some 23) (v := ?_) (a' := ?_) #[true, true, true, false, true, false, false, false, false, false, false, false, false, false] rfl rfl (by kernel_rfl) (fun _ _ _ h => h) (Or.inl ⟨by rfl, ?_⟩) ?_ ?_; rotate_left; (· intro w'; go_simp; with_reducible rfl); rotate_left; (· simp only [Act.put, List.setIfInBounds_toArray, List.set_cons_zero, List.set_cons_succ, i64_w, i32_w]; rfl)
   refine pure_ (i := 5) (N := some 24) (v := ?_) (a' := ?_) #[true, true, true, false, true, true, false, false, false, false, false, false, false, false] rfl rfl (by kernel_rfl) (fun _ _ _ h => h) (Or.inl ⟨by rfl, ?_⟩) ?_ ?_; rotate_left; (· intro w'; go_simp; with_reducible rfl); rotate_left; (· simp only [Act.put, List.setIfInBounds_toArray, List.set_cons_zero, List.set_cons_succ, i64_w, i32_w]; rfl)
   refine pure_ (i := 6) (N := some 25) (v := ?_) (a' := ?_) #[true, true, true, false, true, true, true, false, false, false, false, false, false, false] rfl rfl (by kernel_rfl) (fun _ _ _ h => h) (Or.inl ⟨by rfl, ?_⟩) ?_ ?_; rotate_left; (· intro w'; go_simp; with_reducible rfl); rotate_left; (· simp only [Act.put, List.setIfInBounds_toArray, List.set_cons_zero, List.set_cons_succ, i64_w, i32_w]; rfl)
   refine pure_ (i := 9) (N := some 28) (v := ?_) (a' := ?_) #[true, true, true, false, true, true, true, false, false, true, false, false, false, false] rfl rfl (by kernel_rfl) (fun _ _ _ h => h) (Or.inl ⟨by rfl, ?_⟩) ?_ ?_; rotate_left; (· intro w'; go_simp; with_reducible rfl); rotate_left; (· simp only [Act.put, List.setIfInBounds_toArray, List.set_cons_zero, List.set_cons_succ, i64_w, i32_w]; rfl)
   refine pure_ (i := 10) (N := some 29) (v := ?_) (a' := ?_) #[true, true, true, false, true, true, true, false, false, true, true, false, false, false] rfl rfl (by kernel_rfl) (fun _ _ _ h => h) (Or.inl ⟨by rfl, ?_⟩) ?_ ?_; rotate_left; (· intro w'; go_simp; with_reducible rfl); rotate_left; (· simp only [Act.put, List.setIfInBounds_toArray, List.set_cons_zero, List.set_cons_succ, i64_w, i32_w]; rfl)
   refine pure_ (i := 11) (N := some 30) (v := ?_) (a' := ?_) #[true, true, true, false, true, true, true, false, false, true, true, true, false, false] rfl rfl (by kernel_rfl) (fun _ _ _ h => h) (Or.inl ⟨by rfl, ?_⟩) ?_ ?_; rotate_left; (· intro w'; go_simp; with_reducible rfl); rotate_left; (· simp only [Act.put, List.setIfInBounds_toArray, List.set_cons_zero, List.set_cons_succ, i64_w, i32_w]; rfl)
   refine join_ (σ := Value × Value) 3 #[true, true, true, true, true, true, true, true, false, true, true, true, false, false] (fun s_ => [(22, s_.1), (26, s_.2)]) (fun s_ w' => True ∧ Kd.R (Kd.int .i64) 3 w' w.heap.size (fun q_ => w5.heap.size ≤ q_) s_.1 yt ∧ Kd.R (Kd.int .i64) 3 w' 0 (fun _ => True) s_.2 [m1] ∧ Kept w5 w' (fun _ => False) ∧ Below w0.heap.size w0 w') ?cont ?start
   case start =>
    intro hCont
    refine two_ (i := 3) (j := 7) (Ni := some 22) (Nj := some 26) #[true, true, true, true, true, true, true, false, false, true, true, true, false, false] #[true, true, true, false, true, true, true, true, false, true, true, true, false, false] rfl rfl rfl rfl (by kernel_rfl) (by decide) (by decide) (fun K hK => ?_) (fun K hK => ?_)
    ·
     skip
     refine goes_ Try.func61 (by kernel_rfl) rfl #[.slice Ab yt.length cb] (by rfl) rfl rfl (by (try simp only [List.map_toArray, List.map_cons, List.map_nil]); first | done | rfl) ?_
     have hV_ := Kd.R_kept HVA.out HT_.out (fun _ _ h => h)
     have hC_ : Kd.C (Kd.int .i64) w5 Ab yt.length yt := by rw [NYT.out]; exact Kd.C_take (Kd.R_reads' hV_).2.2 (by have := HP9.out; omega)
     refine (spec_l1Own.calls Ab cb yt yt _ hC_ (by have h1_ := LT.out; have h2_ := HP9.out; have h3_ := CAP.out; omega) (by unfold spec_l1Own.f; simp only [Option.bind_some, List.length_nil, Nat.zero_add, List.nil_append]; rw [if_pos (by have h1_ := LT.out; have h2_ := HP9.out; omega)])).mono ?_
     rintro e w6 ⟨v22, rfl, ho, hb⟩
     refine ⟨_, rfl, ?_⟩
     have HCL := Aside0.mk (Kd.R_lower (Kd.R_mono (ok' := fun q_ => w5.heap.size ≤ q_) (Kd.R_bound ho) (fun q_ h_ => Nat.le_trans HT_.out.1 h_.2.1)) (Nat.le_trans HK.out.1 HT_.out.1))
     skip
     have nb_ := Aside0.mk (below_step HB.out hb)
     have nt_ := Aside0.mk (HT_.out.below hb)
     clear HB HT_ ho hb hC_ hV_
     have HB := nb_; have HT_ := nt_
     clear nb_ nt_
     refine hK.out _ _ trivial (fun hHeld => ?_)
     clear hK K
     refine norm_ (a' := ?_) ?_ ?_; rotate_left; (· show Act.put _ (some 22) _ = _; simp only [Act.put, List.setIfInBounds_toArray, List.set_cons_zero, List.set_cons_succ, i64_w, i32_w]; rfl)
     refine one_ (i := 7) (N := some 26) #[true, true, true, true, true, true, true, true, false, true, true, true, false, false] rfl rfl (by kernel_rfl) (by decide) (fun K hK => ?_)
     refine Kd.R_lit_step (Kd.int .i64) _ 3 ?hg (N := 26) ?hd (xs := ([m1] : List Int)) (inner := [.int .i64 m1]) (ok := fun _ => True) (okp := fun _ => True) ?hr ?hp (fun _ hk => hk) trivial (Below.refl _ _) (Nat.le_refl _) (by simp) ?_; (case hd => rfl); (case hg => rfl); (case hr => first | (go_simp; done) | (go_simp; rfl)); (case hp => exact (Reps.one (show Kd.M (Kd.int .i64) _ _ _ m1 [.int .i64 m1] from rfl) (Reps.none _ _)))
     intro v26 w7 ho hb hg_ hnew_
     clear hg_ hnew_
     have HLI := Aside0.mk (show Kd.R (Kd.int .i64) 3 w7 0 (fun _ => True) v26 [m1] from Kd.R_lower ho (Nat.zero_le _))
     have n2_ := Aside0.mk (Kd.R_below HCL.out hb)
     have nb_ := Aside0.mk (below_step HB.out hb)
     have nt_ := Aside0.mk (HT_.out.below hb)
     clear HB HT_ ho hb
     have HB := nb_; have HT_ := nt_
     clear nb_ nt_ HCL
     have HCL := n2_
     clear n2_
     refine hK.out _ _ trivial (fun hHeld => ?_)
     clear hK K
     refine norm_ (a' := ?_) ?_ ?_; rotate_left; (· show Act.put _ (some 26) _ = _; simp only [Act.put, List.setIfInBounds_toArray, List.set_cons_zero, List.set_cons_succ, i64_w, i32_w]; rfl)
     exact norm_ (by simp only [putAll, Act.put, List.setIfInBounds_toArray, List.set_cons_zero, List.set_cons_succ]) (hCont (v22, v26) _ ⟨trivial, HCL.out, HLI.out, HT_.out, HB.out⟩)
    ·
     skip
     refine Kd.R_lit_step (Kd.int .i64) _ 3 ?hg (N := 26) ?hd (xs := ([m1] : List Int)) (inner := [.int .i64 m1]) (ok := fun _ => True) (okp := fun _ => True) ?hr ?hp (fun _ hk => hk) trivial (Below.refl _ _) (Nat.le_refl _) (by simp) ?_; (case hd => rfl); (case hg => rfl); (case hr => first | (go_simp; done) | (go_simp; rfl)); (case hp => exact (Reps.one (show Kd.M (Kd.int .i64) _ _ _ m1 [.int .i64 m1] from rfl) (Reps.none _ _)))
     intro v26 w6 ho hb hg_ hnew_
     clear hg_ hnew_
     have HLI := Aside0.mk (show Kd.R (Kd.int .i64) 3 w6 0 (fun _ => True) v26 [m1] from Kd.R_lower ho (Nat.zero_le _))
     skip
     have nb_ := Aside0.mk (below_step HB.out hb)
     have nt_ := Aside0.mk (HT_.out.below hb)
     clear HB HT_ ho hb
     have HB := nb_; have HT_ := nt_
     clear nb_ nt_
     refine hK.out _ _ trivial (fun hHeld => ?_)
     clear hK K
     refine norm_ (a' := ?_) ?_ ?_; rotate_left; (· show Act.put _ (some 26) _ = _; simp only [Act.put, List.setIfInBounds_toArray, List.set_cons_zero, List.set_cons_succ, i64_w, i32_w]; rfl)
     refine one_ (i := 3) (N := some 22) #[true, true, true, true, true, true, true, true, false, true, true, true, false, false] rfl rfl (by kernel_rfl) (by decide) (fun K hK => ?_)
     refine goes_ Try.func61 (by kernel_rfl) rfl #[.slice Ab yt.length cb] (by rfl) rfl rfl (by (try simp only [List.map_toArray, List.map_cons, List.map_nil]); first | done | rfl) ?_
     have hV_ := Kd.R_kept HVA.out HT_.out (fun _ _ h => h)
     have hC_ : Kd.C (Kd.int .i64) w6 Ab yt.length yt := by rw [NYT.out]; exact Kd.C_take (Kd.R_reads' hV_).2.2 (by have := HP9.out; omega)
     refine (spec_l1Own.calls Ab cb yt yt _ hC_ (by have h1_ := LT.out; have h2_ := HP9.out; have h3_ := CAP.out; omega) (by unfold spec_l1Own.f; simp only [Option.bind_some, List.length_nil, Nat.zero_add, List.nil_append]; rw [if_pos (by have h1_ := LT.out; have h2_ := HP9.out; omega)])).mono ?_
     rintro e w7 ⟨v22, rfl, ho, hb⟩
     refine ⟨_, rfl, ?_⟩
     have HCL := Aside0.mk (Kd.R_lower (Kd.R_mono (ok' := fun q_ => w5.heap.size ≤ q_) (Kd.R_bound ho) (fun q_ h_ => Nat.le_trans HT_.out.1 h_.2.1)) (Nat.le_trans HK.out.1 HT_.out.1))
     have n2_ := Aside0.mk (Kd.R_below HLI.out hb)
     have nb_ := Aside0.mk (below_step HB.out hb)
     have nt_ := Aside0.mk (HT_.out.below hb)
     clear HB HT_ ho hb hC_ hV_
     have HB := nb_; have HT_ := nt_
     clear nb_ nt_ HLI
     have HLI := n2_
     clear n2_
     refine hK.out _ _ trivial (fun hHeld => ?_)
     clear hK K
     refine norm_ (a' := ?_) ?_ ?_; rotate_left; (· show Act.put _ (some 22) _ = _; simp only [Act.put, List.setIfInBounds_toArray, List.set_cons_zero, List.set_cons_succ, i64_w, i32_w]; rfl)
     exact norm_ (by simp only [putAll, Act.put, List.setIfInBounds_toArray, List.set_cons_zero, List.set_cons_succ]) (hCont (v22, v26) _ ⟨trivial, HCL.out, HLI.out, HT_.out, HB.out⟩)
   case cont =>
    rintro ⟨v22, v26⟩ w8 ⟨_, hcl, hli, hkt8, hbel8⟩
    clear HT_ HB
    obtain ⟨A22, c22, e22⟩ := Kd.R_slice hcl
    obtain ⟨A26, c26, e26⟩ := Kd.R_slice hli
    subst e22 e26
    have HCL := Aside0.mk hcl
    have HLI := Aside0.mk hli
    have HT_ := Aside0.mk hkt8
    have HB := Aside0.mk hbel8
    clear hcl hli hkt8 hbel8
    refine norm_ (a' := ?_) ?_ ?_
    rotate_left
    ·
     simp only [putAll, Act.put, List.setIfInBounds_toArray, List.set_cons_zero, List.set_cons_succ]
     rfl
    refine one_ (i := 8) (N := some 27) #[true, true, true, true, true, true, true, true, true, true, true, true, false, false] rfl rfl (by kernel_rfl) (by decide) (fun K hK => ?_)
    refine Kd.R_append_rows_step (Kd.int .i64) (w0 := w8) w.heap.size (by rfl) (.tmp 22) (.tmp 26) 24 3 (.int .i64 0) 8 rfl Try.underlying24 info3 rfl (by decide) (by omega) (.slice A22 yt.length c22) yt [m1] A26 1 c26 (fun q_ => w5.heap.size ≤ q_) (fun _ => False) rfl rfl ?aOP ?aRP (fun _ _ h => h) (fun _ h => h.elim) ?aFP ?aBP ?aSP ?aLP ?_
    case aRP => exact (Kd.R_reads' HLI.out).2.2
    case aBP => exact Below.refl _ _
    case aFP => exact (fun k_ hk => Nat.le_trans HT_.out.1 hk)
    case aOP => exact HCL.out
    case aSP => exact Nat.le_trans HK.out.1 HT_.out.1
    case aLP => have h1_ := LT.out; have h2_ := LD.out; have h3_ := HP9.out; (try simp only [List.length_append, List.length_singleton]); omega
    intro v27 w9 ho hb hg hat
    have n0_ := Aside0.mk (below_weaken HB.out HW0.out hb)
    have n1_ := Aside0.mk (Kept.of_grown hg HT_.out (fun q_ hq_ => .inr (HCL.out.1 q_ hq_)))
    clear HB HT_ HCL hb hg hat
    have HB := n0_; have HT_ := n1_
    have HCL := Aside0.mk ho
    clear n0_ n1_ ho
    refine hK.out _ _ trivial (fun hHeld => ?_)
    clear hK K
    refine norm_ (a' := ?_) ?_ ?_; rotate_left; (· show Act.put _ (some 27) _ = _; simp only [Act.put, List.setIfInBounds_toArray, List.set_cons_zero, List.set_cons_succ, i64_w, i32_w]; rfl)
    obtain ⟨A27, c27, e27⟩ := Kd.R_slice HCL.out
    subst e27
    refine one_ (i := 12) (N := some 31) #[true, true, true, true, true, true, true, true, true, true, true, true, true, false] rfl rfl (by kernel_rfl) (by decide) (fun K hK => ?_)
    refine Kd.R_append_rows_step (Kd.int .i64) (w0 := w9) w.heap.size (by rfl) (.tmp 27) (.tmp 30) 24 3 (.int .i64 0) 8 rfl Try.underlying24 info3 rfl (by decide) (by omega) (.slice A27 (yt ++ [m1]).length c27) (yt ++ [m1]) yd Ad yd.length cd (fun q_ => w5.heap.size ≤ q_) (fun _ => False) rfl rfl ?aOQ ?aRQ (fun _ _ h => h) (fun _ h => h.elim) ?aFQ ?aBQ ?aSQ ?aLQ ?_
    case aRQ => exact (show Kd.C (Kd.int .i64) w9 Ad yd.length yd from by rw [NYD.out, NAD.out]; exact Kd.C_drop (m := p.toNat) (c := cb) (Kd.R_reads' (Kd.R_kept HVA.out HT_.out (fun _ _ h => h))).2.2 (by have := HP9.out; omega) CAP.out)
    case aBQ => exact Below.refl _ _
    case aFQ => exact (fun k_ hk => Nat.le_trans HT_.out.1 hk)
    case aOQ => exact HCL.out
    case aSQ => exact Nat.le_trans HK.out.1 HT_.out.1
    case aLQ => have h1_ := LT.out; have h2_ := LD.out; have h3_ := HP9.out; (try simp only [List.length_append, List.length_singleton]); omega
    intro v31 w10 ho hb hg hat
    have n0_ := Aside0.mk (below_weaken HB.out HW0.out hb)
    have n1_ := Aside0.mk (Kept.of_grown hg HT_.out (fun q_ hq_ => .inr (HCL.out.1 q_ hq_)))
    clear HB HT_ HCL hb hg hat
    have HB := n0_; have HT_ := n1_
    have HCL := Aside0.mk ho
    clear n0_ n1_ ho
    refine hK.out _ _ trivial (fun hHeld => ?_)
    clear hK K
    refine norm_ (a' := ?_) ?_ ?_; rotate_left; (· show Act.put _ (some 31) _ = _; simp only [Act.put, List.setIfInBounds_toArray, List.set_cons_zero, List.set_cons_succ, i64_w, i32_w]; rfl)
    refine pure_ (i := 13) (N := some 3) (v := ?_) (a' := ?_) #[true, true, true, true, true, true, true, true, true, true, true, true, true, true] rfl rfl (by kernel_rfl) (fun _ _ _ h => h) (Or.inl ⟨by rfl, ?_⟩) ?_ ?_; rotate_left; (· intro w'; go_simp; with_reducible rfl); rotate_left; (· simp only [Act.put, List.setIfInBounds_toArray, List.set_cons_zero, List.set_cons_succ, i64_w, i32_w]; rfl)
    refine done_ (by kernel_rfl) ?_
    have HZ := Aside0.mk (show Kd.R (Kd.int .i64) 3 w10 w.heap.size (fun k_ => k_ ≠ g) v31 ((yt ++ [m1]) ++ yd) ∧ IsS52 w0 w10 g s0 pa pb ∧ KeepBut w w10 g none from ⟨Kd.R_mono HCL.out (fun q_ hq_ => by have h1_ := HI.out.lt; exact fun h2_ => by omega), HI.out.kept HT_.out (fun h => h), Kept.keep HK.out HT_.out (fun _ h => h.elim)⟩)
    clear HI HK HCL HLI HVA HT_ hHeld hcutT hcutF
    go_wp2
    go_roundg d
    case measure => omega
    case rel => exact ⟨n1, pa, pb, _, _, rfl, (by first | rfl | rw [zn]), HN1, H', ⟨HZ.out.1⟩, ⟨HZ.out.2.1⟩, HB, ⟨HZ.out.2.2⟩⟩
def spec_l1Cur_one.f (s0_0 : List Int) (s0_1 : Int) (s0_2 : Int) (a1 : Int) : Option (Bool × Int × Int) := (spec_l1Cur_pick.f s0_0 s0_1 s0_2 a1).bind fun bt118 => (some ((bt118.1 == 0), bt118.2.1, bt118.2.2))
set_option maxHeartbeats 8000000 in
set_option maxRecDepth 100000 in
theorem spec_l1Cur_one.calls (g : Nat) (s0_0 : List Int) (s0_1 : Int) (s0_2 : Int) (a1 : Int) (r1 : Bool) (r2 : Int) (r3 : Int) (w0 w : World) (hI : IsS52 w0 w g s0_0 s0_1 s0_2) (hB : Below w0.heap.size w0 w) (h : spec_l1Cur_one.f s0_0 s0_1 s0_2 a1 = some (r1, r2, r3)) :
  Calls Try.prog 53 #[.pointer (some ⟨g, 0, none⟩), .int .i64 a1] w fun e w' => e = .returned (.bool r1) ∧ IsS52 w0 w' g s0_0 r2 r3 ∧ Below w0.heap.size w0 w' ∧ KeepBut w w' g none := by
 have HI0 := Aside0.mk hI
 have HK := Aside0.mk (KeepBut.refl w g none)
 have HL := Aside0.mk hB.size
 clear hI
 have HW0 := Aside0.mk hB.size
 have HB := Aside0.mk hB
 clear hB
 have H : ((spec_l1Cur_pick.f s0_0 s0_1 s0_2 a1).bind fun bt118 => (some ((bt118.1 == 0), bt118.2.1, bt118.2.2))) = some (r1, r2, r3) := h
 clear h
 replace H := Option.bind_eq_some_iff.mp H
 obtain ⟨⟨t118, t119, t120⟩, A30, H⟩ := H
 (try dsimp only at H)
 have A3 := Aside0.mk A30
 clear A30
 simp only [Option.some.injEq, Prod.mk.injEq] at H
 obtain ⟨rfl, rfl, rfl⟩ := H
 go_enter Try.func53, Try.ntmps53
 go_wp2_with (first | ((with_reducible refine gate_callee (f := 63) rfl ?_); refine goesL_ (some 7) rfl rfl Try.func63 (by kernel_rfl) rfl #[.pointer (some ⟨g, 0, none⟩), .int .i64 a1] rfl (by (try simp only [List.map_toArray, List.map_cons, List.map_nil]); first | done | rfl | (simp only [List.length_drop, List.length_take]; rfl)) ?_; (with_reducible refine (spec_l1Cur_pick.calls g s0_0 s0_1 s0_2 a1 t118 t119 t120 w0 _ ?side1 ?side2 A3.out).mono ?_); (case side1 => repeat (first | (with_reducible first | exact HI0.out | apply IsS52.alloc | apply IsS52.drewN | apply IsS52.drew | apply IsS52.set_1 | apply IsS52.set_2) | exact HI0.out)); (case side2 => repeat (first | (with_reducible first | exact HB.out | apply below_alloc | apply pw_below_drewN | apply below_drew1 | refine below_set ?_ (IsS52.ge HI0.out)) | exact HB.out)); rintro e w4 ⟨rfl, hi, hb, hk⟩; refine ⟨_, rfl, ?_⟩; have n0_ := Aside0.mk (KeepBut.trans (by repeat (first | (with_reducible first | exact HK.out | apply KeepBut.set_ | apply keep_drewN | apply keep_drew | apply keep_alloc) | exact HK.out)) hk (.inl rfl)); have n1_ := Aside0.mk (hb); have n2_ := Aside0.mk (hi); clear HK; clear HB; clear HI0; have HK := n0_; have HB := n1_; have HI0 := n2_; clear n0_ n1_ n2_; (try clear hb); (try clear hb2); (try clear hk); (try clear hi)))
 go_ret
 exact ⟨by first | rfl | (simp [errW_none, errW_some] <;> rfl) | (simp [*, errW_none, errW_some] <;> rfl), by repeat (first | (with_reducible first | exact HI0.out | apply IsS52.alloc | apply IsS52.drewN | apply IsS52.drew | apply IsS52.set_1 | apply IsS52.set_2) | exact HI0.out), by repeat (first | (with_reducible first | exact HB.out | apply below_alloc | apply pw_below_drewN | apply below_drew1 | refine below_set ?_ (IsS52.ge HI0.out)) | exact HB.out), by repeat (first | (with_reducible first | exact HK.out | apply KeepBut.set_ | apply keep_drewN | apply keep_drew | apply keep_alloc) | exact HK.out)⟩
end Go.Proofs.Ytfjbgmemjjjjoaa.PFnEndsCounts
