-- laid by mkprint.py, a program of this claim's writer, over the kit's print program; parts of it are typed by hand
import Derived.Test.YtidiondgfoolbaaPFnQueuesx0
import Derived.Test.YtidiondgfoolbaaPFnQueuesx1
import Derived.Test.YtidiondgfoolbaaPFnQueuesx6
import Derived.Test.YtidiondgfoolbaaPFnQueuesx7
import Derived.Test.YtidiondgfoolbaaPFnQueuesx13
namespace Go.Proofs.Ytidiondgfoolbaa.PFnQueues
open Go.RowKit Go.Proofs.YtidiondgfoolbaaW.PrintWords Go.Proofs.YtidiondgfoolbaaW.PrintLast Go.Proofs.YtidiondgfoolbaaW.PrintMore
attribute [local go_sem] max2_int min2_int max_two min_two max_three min_three max_four min_four
set_option linter.unusedVariables false
set_option linter.unusedSimpArgs false
def spec_CountQueueWays.f (k : Nat) (l0 : List Int) (a1 : Int) : Option (Int × Bool) := (spec_l2Order.f k l0).bind fun t314 => (if t314 = true then ((spec_l1In.f a1 1 4).bind fun t315 => (if t315 = true then (if 0 ≤ a1 then (if (a1 : Int).toNat ≤ 35184372088832 then ((spec_l5Ways.f k l0 0 (List.replicate (a1 : Int).toNat 0)).bind fun t319 => (some (t319, true))) else (none)) else (none)) else (some (0, false)))) else (some (0, false)))
theorem spec_CountQueueWays.mono : ∀ a0 a1 k, LeO (spec_CountQueueWays.f k a0 a1) (spec_CountQueueWays.f (k + 1) a0 a1) := by
  intro a0 a1 k
  unfold spec_CountQueueWays.f
  repeat' first
      | (with_reducible exact spec_l2Order.mono _ _)
      | (with_reducible exact spec_l5Ways.mono _ _ _ _)
      | (with_reducible exact LeO.refl _)
      | (with_reducible exact LeO.none _)
      | (with_reducible refine LeO.ite ?_ ?_)
      | (with_reducible refine LeO.bind ?_ (fun _ => ?_))
      | exact spec_l2Order.mono _ _
      | exact spec_l5Ways.mono _ _ _ _
      | exact LeO.none _
      | refine LeO.ite ?_ ?_
      | refine LeO.bind ?_ (fun _ => ?_)
set_option maxHeartbeats 8000000 in
set_option maxRecDepth 100000 in
theorem spec_CountQueueWays.calls (k : Nat) (A0 : Option Addr) (c0 : Nat) (l0 : List Int) (a1 : Int) (r1 : Int) (r2 : Bool) (w : World) (hr0 : Kd.C (Kd.int .i64) w A0 l0.length l0) (hc0 : l0.length ≤ c0) (h : spec_CountQueueWays.f k l0 a1 = some (r1, r2)) :
    Calls Try.prog 15 #[.slice A0 l0.length c0, .int .i64 a1] w fun e w' => e = .returned (.tuple #[.int .i64 r1, .bool r2]) ∧ Below w.heap.size w w' := by
  have HR0 := Aside0.mk hr0
  have HC0 := Aside0.mk hc0
  clear hr0 hc0
  have HB := Aside0.mk (Below.refl w.heap.size w)
  have H : ((spec_l2Order.f k l0).bind fun t314 => (if t314 = true then ((spec_l1In.f a1 1 4).bind fun t315 => (if t315 = true then (if 0 ≤ a1 then (if (a1 : Int).toNat ≤ 35184372088832 then ((spec_l5Ways.f k l0 0 (List.replicate (a1 : Int).toNat 0)).bind fun t319 => (some (t319, true))) else (none)) else (none)) else (some (0, false)))) else (some (0, false)))) = some (r1, r2) := h
  clear h
  replace H := Option.bind_eq_some_iff.mp H
  obtain ⟨t314, A30, H⟩ := H
  replace H : (if t314 = true then ((spec_l1In.f a1 1 4).bind fun t315 => (if t315 = true then (if 0 ≤ a1 then (if (a1 : Int).toNat ≤ 35184372088832 then ((spec_l5Ways.f k l0 0 (List.replicate (a1 : Int).toNat 0)).bind fun t319 => (some (t319, true))) else (none)) else (none)) else (some (0, false)))) else (some (0, false))) = some (r1, r2) := H
  have A3 := Aside0.mk A30
  clear A30
  by_cases c4 : t314 = true
  · subst c4
    have H1 : ((spec_l1In.f a1 1 4).bind fun t315 => (if t315 = true then (if 0 ≤ a1 then (if (a1 : Int).toNat ≤ 35184372088832 then ((spec_l5Ways.f k l0 0 (List.replicate (a1 : Int).toNat 0)).bind fun t319 => (some (t319, true))) else (none)) else (none)) else (some (0, false)))) = some (r1, r2) := by rw [if_pos rfl] at H; exact H
    clear H
    have H := H1
    clear H1
    replace H := Option.bind_eq_some_iff.mp H
    obtain ⟨t315, A50, H⟩ := H
    replace H : (if t315 = true then (if 0 ≤ a1 then (if (a1 : Int).toNat ≤ 35184372088832 then ((spec_l5Ways.f k l0 0 (List.replicate (a1 : Int).toNat 0)).bind fun t319 => (some (t319, true))) else (none)) else (none)) else (some (0, false))) = some (r1, r2) := H
    have A5 := Aside0.mk A50
    clear A50
    by_cases c6 : t315 = true
    · subst c6
      have H1 : (if 0 ≤ a1 then (if (a1 : Int).toNat ≤ 35184372088832 then ((spec_l5Ways.f k l0 0 (List.replicate (a1 : Int).toNat 0)).bind fun t319 => (some (t319, true))) else (none)) else (none)) = some (r1, r2) := by rw [if_pos rfl] at H; exact H
      clear H
      have H := H1
      clear H1
      by_cases c7 : 0 ≤ a1
      · rw [if_pos c7] at H
        have c7b0 := eq_true c7
        have c7b1 : decide (0 ≤ a1) = true := decide_eq_true c7
        clear c7
        by_cases c8 : (a1 : Int).toNat ≤ 35184372088832
        · rw [if_pos c8] at H
          have c8b0 := eq_true c8
          have c8b1 : decide ((a1 : Int).toNat ≤ 35184372088832) = true := decide_eq_true c8
          clear c8
          obtain ⟨y316, hy316⟩ : ∃ y_ : List Int, y_ = (List.replicate (a1 : Int).toNat 0) := ⟨_, rfl⟩
          replace H : ((spec_l5Ways.f k l0 0 y316).bind fun t319 => (some (t319, true))) = some (r1, r2) := by first | (rw [hy316]; with_reducible exact H) | (have H2_ := (Option.bind_some _ _).symm.trans H; rw [hy316]; with_reducible exact H2_) | (have H2_ := (Option.bind_some _ _).symm.trans H; with_reducible exact H2_) | with_reducible exact H | (rw [hy316]; exact H) | exact H
          have Ny316 := Aside0.mk hy316
          clear hy316
          replace H := Option.bind_eq_some_iff.mp H
          obtain ⟨t319, A90, H⟩ := H
          replace H : (some (t319, true)) = some (r1, r2) := H
          have A9 := Aside0.mk A90
          clear A90
          simp only [Option.some.injEq, Prod.mk.injEq] at H
          obtain ⟨rfl, rfl⟩ := H
          go_enter Try.func15, Try.ntmps15
          go_wp2_with (first | ((with_reducible refine gate_callee (f := 30) rfl ?_); refine goesL_ (some 7) rfl rfl Try.func30 (by kernel_rfl) rfl #[.slice A0 l0.length c0] rfl (by (try simp only [List.map_toArray, List.map_cons, List.map_nil]); first | done | rfl | (simp only [List.length_drop, List.length_take]; rfl)) ?_; (with_reducible refine (spec_l2Order.calls k _ _ l0 true _ ?side1 ?side2 A3.out).mono ?_); (case side1 => repeat (first | exact HR0.out | (with_reducible refine Kd.C_alloc ?_ _) | (with_reducible refine Kd.C_drewN ?_ _) | (with_reducible refine Kd.C_drew ?_))); (case side2 => exact HC0.out); rintro e w' ⟨rfl, ⟨nd, rfl⟩⟩; refine ⟨_, rfl, ?_⟩) | (go_at_call 37; (with_reducible refine (spec_l1In.calls a1 1 4 true _ A5.out).mono ?_); rintro e w' ⟨rfl, ⟨nd, rfl⟩⟩) | ((with_reducible refine gate_dst (N := 16) rfl ?_); refine Kd.R_make (Kd.int .i64) _ 3 rfl (N := 16) rfl 24 _ _ rfl a1 rfl rfl Try.underlying24 (.int .i64 0) 8 info3 rfl (by decide) (by omega) 0 (ok := fun _ => True) (okp := fun _ => True) rfl (fun _ hk => hk) trivial (of_decide_eq_true (by first | (with_reducible assumption) | assumption)) (Nat.le_trans (Nat.mul_le_mul_right _ (of_decide_eq_true (by first | (with_reducible assumption) | assumption) : a1.toNat ≤ 35184372088832)) (by omega)) (Below.refl _ _) (Nat.le_refl _) ?_; intro v317 w10 ho11 hb hg_ hnew_; clear hg_ hnew_; (first | rw [← Ny316.out] at ho11 | (simp only [Int.reduceToNat] at ho11; rw [← Ny316.out] at ho11)); have n0_ := Aside0.mk (Kd.R_lower ho11 (below_size (by repeat (first | (with_reducible first | exact HB.out | apply below_alloc | apply pw_below_drewN | apply below_drew1) | exact HB.out)))); have n1_ := Aside0.mk (below_step (by repeat (first | (with_reducible first | exact HB.out | apply below_alloc | apply pw_below_drewN | apply below_drew1) | exact HB.out)) hb); clear HB; have HO318 := n0_; have HB := n1_; clear n0_ n1_; clear hb ho11; obtain ⟨Ao12, co12, eo12⟩ := Kd.R_slice HO318.out; subst eo12) | ((with_reducible refine gate_callee (f := 38) rfl ?_); refine goesL_ (some 17) rfl rfl Try.func38 (by kernel_rfl) rfl #[.slice A0 l0.length c0, .int .i64 0, .slice Ao12 y316.length co12] rfl (by (try simp only [List.map_toArray, List.map_cons, List.map_nil]); first | done | rfl | (simp only [List.length_drop, List.length_take]; rfl)) ?_; (with_reducible refine (spec_l5Ways.calls k _ _ l0 0 _ _ y316 t319 _ ?side1 ?side2 ?side3 ?side4 A9.out).mono ?_); (case side1 => repeat (first | exact (Kd.C_below HR0.out HB.out) | (with_reducible refine Kd.C_alloc ?_ _) | (with_reducible refine Kd.C_drewN ?_ _) | (with_reducible refine Kd.C_drew ?_))); (case side2 => exact HC0.out); (case side3 => repeat (first | exact (Kd.R_reads' HO318.out).2.2 | (with_reducible refine Kd.C_alloc ?_ _) | (with_reducible refine Kd.C_drewN ?_ _) | (with_reducible refine Kd.C_drew ?_))); (case side4 => exact (Kd.R_reads' HO318.out).2.1); rintro e w13 ⟨rfl, hb⟩; refine ⟨_, rfl, ?_⟩; have n0_ := Aside0.mk (Kd.R_below (by (with_reducible repeat (first | apply Kd.R_alloc | apply Kd.R_drewN | apply Kd.R_drew)); exact HO318.out) hb); have n1_ := Aside0.mk (below_step (by repeat (first | (with_reducible first | exact HB.out | apply below_alloc | apply pw_below_drewN | apply below_drew1) | exact HB.out)) hb); clear HO318; clear HB; have HO318 := n0_; have HB := n1_; clear n0_ n1_; (try clear hb); (try clear hb2); (try clear hk); (try clear hi)))
          go_ret2
          exact ⟨by first | rfl | (simp [errW_none, errW_some] <;> rfl) | (simp [*, errW_none, errW_some] <;> rfl), by repeat (first | (with_reducible first | exact HB.out | apply below_alloc | apply pw_below_drewN | apply below_drew1) | exact HB.out)⟩
        · rw [if_neg c8] at H
          exact absurd H (by simp)
      · rw [if_neg c7] at H
        exact absurd H (by simp)
    · replace c6 := Bool.eq_false_iff.mpr c6
      subst c6
      have H1 : (some (0, false)) = some (r1, r2) := by rw [if_neg (show ¬ (false = true) by decide)] at H; exact H
      clear H
      have H := H1
      clear H1
      simp only [Option.some.injEq, Prod.mk.injEq] at H
      obtain ⟨rfl, rfl⟩ := H
      go_enter Try.func15, Try.ntmps15
      go_wp2_with (first | ((with_reducible refine gate_callee (f := 30) rfl ?_); refine goesL_ (some 7) rfl rfl Try.func30 (by kernel_rfl) rfl #[.slice A0 l0.length c0] rfl (by (try simp only [List.map_toArray, List.map_cons, List.map_nil]); first | done | rfl | (simp only [List.length_drop, List.length_take]; rfl)) ?_; (with_reducible refine (spec_l2Order.calls k _ _ l0 true _ ?side1 ?side2 A3.out).mono ?_); (case side1 => repeat (first | exact HR0.out | (with_reducible refine Kd.C_alloc ?_ _) | (with_reducible refine Kd.C_drewN ?_ _) | (with_reducible refine Kd.C_drew ?_))); (case side2 => exact HC0.out); rintro e w' ⟨rfl, ⟨nd, rfl⟩⟩; refine ⟨_, rfl, ?_⟩) | (go_at_call 37; (with_reducible refine (spec_l1In.calls a1 1 4 false _ A5.out).mono ?_); rintro e w' ⟨rfl, ⟨nd, rfl⟩⟩))
      go_ret2
      exact ⟨by first | rfl | (simp [errW_none, errW_some] <;> rfl) | (simp [*, errW_none, errW_some] <;> rfl), by repeat (first | (with_reducible first | exact HB.out | apply below_alloc | apply pw_below_drewN | apply below_drew1) | exact HB.out)⟩
  · replace c4 := Bool.eq_false_iff.mpr c4
    subst c4
    have H1 : (some (0, false)) = some (r1, r2) := by rw [if_neg (show ¬ (false = true) by decide)] at H; exact H
    clear H
    have H := H1
    clear H1
    simp only [Option.some.injEq, Prod.mk.injEq] at H
    obtain ⟨rfl, rfl⟩ := H
    go_enter Try.func15, Try.ntmps15
    go_wp2_with (first | ((with_reducible refine gate_callee (f := 30) rfl ?_); refine goesL_ (some 7) rfl rfl Try.func30 (by kernel_rfl) rfl #[.slice A0 l0.length c0] rfl (by (try simp only [List.map_toArray, List.map_cons, List.map_nil]); first | done | rfl | (simp only [List.length_drop, List.length_take]; rfl)) ?_; (with_reducible refine (spec_l2Order.calls k _ _ l0 false _ ?side1 ?side2 A3.out).mono ?_); (case side1 => repeat (first | exact HR0.out | (with_reducible refine Kd.C_alloc ?_ _) | (with_reducible refine Kd.C_drewN ?_ _) | (with_reducible refine Kd.C_drew ?_))); (case side2 => exact HC0.out); rintro e w' ⟨rfl, ⟨nd, rfl⟩⟩; refine ⟨_, rfl, ?_⟩))
    go_ret2
    exact ⟨by first | rfl | (simp [errW_none, errW_some] <;> rfl) | (simp [*, errW_none, errW_some] <;> rfl), by repeat (first | (with_reducible first | exact HB.out | apply below_alloc | apply pw_below_drewN | apply below_drew1) | exact HB.out)⟩
def spec_l1Cur_size3.f (s0 : List Int) (s1 : Int) (s2 : Int) : Option (Int × Int × Int) := (spec_l1Cur_pick.f s0 s1 s2 24).bind fun t => (let m := wrap64 (6 + wrap64 (Int.tdiv t.1 8)); if 0 ≤ m ∧ m ≤ 9 then spec_l1Cur_among.f s0 t.2.1 t.2.2 (([4, 5, 3, 6, 2, 1, 0, 8, 7] : List Int).take m.toNat) else none)
set_option maxHeartbeats 8000000 in
set_option maxRecDepth 100000 in
theorem spec_l1Cur_size3.calls (g : Nat) (s0 : List Int) (s1 : Int) (s2 : Int) (r1 : Int) (r2 : Int) (r3 : Int) (w0 w : World) (hI : IsS45 w0 w g s0 s1 s2) (hB : Below w0.heap.size w0 w) (h : spec_l1Cur_size3.f s0 s1 s2 = some (r1, r2, r3)) :
    Calls Try.prog 39 #[.pointer (some ⟨g, 0, none⟩)] w fun e w' => e = .returned (.int .i64 r1) ∧ IsS45 w0 w' g s0 r2 r3 ∧ Below w0.heap.size w0 w' ∧ KeepBut w w' g none := by
  have HI := Aside0.mk hI
  have HB := Aside0.mk hB
  have HK := Aside0.mk (KeepBut.refl w g none)
  obtain ⟨⟨pA, u1, u2⟩, h1, h2⟩ := Option.bind_eq_some_iff.1 h
  have A1 := Aside0.mk h1
  clear hI hB h h1
  obtain ⟨qA, hqA⟩ : ∃ q, q = wrap64 (Int.tdiv pA 8) := ⟨_, rfl⟩
  obtain ⟨mA, hmmA⟩ : ∃ m, m = wrap64 (6 + qA) := ⟨_, rfl⟩
  have zqA : wrap64 (Int.tdiv pA 8) = qA := hqA.symm
  have zmA : wrap64 (6 + qA) = mA := hmmA.symm
  have zqA_ : IntKind.i64.wrap (Int.tdiv pA 8) = qA := (i64_w _).trans zqA
  have zmA_ : IntKind.i64.wrap (6 + qA) = mA := (i64_w _).trans zmA
  simp only [zqA, zmA] at h2
  by_cases hmA : 0 ≤ mA ∧ mA ≤ 9
  case neg => rw [if_neg hmA] at h2; exact absurd h2 (by simp)
  rw [if_pos hmA] at h2
  have HMA := Aside0.mk hmA
  have A2 := Aside0.mk h2
  clear h2 hmA hqA hmmA
  go_enter Try.func39, Try.ntmps39
  obtain ⟨yA, hyA⟩ : ∃ y : List Int, y = [4, 5, 3, 6, 2, 1, 0, 8, 7] := ⟨_, rfl⟩
  (repeat ((fail_if_success (with_reducible refine gate_dst (N := 4) rfl ?_)); first | go_values | go_skip | go_guarded | go_step | go_upon | go_back | go_simp))
  refine Kd.R_lit (Kd.int .i64) _ 3 ?hg (N := 4) ?hd (xs := ([4, 5, 3, 6, 2, 1, 0, 8, 7] : List Int)) (inner := [.int .i64 (4), .int .i64 (5), .int .i64 (3), .int .i64 (6), .int .i64 (2), .int .i64 (1), .int .i64 (0), .int .i64 (8), .int .i64 (7)]) (ok := fun _ => True) (okp := fun _ => True) ?hr ?hp (fun _ hk => hk) trivial (Below.refl _ _) (Nat.le_refl _) (by simp) ?_
  case hd => rfl
  case hg => rfl
  case hr => first | (go_simp; done) | (go_simp; rfl)
  case hp => exact (Reps.one (show Kd.M (Kd.int .i64) _ _ _ (4) [.int .i64 (4)] from rfl) (Reps.one (show Kd.M (Kd.int .i64) _ _ _ (5) [.int .i64 (5)] from rfl) (Reps.one (show Kd.M (Kd.int .i64) _ _ _ (3) [.int .i64 (3)] from rfl) (Reps.one (show Kd.M (Kd.int .i64) _ _ _ (6) [.int .i64 (6)] from rfl) (Reps.one (show Kd.M (Kd.int .i64) _ _ _ (2) [.int .i64 (2)] from rfl) (Reps.one (show Kd.M (Kd.int .i64) _ _ _ (1) [.int .i64 (1)] from rfl) (Reps.one (show Kd.M (Kd.int .i64) _ _ _ (0) [.int .i64 (0)] from rfl) (Reps.one (show Kd.M (Kd.int .i64) _ _ _ (8) [.int .i64 (8)] from rfl) (Reps.one (show Kd.M (Kd.int .i64) _ _ _ (7) [.int .i64 (7)] from rfl) (Reps.none _ _))))))))))
  intro vA w1 ho hb hg_ hnew_
  clear hg_ hnew_
  rw [← hyA] at ho
  have NYA := Aside0.mk hyA
  clear hyA
  have HVA := Aside0.mk (Kd.R_lower (Kd.R_mono (ok' := fun k_ => k_ ≠ g) (Kd.R_bound ho) (fun k_ h_ => by have h1_ := HI.out.lt; have h2_ := h_.2.1; exact fun h3_ => by omega)) HB.out.size)
  have ni_ := Aside0.mk (HI.out.below hb)
  have nb_ := Aside0.mk (below_step HB.out hb)
  have nk_ := Aside0.mk (KeepBut.trans HK.out (KeepBut.of_below hb g none) (.inl rfl))
  clear HI HB HK hb ho
  have HI := ni_
  have HB := nb_
  have HK := nk_
  clear ni_ nb_ nk_
  obtain ⟨bA, cA, eA, _, _, _⟩ := Kd.R_form HVA.out (by rw [NYA.out]; decide)
  subst eA
  have CCA := Aside0.mk (Kd.R_reads' HVA.out).2.1
  rw [← NYA.out] at A2
  (repeat ((fail_if_success (with_reducible refine gate_callee (f := 26) rfl ?_)); first | go_values | go_skip | go_guarded | go_step | go_upon | go_back | go_simp))
  refine goesL_ (some 6) rfl rfl Try.func26 (by kernel_rfl) rfl #[.pointer (some ⟨g, 0, none⟩), .int .i64 24] rfl (by (try simp only [List.map_toArray, List.map_cons, List.map_nil]); first | done | rfl) ?_
  refine (spec_l1Cur_pick.calls g s0 s1 s2 24 pA u1 u2 w0 _ HI.out HB.out A1.out).mono ?_
  rintro e w2 ⟨rfl, hi, hb, hk⟩
  refine ⟨_, rfl, ?_⟩
  have nA_ := Aside0.mk (Kd.R_keep HVA.out hk (fun _ h => h))
  have nk_ := Aside0.mk (KeepBut.trans HK.out hk (.inl rfl))
  clear HI HB HK hk HVA
  have HI := Aside0.mk hi
  have HB := Aside0.mk hb
  have HK := nk_
  clear nk_ hi hb
  have HVA := nA_
  have p1_A : (0 ≤ mA) = True := eq_true HMA.out.1
  have p2_A : (mA ≤ (cA : Int)) = True := eq_true (by have h1_ := HMA.out.2; have h2_ := CCA.out; have h3_ : yA.length = 9 := (by rw [NYA.out]; rfl); omega)
  (repeat ((fail_if_success (with_reducible refine gate_callee (f := 25) rfl ?_)); first | go_values | go_skip | go_guarded | go_step | go_upon | go_back | go_simp))
  obtain ⟨zA, hzA⟩ : ∃ z : List Int, z = yA.take mA.toNat := ⟨_, rfl⟩
  have hlA : mA.toNat = zA.length := by rw [hzA, List.length_take]; have h1_ := HMA.out; have h3_ : yA.length = 9 := (by rw [NYA.out]; rfl); omega
  refine goesL_ (some 10) rfl rfl Try.func25 (by kernel_rfl) rfl #[.pointer (some ⟨g, 0, none⟩), .slice (some ⟨bA, 0, none⟩) mA.toNat cA] rfl (by (try simp only [List.map_toArray, List.map_cons, List.map_nil]); first | done | rfl) ?_
  have hCA : Kd.C (Kd.int .i64) w2 (some ⟨bA, 0, none⟩) zA.length zA := by rw [hzA]; exact Kd.C_take (Kd.R_reads' HVA.out).2.2 (by have h1_ := HMA.out; have h3_ : yA.length = 9 := (by rw [NYA.out]; rfl); omega)
  rw [hlA]
  refine (spec_l1Cur_among.calls g s0 u1 u2 (some ⟨bA, 0, none⟩) cA zA r1 r2 r3 w0 _ HI.out HB.out hCA (by have := CCA.out; rw [← hlA]; have h1_ := HMA.out; have h3_ : yA.length = 9 := (by rw [NYA.out]; rfl); omega) (fun ad e_ _ => by cases e_; exact HVA.out.1 _ rfl) (show Aside0 (spec_l1Cur_among.f s0 u1 u2 zA = some (r1, r2, r3)) from ⟨by rw [hzA]; exact A2.out⟩).out).mono ?_
  rintro e w3 ⟨rfl, hi, hb, hk⟩
  refine ⟨_, rfl, ?_⟩
  have nk_ := Aside0.mk (KeepBut.trans HK.out hk (.inl rfl))
  clear HI HB HK hk HVA hCA hlA hzA
  have HI := Aside0.mk hi
  have HB := Aside0.mk hb
  have HK := nk_
  clear nk_ hi hb
  go_wp2
  go_ret
  exact ⟨rfl, HI.out, HB.out, HK.out⟩
def spec_DrawCountQueueable.f (l0 : List Int) : Option (Int × Int) := (spec_l1Cur_size3.f l0 0 0).bind fun s => ((spec_l1Cur_pick.f l0 s.2.1 s.2.2 24).bind fun t => (let m := wrap64 (4 + wrap64 (Int.tdiv t.1 11)); if 0 ≤ m ∧ m ≤ 6 then spec_l1Cur_among.f l0 t.2.1 t.2.2 (([2, 3, 1, 4, 0, 5] : List Int).take m.toNat) else none)).bind fun x => some (s.1, x.1)
set_option maxHeartbeats 8000000 in
set_option maxRecDepth 100000 in
theorem spec_DrawCountQueueable.calls (A0 : Option Addr) (c0 : Nat) (l0 : List Int) (r1 : Int) (r2 : Int) (w0 : World) (hr0 : Kd.C (Kd.int .u8) w0 A0 l0.length l0) (hc0 : l0.length ≤ c0) (h : spec_DrawCountQueueable.f l0 = some (r1, r2)) :
    Calls Try.prog 16 #[.slice A0 l0.length c0] w0 fun e w' => e = .returned (.tuple #[.int .i64 r1, .int .i64 r2]) ∧ Below w0.heap.size w0 w' := by
  have HB := Aside0.mk (Below.refl w0.heap.size w0)
  have HR0 := Aside0.mk hr0
  clear hr0 hc0
  obtain ⟨⟨n1, na, nb⟩, h1, hh⟩ := Option.bind_eq_some_iff.1 h
  have AS := Aside0.mk h1
  obtain ⟨⟨rr, ra, rb⟩, h2, h3⟩ := Option.bind_eq_some_iff.1 hh
  clear h hh h1
  obtain ⟨rfl, rfl⟩ := Prod.mk.inj (Option.some.inj h3)
  clear h3
  obtain ⟨⟨pA, uA1, uA2⟩, h1, h2⟩ := Option.bind_eq_some_iff.1 h2
  have A1 := Aside0.mk h1
  clear h1
  obtain ⟨qA, hqA⟩ : ∃ q, q = wrap64 (Int.tdiv pA 11) := ⟨_, rfl⟩
  obtain ⟨mA, hmmA⟩ : ∃ m, m = wrap64 (4 + qA) := ⟨_, rfl⟩
  have zqA : wrap64 (Int.tdiv pA 11) = qA := hqA.symm
  have zmA : wrap64 (4 + qA) = mA := hmmA.symm
  have zqA_ : IntKind.i64.wrap (Int.tdiv pA 11) = qA := (i64_w _).trans zqA
  have zmA_ : IntKind.i64.wrap (4 + qA) = mA := (i64_w _).trans zmA
  simp only [zqA, zmA] at h2
  by_cases hbA : 0 ≤ mA ∧ mA ≤ 6
  case neg => rw [if_neg hbA] at h2; exact absurd h2 (by simp)
  rw [if_pos hbA] at h2
  have HMA := Aside0.mk hbA
  have A2 := Aside0.mk h2
  clear h2 hbA hqA hmmA
  go_enter Try.func16, Try.ntmps16
  (repeat ((fail_if_success (with_reducible refine gate_dst (N := 7) rfl ?_)); first | go_values | go_skip | go_guarded | go_step | go_upon | go_back | go_simp))
  refine box_event ?hg (N := 7) ?hd (cs := #[.slice A0 l0.length c0, .int .i64 0, .int .u64 0]) (t := 45) ?hr ?_
  case hd => rfl
  case hg => rfl
  case hr => first | (go_simp; done) | (go_simp; rfl)
  intro g hg w1 hbox hb
  have HI := Aside0.mk (show IsS45 w0 w1 g l0 0 0 from ⟨A0, c0, hbox, by rw [hg]; exact below_size (by repeat (first | (with_reducible first | exact HB.out | apply below_alloc | apply pw_below_drewN | apply below_drew1) | exact HB.out)), HR0.out⟩)
  have nb_ := Aside0.mk (below_step (by repeat (first | (with_reducible first | exact HB.out | apply below_alloc | apply pw_below_drewN | apply below_drew1) | exact HB.out)) hb)
  clear HB hg hb hbox
  have HB := nb_
  clear nb_
  have HK := Aside0.mk (KeepBut.refl w1 g none)
  (repeat ((fail_if_success (with_reducible refine gate_callee (f := 39) rfl ?_)); first | go_values | go_skip | go_guarded | go_step | go_upon | go_back | go_simp))
  refine goesL_ (some 9) rfl rfl Try.func39 (by kernel_rfl) rfl #[.pointer (some ⟨g, 0, none⟩)] rfl (by (try simp only [List.map_toArray, List.map_cons, List.map_nil]); first | done | rfl) ?_
  refine (spec_l1Cur_size3.calls g l0 0 0 n1 na nb w0 _ HI.out HB.out AS.out).mono ?_
  rintro e w2 ⟨rfl, hi, hb, hk⟩
  refine ⟨_, rfl, ?_⟩
  have nk_ := Aside0.mk (KeepBut.trans HK.out hk (.inl rfl))
  clear HI HB HK hk
  have HI := Aside0.mk hi
  have HB := Aside0.mk hb
  have HK := nk_
  clear nk_ hi hb
  obtain ⟨yA, hyA⟩ : ∃ y : List Int, y = [2, 3, 1, 4, 0, 5] := ⟨_, rfl⟩
  (repeat ((fail_if_success (with_reducible refine gate_dst (N := 11) rfl ?_)); first | go_values | go_skip | go_guarded | go_step | go_upon | go_back | go_simp))
  refine Kd.R_lit (Kd.int .i64) _ 3 ?hg (N := 11) ?hd (xs := ([2, 3, 1, 4, 0, 5] : List Int)) (inner := [.int .i64 (2), .int .i64 (3), .int .i64 (1), .int .i64 (4), .int .i64 (0), .int .i64 (5)]) (ok := fun _ => True) (okp := fun _ => True) ?hr ?hp (fun _ hk => hk) trivial (Below.refl _ _) (Nat.le_refl _) (by simp) ?_
  case hd => rfl
  case hg => rfl
  case hr => first | (go_simp; done) | (go_simp; rfl)
  case hp => exact (Reps.one (show Kd.M (Kd.int .i64) _ _ _ (2) [.int .i64 (2)] from rfl) (Reps.one (show Kd.M (Kd.int .i64) _ _ _ (3) [.int .i64 (3)] from rfl) (Reps.one (show Kd.M (Kd.int .i64) _ _ _ (1) [.int .i64 (1)] from rfl) (Reps.one (show Kd.M (Kd.int .i64) _ _ _ (4) [.int .i64 (4)] from rfl) (Reps.one (show Kd.M (Kd.int .i64) _ _ _ (0) [.int .i64 (0)] from rfl) (Reps.one (show Kd.M (Kd.int .i64) _ _ _ (5) [.int .i64 (5)] from rfl) (Reps.none _ _)))))))
  intro vA w3 ho hb hg_ hnew_
  clear hg_ hnew_
  rw [← hyA] at ho
  have NYA := Aside0.mk hyA
  clear hyA
  have HVA := Aside0.mk (Kd.R_lower (Kd.R_mono (ok' := fun k_ => k_ ≠ g) (Kd.R_bound ho) (fun k_ h_ => by have h1_ := HI.out.lt; have h2_ := h_.2.1; exact fun h3_ => by omega)) HB.out.size)
  have ni_ := Aside0.mk (HI.out.below hb)
  have nb_ := Aside0.mk (below_step HB.out hb)
  have nk_ := Aside0.mk (KeepBut.trans HK.out (KeepBut.of_below hb g none) (.inl rfl))
  clear HI HB HK hb ho
  have HI := ni_
  have HB := nb_
  have HK := nk_
  clear ni_ nb_ nk_
  obtain ⟨bA, cA, eA, _, _, _⟩ := Kd.R_form HVA.out (by rw [NYA.out]; decide)
  subst eA
  have CCA := Aside0.mk (Kd.R_reads' HVA.out).2.1
  rw [← NYA.out] at A2
  (repeat ((fail_if_success (with_reducible refine gate_callee (f := 26) rfl ?_)); first | go_values | go_skip | go_guarded | go_step | go_upon | go_back | go_simp))
  refine goesL_ (some 13) rfl rfl Try.func26 (by kernel_rfl) rfl #[.pointer (some ⟨g, 0, none⟩), .int .i64 24] rfl (by (try simp only [List.map_toArray, List.map_cons, List.map_nil]); first | done | rfl) ?_
  refine (spec_l1Cur_pick.calls g l0 na nb 24 pA uA1 uA2 w0 _ HI.out HB.out A1.out).mono ?_
  rintro e w4 ⟨rfl, hi, hb, hk⟩
  refine ⟨_, rfl, ?_⟩
  have nA_ := Aside0.mk (Kd.R_keep HVA.out hk (fun _ h => h))
  have nk_ := Aside0.mk (KeepBut.trans HK.out hk (.inl rfl))
  clear HI HB HK hk HVA
  have HI := Aside0.mk hi
  have HB := Aside0.mk hb
  have HK := nk_
  clear nk_ hi hb
  have HVA := nA_
  have p1_A : (0 ≤ mA) = True := eq_true HMA.out.1
  have p2_A : (mA ≤ (cA : Int)) = True := eq_true (by have h1_ := HMA.out.2; have h2_ := CCA.out; have h3_ : yA.length = 6 := (by rw [NYA.out]; rfl); omega)
  (repeat ((fail_if_success (with_reducible refine gate_callee (f := 25) rfl ?_)); first | go_values | go_skip | go_guarded | go_step | go_upon | go_back | go_simp))
  obtain ⟨zA, hzA⟩ : ∃ z : List Int, z = yA.take mA.toNat := ⟨_, rfl⟩
  have hlA : mA.toNat = zA.length := by rw [hzA, List.length_take]; have h1_ := HMA.out; have h3_ : yA.length = 6 := (by rw [NYA.out]; rfl); omega
  refine goesL_ (some 17) rfl rfl Try.func25 (by kernel_rfl) rfl #[.pointer (some ⟨g, 0, none⟩), .slice (some ⟨bA, 0, none⟩) mA.toNat cA] rfl (by (try simp only [List.map_toArray, List.map_cons, List.map_nil]); first | done | rfl) ?_
  have hCA : Kd.C (Kd.int .i64) w4 (some ⟨bA, 0, none⟩) zA.length zA := by rw [hzA]; exact Kd.C_take (Kd.R_reads' HVA.out).2.2 (by have h1_ := HMA.out; have h3_ : yA.length = 6 := (by rw [NYA.out]; rfl); omega)
  rw [hlA]
  refine (spec_l1Cur_among.calls g l0 uA1 uA2 (some ⟨bA, 0, none⟩) cA zA rr ra rb w0 _ HI.out HB.out hCA (by have := CCA.out; rw [← hlA]; have h1_ := HMA.out; have h3_ : yA.length = 6 := (by rw [NYA.out]; rfl); omega) (fun ad e_ _ => by cases e_; exact HVA.out.1 _ rfl) (show Aside0 (spec_l1Cur_among.f l0 uA1 uA2 zA = some (rr, ra, rb)) from ⟨by rw [hzA]; exact A2.out⟩).out).mono ?_
  rintro e w5 ⟨rfl, hi, hb, hk⟩
  refine ⟨_, rfl, ?_⟩
  have nk_ := Aside0.mk (KeepBut.trans HK.out hk (.inl rfl))
  clear HI HB HK hk HVA hCA hlA hzA
  have HI := Aside0.mk hi
  have HB := Aside0.mk hb
  have HK := nk_
  clear nk_ hi hb
  go_wp2
  go_ret2
  exact ⟨rfl, HB.out⟩
def laws_vCut.f (l0 : List Int) (a1 : Int) : Option (List Int) := if a1 > (l0.length : Int) then ((some (([] : List Int) : List Int)).bind fun y320 => (if 0 ≤ (l0.length : Int) then (if (l0.length : Int) ≤ (l0.length : Int) then (if y320.length + (l0.drop ((l0.length : Int) : Int).toNat).length < 140737488355328 then ((some (y320 ++ (l0.drop ((l0.length : Int) : Int).toNat) : List Int)).bind fun y324 => (if y324.length < 140737488355328 then (some (y324 ++ [((l0.length : Int)) % 256])) else (none))) else (none)) else (none)) else (none))) else ((some (([] : List Int) : List Int)).bind fun y330 => (if 0 ≤ a1 then (if a1 ≤ (l0.length : Int) then (if y330.length + (l0.drop (a1 : Int).toNat).length < 140737488355328 then ((some (y330 ++ (l0.drop (a1 : Int).toNat) : List Int)).bind fun y334 => (if y334.length < 140737488355328 then (some (y334 ++ [(a1) % 256])) else (none))) else (none)) else (none)) else (none)))
set_option maxHeartbeats 8000000 in
set_option maxRecDepth 100000 in
theorem laws_vCut.calls (A0 : Option Addr) (c0 : Nat) (l0 : List Int) (a1 : Int) (r : List Int) (w : World) (hr0 : Kd.C (Kd.int .u8) w A0 l0.length l0) (hc0 : l0.length ≤ c0) (h : laws_vCut.f l0 a1 = some r) :
    Calls Try.prog 17 #[.slice A0 l0.length c0, .int .i64 a1] w fun e w' => ∃ v0_ : Value, e = .returned (v0_) ∧ Kd.R (Kd.int .u8) 5 w' w.heap.size (fun _ => True) v0_ r ∧ Below w.heap.size w w' := by
  have HR0 := Aside0.mk hr0
  have HC0 := Aside0.mk hc0
  clear hr0 hc0
  have HB := Aside0.mk (Below.refl w.heap.size w)
  have H : (if a1 > (l0.length : Int) then ((some (([] : List Int) : List Int)).bind fun y320 => (if 0 ≤ (l0.length : Int) then (if (l0.length : Int) ≤ (l0.length : Int) then (if y320.length + (l0.drop ((l0.length : Int) : Int).toNat).length < 140737488355328 then ((some (y320 ++ (l0.drop ((l0.length : Int) : Int).toNat) : List Int)).bind fun y324 => (if y324.length < 140737488355328 then (some (y324 ++ [((l0.length : Int)) % 256])) else (none))) else (none)) else (none)) else (none))) else ((some (([] : List Int) : List Int)).bind fun y330 => (if 0 ≤ a1 then (if a1 ≤ (l0.length : Int) then (if y330.length + (l0.drop (a1 : Int).toNat).length < 140737488355328 then ((some (y330 ++ (l0.drop (a1 : Int).toNat) : List Int)).bind fun y334 => (if y334.length < 140737488355328 then (some (y334 ++ [(a1) % 256])) else (none))) else (none)) else (none)) else (none)))) = some r := h
  clear h
  by_cases c3 : a1 > (l0.length : Int)
  · rw [if_pos c3] at H
    have c3b0 : decide ((l0.length : Int) < a1) = true := decide_eq_true c3
    clear c3
    obtain ⟨y320, hy320⟩ : ∃ y_ : List Int, y_ = (([] : List Int)) := ⟨_, rfl⟩
    replace H : (if 0 ≤ (l0.length : Int) then (if (l0.length : Int) ≤ (l0.length : Int) then (if y320.length + (l0.drop ((l0.length : Int) : Int).toNat).length < 140737488355328 then ((some (y320 ++ (l0.drop ((l0.length : Int) : Int).toNat) : List Int)).bind fun y324 => (if y324.length < 140737488355328 then (some (y324 ++ [((l0.length : Int)) % 256])) else (none))) else (none)) else (none)) else (none)) = some r := by first | (rw [hy320]; with_reducible exact H) | (have H2_ := (Option.bind_some _ _).symm.trans H; rw [hy320]; with_reducible exact H2_) | (have H2_ := (Option.bind_some _ _).symm.trans H; with_reducible exact H2_) | with_reducible exact H | (rw [hy320]; exact H) | exact H
    have Ny320 := Aside0.mk hy320
    clear hy320
    by_cases c4 : 0 ≤ (l0.length : Int)
    · rw [if_pos c4] at H
      have c4b0 := eq_true c4
      have c4b1 : decide (0 ≤ (l0.length : Int)) = true := decide_eq_true c4
      clear c4
      by_cases c5 : (l0.length : Int) ≤ (l0.length : Int)
      · rw [if_pos c5] at H
        have c5b0 := eq_true c5
        have c5b1 : decide ((l0.length : Int) ≤ (l0.length : Int)) = true := decide_eq_true c5
        clear c5
        by_cases c6 : y320.length + (l0.drop ((l0.length : Int) : Int).toNat).length < 140737488355328
        · rw [if_pos c6] at H
          have LMc6 := Aside0.mk c6
          clear c6
          obtain ⟨y324, hy324⟩ : ∃ y_ : List Int, y_ = (y320 ++ (l0.drop ((l0.length : Int) : Int).toNat)) := ⟨_, rfl⟩
          replace H : (if y324.length < 140737488355328 then (some (y324 ++ [((l0.length : Int)) % 256])) else (none)) = some r := by first | (rw [hy324]; with_reducible exact H) | (have H2_ := (Option.bind_some _ _).symm.trans H; rw [hy324]; with_reducible exact H2_) | (have H2_ := (Option.bind_some _ _).symm.trans H; with_reducible exact H2_) | with_reducible exact H | (rw [hy324]; exact H) | exact H
          have Ny324 := Aside0.mk hy324
          clear hy324
          by_cases c7 : y324.length < 140737488355328
          · rw [if_pos c7] at H
            have LMc7 := Aside0.mk c7
            clear c7
            obtain ⟨y327, hy327⟩ : ∃ y_ : List Int, y_ = (y324 ++ [((l0.length : Int)) % 256]) := ⟨_, rfl⟩
            replace H : (some y327) = some r := by first | (rw [hy327]; with_reducible exact H) | (have H2_ := (Option.bind_some _ _).symm.trans H; rw [hy327]; with_reducible exact H2_) | (have H2_ := (Option.bind_some _ _).symm.trans H; with_reducible exact H2_) | with_reducible exact H | (rw [hy327]; exact H) | exact H
            have Ny327 := Aside0.mk hy327
            clear hy327
            obtain rfl := Option.some.inj H
            go_enter Try.func17, Try.ntmps17
            go_wp2_with (first | ((with_reducible refine gate_dst (N := 11) rfl ?_); refine Kd.R_lit (Kd.int .u8) _ 5 ?hg (N := 11) ?hd (xs := ([] : List Int)) (inner := []) (ok := fun _ => True) (okp := fun _ => True) ?hr ?hp (fun _ hk => hk) trivial (Below.refl _ _) (Nat.le_refl _) (by simp) ?_; (case hd => rfl); (case hg => rfl); (case hr => first | (go_simp; done) | (go_simp; rfl)); (case hp => exact (Reps.none _ _)); intro v321 w8 ho9 hb hg_ hnew_; clear hg_ hnew_; (first | rw [← Ny320.out] at ho9 | (simp only [Int.reduceToNat] at ho9; rw [← Ny320.out] at ho9)); have n0_ := Aside0.mk (Kd.R_lower ho9 (below_size (by repeat (first | (with_reducible first | exact HB.out | apply below_alloc | apply pw_below_drewN | apply below_drew1) | exact HB.out)))); have n1_ := Aside0.mk (below_step (by repeat (first | (with_reducible first | exact HB.out | apply below_alloc | apply pw_below_drewN | apply below_drew1) | exact HB.out)) hb); clear HB; have HO322 := n0_; have HB := n1_; clear n0_ n1_; clear hb ho9; obtain ⟨i010, hi010, _, hsz10, _⟩ := info_parts info5; obtain ⟨A10, hcut10, hA10, hC10⟩ := print_drop_of (P := Try.prog) (Value.int .u8) 0 22 5 .i64 Try.underlying22 hi010 hsz10 A0 c0 l0 (l0.length : Int) (of_decide_eq_true (by first | (with_reducible assumption) | assumption)) (of_decide_eq_true (by first | (with_reducible assumption) | assumption)) HC0.out; have HR323 := Aside0.mk (Kd.C_of_reads (h1 := fun _ => rfl) (hA10 _ (Kd.reads_of_C HR0.out))); have HC323 := Aside0.mk hC10; clear hA10 hC10 hi010 hsz10) | ((with_reducible refine gate_builtin (b := .append) (xs := #[.tmp 11, .tmp 14]) rfl ?_); at_builtin; refine Kd.R_append_rows (Kd.int .u8) (w0 := w) w.heap.size rfl (.tmp 11) (.tmp 14) 22 5 (.int .u8 0) 1 rfl Try.underlying22 info5 rfl (by decide) (by omega) v321 y320 (l0.drop ((l0.length : Int) : Int).toNat) _ _ _ (fun _ => True) (fun _ => False) rfl rfl ?aO ?aR (fun _ _ h => h) (fun _ h => h.elim) ?aF ?aB ?aS ?aL ?_; (case aR => first | (have h0_ : (l0.drop ((l0.length : Int) : Int).toNat).length = 0 := (by simp); have h1_ := (Kd.C_below HR323.out HB.out); rw [h0_] at h1_; exact h1_) | (rw [← show (l0.drop ((l0.length : Int) : Int).toNat).length = (l0.length - (l0.length : Int).toNat) from List.length_drop]; repeat (first | exact (Kd.C_below HR323.out HB.out) | (with_reducible refine Kd.C_alloc ?_ _) | (with_reducible refine Kd.C_drewN ?_ _) | (with_reducible refine Kd.C_drew ?_))) | (repeat (first | exact (Kd.C_below HR323.out HB.out) | (with_reducible refine Kd.C_alloc ?_ _) | (with_reducible refine Kd.C_drewN ?_ _) | (with_reducible refine Kd.C_drew ?_)))); (case aB => exact (by repeat (first | (with_reducible first | exact HB.out | apply below_alloc | apply pw_below_drewN | apply below_drew1) | exact HB.out))); (case aF => exact (fun _ _ => trivial)); (case aO => exact (by (with_reducible repeat (first | apply Kd.R_alloc | apply Kd.R_drewN | apply Kd.R_drew)); exact HO322.out)); (case aS => exact (below_size (by repeat (first | (with_reducible first | exact HB.out | apply below_alloc | apply pw_below_drewN | apply below_drew1) | exact HB.out)))); (case aL => have := LMc6.out; have hlx_ := (show (l0.drop ((l0.length : Int) : Int).toNat).length = (l0.length - (l0.length : Int).toNat) from List.length_drop); omega); intro v325 w11 ho hb hg hat; rw [← Ny324.out] at ho; have n0_ := Aside0.mk (hb); have n1_ := Aside0.mk (ho); clear HB; clear HO322; have HB := n0_; have HO326 := n1_; clear n0_ n1_; clear ho hb hg hat) | ((with_reducible refine gate_builtin (b := .append) (xs := #[.tmp 15, .tmp 18]) rfl ?_); at_builtin; refine Kd.R_append (Kd.int .u8) (w0 := w) w.heap.size rfl (.tmp 15) (.tmp 18) 22 5 (.int .u8 0) 1 rfl Try.underlying22 info5 rfl (by decide) (by omega) v325 y324 (((l0.length : Int)) % 256) [.int .u8 (((l0.length : Int)) % 256)] (fun _ => True) (fun _ => False) rfl rfl ?aP (fun _ hk => hk.elim) ?aF ?aO ?aB ?aS ?aL ?_; (case aP => exact rfl); (case aB => exact (by repeat (first | (with_reducible first | exact HB.out | apply below_alloc | apply pw_below_drewN | apply below_drew1) | exact HB.out))); (case aF => exact (fun _ _ => trivial)); (case aO => exact (by (with_reducible repeat (first | apply Kd.R_alloc | apply Kd.R_drewN | apply Kd.R_drew)); exact HO326.out)); (case aS => exact (below_size (by repeat (first | (with_reducible first | exact HB.out | apply below_alloc | apply pw_below_drewN | apply below_drew1) | exact HB.out)))); (case aL => have := LMc7.out; omega); intro v328 w12 ho hb hg hat; rw [← Ny327.out] at ho; have n0_ := Aside0.mk (hb); have n1_ := Aside0.mk (ho); clear HB; clear HO326; have HB := n0_; have HO329 := n1_; clear n0_ n1_; clear ho hb hg hat))
            go_ret
            exact ⟨_, by first | rfl | (simp [errW_none, errW_some] <;> rfl) | (simp [*, errW_none, errW_some] <;> rfl), by (with_reducible repeat (first | apply Kd.R_alloc | apply Kd.R_drewN | apply Kd.R_drew)); exact HO329.out, by repeat (first | (with_reducible first | exact HB.out | apply below_alloc | apply pw_below_drewN | apply below_drew1) | exact HB.out)⟩
          · rw [if_neg c7] at H
            exact absurd H (by simp)
        · rw [if_neg c6] at H
          exact absurd H (by simp)
      · rw [if_neg c5] at H
        exact absurd H (by simp)
    · rw [if_neg c4] at H
      exact absurd H (by simp)
  · rw [if_neg c3] at H
    have c3b0 : decide ((l0.length : Int) < a1) = false := decide_eq_false c3
    clear c3
    obtain ⟨y330, hy330⟩ : ∃ y_ : List Int, y_ = (([] : List Int)) := ⟨_, rfl⟩
    replace H : (if 0 ≤ a1 then (if a1 ≤ (l0.length : Int) then (if y330.length + (l0.drop (a1 : Int).toNat).length < 140737488355328 then ((some (y330 ++ (l0.drop (a1 : Int).toNat) : List Int)).bind fun y334 => (if y334.length < 140737488355328 then (some (y334 ++ [(a1) % 256])) else (none))) else (none)) else (none)) else (none)) = some r := by first | (rw [hy330]; with_reducible exact H) | (have H2_ := (Option.bind_some _ _).symm.trans H; rw [hy330]; with_reducible exact H2_) | (have H2_ := (Option.bind_some _ _).symm.trans H; with_reducible exact H2_) | with_reducible exact H | (rw [hy330]; exact H) | exact H
    have Ny330 := Aside0.mk hy330
    clear hy330
    by_cases c13 : 0 ≤ a1
    · rw [if_pos c13] at H
      have c13b0 := eq_true c13
      have c13b1 : decide (0 ≤ a1) = true := decide_eq_true c13
      clear c13
      by_cases c14 : a1 ≤ (l0.length : Int)
      · rw [if_pos c14] at H
        have c14b0 := eq_true c14
        have c14b1 : decide (a1 ≤ (l0.length : Int)) = true := decide_eq_true c14
        clear c14
        by_cases c15 : y330.length + (l0.drop (a1 : Int).toNat).length < 140737488355328
        · rw [if_pos c15] at H
          have LMc15 := Aside0.mk c15
          clear c15
          obtain ⟨y334, hy334⟩ : ∃ y_ : List Int, y_ = (y330 ++ (l0.drop (a1 : Int).toNat)) := ⟨_, rfl⟩
          replace H : (if y334.length < 140737488355328 then (some (y334 ++ [(a1) % 256])) else (none)) = some r := by first | (rw [hy334]; with_reducible exact H) | (have H2_ := (Option.bind_some _ _).symm.trans H; rw [hy334]; with_reducible exact H2_) | (have H2_ := (Option.bind_some _ _).symm.trans H; with_reducible exact H2_) | with_reducible exact H | (rw [hy334]; exact H) | exact H
          have Ny334 := Aside0.mk hy334
          clear hy334
          by_cases c16 : y334.length < 140737488355328
          · rw [if_pos c16] at H
            have LMc16 := Aside0.mk c16
            clear c16
            obtain ⟨y337, hy337⟩ : ∃ y_ : List Int, y_ = (y334 ++ [(a1) % 256]) := ⟨_, rfl⟩
            replace H : (some y337) = some r := by first | (rw [hy337]; with_reducible exact H) | (have H2_ := (Option.bind_some _ _).symm.trans H; rw [hy337]; with_reducible exact H2_) | (have H2_ := (Option.bind_some _ _).symm.trans H; with_reducible exact H2_) | with_reducible exact H | (rw [hy337]; exact H) | exact H
            have Ny337 := Aside0.mk hy337
            clear hy337
            obtain rfl := Option.some.inj H
            go_enter Try.func17, Try.ntmps17
            go_wp2_with (first | ((with_reducible refine gate_dst (N := 11) rfl ?_); refine Kd.R_lit (Kd.int .u8) _ 5 ?hg (N := 11) ?hd (xs := ([] : List Int)) (inner := []) (ok := fun _ => True) (okp := fun _ => True) ?hr ?hp (fun _ hk => hk) trivial (Below.refl _ _) (Nat.le_refl _) (by simp) ?_; (case hd => rfl); (case hg => rfl); (case hr => first | (go_simp; done) | (go_simp; rfl)); (case hp => exact (Reps.none _ _)); intro v331 w17 ho18 hb hg_ hnew_; clear hg_ hnew_; (first | rw [← Ny330.out] at ho18 | (simp only [Int.reduceToNat] at ho18; rw [← Ny330.out] at ho18)); have n0_ := Aside0.mk (Kd.R_lower ho18 (below_size (by repeat (first | (with_reducible first | exact HB.out | apply below_alloc | apply pw_below_drewN | apply below_drew1) | exact HB.out)))); have n1_ := Aside0.mk (below_step (by repeat (first | (with_reducible first | exact HB.out | apply below_alloc | apply pw_below_drewN | apply below_drew1) | exact HB.out)) hb); clear HB; have HO332 := n0_; have HB := n1_; clear n0_ n1_; clear hb ho18; obtain ⟨i019, hi019, _, hsz19, _⟩ := info_parts info5; obtain ⟨A19, hcut19, hA19, hC19⟩ := print_drop_of (P := Try.prog) (Value.int .u8) 0 22 5 .i64 Try.underlying22 hi019 hsz19 A0 c0 l0 a1 (of_decide_eq_true (by first | (with_reducible assumption) | assumption)) (of_decide_eq_true (by first | (with_reducible assumption) | assumption)) HC0.out; have HR333 := Aside0.mk (Kd.C_of_reads (h1 := fun _ => rfl) (hA19 _ (Kd.reads_of_C HR0.out))); have HC333 := Aside0.mk hC19; clear hA19 hC19 hi019 hsz19) | ((with_reducible refine gate_builtin (b := .append) (xs := #[.tmp 11, .tmp 14]) rfl ?_); at_builtin; refine Kd.R_append_rows (Kd.int .u8) (w0 := w) w.heap.size rfl (.tmp 11) (.tmp 14) 22 5 (.int .u8 0) 1 rfl Try.underlying22 info5 rfl (by decide) (by omega) v331 y330 (l0.drop (a1 : Int).toNat) _ _ _ (fun _ => True) (fun _ => False) rfl rfl ?aO ?aR (fun _ _ h => h) (fun _ h => h.elim) ?aF ?aB ?aS ?aL ?_; (case aR => first | (have h0_ : (l0.drop ((l0.length : Int) : Int).toNat).length = 0 := (by simp); have h1_ := (Kd.C_below HR333.out HB.out); rw [h0_] at h1_; exact h1_) | (rw [← show (l0.drop (a1 : Int).toNat).length = (l0.length - a1.toNat) from List.length_drop]; repeat (first | exact (Kd.C_below HR333.out HB.out) | (with_reducible refine Kd.C_alloc ?_ _) | (with_reducible refine Kd.C_drewN ?_ _) | (with_reducible refine Kd.C_drew ?_))) | (repeat (first | exact (Kd.C_below HR333.out HB.out) | (with_reducible refine Kd.C_alloc ?_ _) | (with_reducible refine Kd.C_drewN ?_ _) | (with_reducible refine Kd.C_drew ?_)))); (case aB => exact (by repeat (first | (with_reducible first | exact HB.out | apply below_alloc | apply pw_below_drewN | apply below_drew1) | exact HB.out))); (case aF => exact (fun _ _ => trivial)); (case aO => exact (by (with_reducible repeat (first | apply Kd.R_alloc | apply Kd.R_drewN | apply Kd.R_drew)); exact HO332.out)); (case aS => exact (below_size (by repeat (first | (with_reducible first | exact HB.out | apply below_alloc | apply pw_below_drewN | apply below_drew1) | exact HB.out)))); (case aL => have := LMc15.out; have hlx_ := (show (l0.drop (a1 : Int).toNat).length = (l0.length - a1.toNat) from List.length_drop); omega); intro v335 w20 ho hb hg hat; rw [← Ny334.out] at ho; have n0_ := Aside0.mk (hb); have n1_ := Aside0.mk (ho); clear HB; clear HO332; have HB := n0_; have HO336 := n1_; clear n0_ n1_; clear ho hb hg hat) | ((with_reducible refine gate_builtin (b := .append) (xs := #[.tmp 15, .tmp 18]) rfl ?_); at_builtin; refine Kd.R_append (Kd.int .u8) (w0 := w) w.heap.size rfl (.tmp 15) (.tmp 18) 22 5 (.int .u8 0) 1 rfl Try.underlying22 info5 rfl (by decide) (by omega) v335 y334 ((a1) % 256) [.int .u8 ((a1) % 256)] (fun _ => True) (fun _ => False) rfl rfl ?aP (fun _ hk => hk.elim) ?aF ?aO ?aB ?aS ?aL ?_; (case aP => exact rfl); (case aB => exact (by repeat (first | (with_reducible first | exact HB.out | apply below_alloc | apply pw_below_drewN | apply below_drew1) | exact HB.out))); (case aF => exact (fun _ _ => trivial)); (case aO => exact (by (with_reducible repeat (first | apply Kd.R_alloc | apply Kd.R_drewN | apply Kd.R_drew)); exact HO336.out)); (case aS => exact (below_size (by repeat (first | (with_reducible first | exact HB.out | apply below_alloc | apply pw_below_drewN | apply below_drew1) | exact HB.out)))); (case aL => have := LMc16.out; omega); intro v338 w21 ho hb hg hat; rw [← Ny337.out] at ho; have n0_ := Aside0.mk (hb); have n1_ := Aside0.mk (ho); clear HB; clear HO336; have HB := n0_; have HO339 := n1_; clear n0_ n1_; clear ho hb hg hat))
            go_ret
            exact ⟨_, by first | rfl | (simp [errW_none, errW_some] <;> rfl) | (simp [*, errW_none, errW_some] <;> rfl), by (with_reducible repeat (first | apply Kd.R_alloc | apply Kd.R_drewN | apply Kd.R_drew)); exact HO339.out, by repeat (first | (with_reducible first | exact HB.out | apply below_alloc | apply pw_below_drewN | apply below_drew1) | exact HB.out)⟩
          · rw [if_neg c16] at H
            exact absurd H (by simp)
        · rw [if_neg c15] at H
          exact absurd H (by simp)
      · rw [if_neg c14] at H
        exact absurd H (by simp)
    · rw [if_neg c13] at H
      exact absurd H (by simp)
def impl_isSize.f (a0 : Int) : Option (Bool) := if a0 ≥ 1 then (some (decide (a0 ≤ 7))) else (some false)
set_option maxHeartbeats 8000000 in
set_option maxRecDepth 100000 in
theorem impl_isSize.calls (a0 : Int) (r : Bool) (w : World) (h : impl_isSize.f a0 = some r) :
    Calls Try.prog 40 #[.int .i64 a0] w fun e w' => e = .returned (.bool r) ∧ Drawn0 w w' := by
  have H : (if a0 ≥ 1 then (some (decide (a0 ≤ 7))) else (some false)) = some r := h
  clear h
  by_cases c2 : a0 ≥ 1
  · rw [if_pos c2] at H
    have c2b0 : decide (1 ≤ a0) = true := decide_eq_true c2
    clear c2
    obtain rfl := Option.some.inj H
    go_enter Try.func40, Try.ntmps40
    go_wp2
    go_ret
    exact ⟨by first | rfl | (simp; done) | (simp [*]; done), by repeat (first | exact Drawn0.refl _ | apply Drawn0.step)⟩
  · rw [if_neg c2] at H
    have c2b0 : decide (1 ≤ a0) = false := decide_eq_false c2
    clear c2
    obtain rfl := Option.some.inj H
    go_enter Try.func40, Try.ntmps40
    go_wp2
    go_ret
    exact ⟨by first | rfl | (simp; done) | (simp [*]; done), by repeat (first | exact Drawn0.refl _ | apply Drawn0.step)⟩
def impl_factorial.l0 : Nat → Int → Int → Int → Option (Int)
  | 0, _, _, _ => none
  | k + 1, x0, x3, x4 => if x4 ≤ x0 then (impl_factorial.l0 k x0 (wrap64 (x3 * x4)) (wrap64 (x4 + 1))) else (some x3)
def impl_factorial.f (k : Nat) (a0 : Int) : Option (Int) := impl_factorial.l0 k a0 1 2
theorem impl_factorial.mono_l : ∀ k, (∀ y0 y1 y2, LeO (impl_factorial.l0 k y0 y1 y2) (impl_factorial.l0 (k + 1) y0 y1 y2))
  | 0 => fun _ _ _ r h => by simp [impl_factorial.l0] at h
  | k + 1 => by
    have ih0 := impl_factorial.mono_l k
    · intro y0 y1 y2
      unfold impl_factorial.l0
      repeat' first
      | (with_reducible exact ih0 _ _ _)
      | (with_reducible exact LeO.refl _)
      | (with_reducible exact LeO.none _)
      | (with_reducible refine LeO.ite ?_ ?_)
      | (with_reducible refine LeO.bind ?_ (fun _ => ?_))
      | exact ih0 _ _ _
      | exact LeO.none _
      | refine LeO.ite ?_ ?_
      | refine LeO.bind ?_ (fun _ => ?_)
theorem impl_factorial.mono : ∀ a0 k, LeO (impl_factorial.f k a0) (impl_factorial.f (k + 1) a0) := by
  intro a0 k
  have ih0 := impl_factorial.mono_l k
  unfold impl_factorial.f
  repeat' first
      | (with_reducible exact ih0 _ _ _)
      | (with_reducible exact LeO.refl _)
      | (with_reducible exact LeO.none _)
      | (with_reducible refine LeO.ite ?_ ?_)
      | (with_reducible refine LeO.bind ?_ (fun _ => ?_))
      | exact ih0 _ _ _
      | exact LeO.none _
      | refine LeO.ite ?_ ?_
      | refine LeO.bind ?_ (fun _ => ?_)
set_option maxHeartbeats 8000000 in
set_option maxRecDepth 100000 in
theorem impl_factorial.calls (k : Nat) (a0 : Int) (r : Int) (w : World) (h : impl_factorial.f k a0 = some r) :
    Calls Try.prog 60 #[.int .i64 a0] w fun e w' => e = .returned (.int .i64 r) ∧ Drawn0 w w' := by
  have H : (impl_factorial.l0 k a0 1 2) = some r := h
  clear h
  have H' := Aside0.mk H
  clear H
  go_enter Try.func60, Try.ntmps60
  go_wp2
  go_loopg [3, 4] k (fun kq v3 v4 w' => ∃ (x3_1 : Int) (x4_1 : Int), v3 = .int .i64 x3_1 ∧ v4 = .int .i64 x4_1 ∧ Aside0 (impl_factorial.l0 kq a0 x3_1 x4_1 = some r) ∧ Aside0 (kq ≤ k) ∧ Drawn0 w w')
  case atStart => exact ⟨(1), (2), (by first | rfl | (simp; done) | (simp [*]; done)), (by first | rfl | (simp; done) | (simp [*]; done)), H', ⟨Nat.le_refl _⟩, by repeat (first | exact Drawn0.refl _ | apply Drawn0.step)⟩
  case round =>
    clear H'
    obtain ⟨x3_1, x4_1, rfl, rfl, HA, HK1, ⟨m1, rfl⟩⟩ := hrel
    cases gk with
    | zero => exact absurd HA.out (by simp [impl_factorial.l0])
    | succ k1 =>
      have H := HA.out
      clear HA
      simp only [impl_factorial.l0] at H
      by_cases c2 : x4_1 ≤ a0
      · rw [if_pos c2] at H
        have c2b0 : decide (x4_1 ≤ a0) = true := decide_eq_true c2
        clear c2
        have H' := Aside0.mk H
        clear H
        go_wp2
        go_roundg k1
        case measure => have := HK1.out; omega
        case rel => exact ⟨(wrap64 (x3_1 * x4_1)), (wrap64 (x4_1 + 1)), (by first | rfl | (simp; done) | (simp [*]; done)), (by first | rfl | (simp; done) | (simp [*]; done)), H', ⟨by have := HK1.out; omega⟩, by repeat (first | exact Drawn0.refl _ | apply Drawn0.step)⟩
      · rw [if_neg c2] at H
        have c2b0 : decide (x4_1 ≤ a0) = false := decide_eq_false c2
        clear c2
        obtain rfl := Option.some.inj H
        go_wp2
        go_ret
        exact ⟨by first | rfl | (simp; done) | (simp [*]; done), by repeat (first | exact Drawn0.refl _ | apply Drawn0.step)⟩
def impl_sorted.l0 : Nat → List Int → Int → Int → Option (List Int)
  | 0, _, _, _ => none
  | k + 1, x3, x6, x7 => if x7 < x6 then (if x3.length < 17592186044416 then (impl_sorted.l0 k (x3 ++ [wrap64 (x7 + 1)]) x6 (wrap64 (x7 + 1))) else (none)) else (some x3)
def impl_sorted.f (k : Nat) (a0 : Int) : Option (List Int) := impl_sorted.l0 k (([] : List Int)) a0 0
theorem impl_sorted.mono_l : ∀ k, (∀ y0 y1 y2, LeO (impl_sorted.l0 k y0 y1 y2) (impl_sorted.l0 (k + 1) y0 y1 y2))
  | 0 => fun _ _ _ r h => by simp [impl_sorted.l0] at h
  | k + 1 => by
    have ih0 := impl_sorted.mono_l k
    · intro y0 y1 y2
      unfold impl_sorted.l0
      repeat' first
      | (with_reducible exact ih0 _ _ _)
      | (with_reducible exact LeO.refl _)
      | (with_reducible exact LeO.none _)
      | (with_reducible refine LeO.ite ?_ ?_)
      | (with_reducible refine LeO.bind ?_ (fun _ => ?_))
      | exact ih0 _ _ _
      | exact LeO.none _
      | refine LeO.ite ?_ ?_
      | refine LeO.bind ?_ (fun _ => ?_)
theorem impl_sorted.mono : ∀ a0 k, LeO (impl_sorted.f k a0) (impl_sorted.f (k + 1) a0) := by
  intro a0 k
  have ih0 := impl_sorted.mono_l k
  unfold impl_sorted.f
  repeat' first
      | (with_reducible exact ih0 _ _ _)
      | (with_reducible exact LeO.refl _)
      | (with_reducible exact LeO.none _)
      | (with_reducible refine LeO.ite ?_ ?_)
      | (with_reducible refine LeO.bind ?_ (fun _ => ?_))
      | exact ih0 _ _ _
      | exact LeO.none _
      | refine LeO.ite ?_ ?_
      | refine LeO.bind ?_ (fun _ => ?_)
set_option maxHeartbeats 8000000 in
set_option maxRecDepth 100000 in
theorem impl_sorted.calls (k : Nat) (a0 : Int) (r : List Int) (w : World) (h : impl_sorted.f k a0 = some r) :
    Calls Try.prog 69 #[.int .i64 a0] w fun e w' => ∃ v0_ : Value, e = .returned (v0_) ∧ Kd.R (Kd.int .i64) 3 w' w.heap.size (fun _ => True) v0_ r ∧ Below w.heap.size w w' := by
  have HB := Aside0.mk (Below.refl w.heap.size w)
  have H : (impl_sorted.l0 k (([] : List Int)) a0 0) = some r := h
  clear h
  obtain ⟨y340, hy340⟩ : ∃ y_ : List Int, y_ = (([] : List Int)) := ⟨_, rfl⟩
  replace H : (impl_sorted.l0 k y340 a0 0) = some r := by first | (rw [hy340]; with_reducible exact H) | (have H2_ := (Option.bind_some _ _).symm.trans H; rw [hy340]; with_reducible exact H2_) | (have H2_ := (Option.bind_some _ _).symm.trans H; with_reducible exact H2_) | with_reducible exact H | (rw [hy340]; exact H) | exact H
  have Ny340 := Aside0.mk hy340
  clear hy340
  have H' := Aside0.mk H
  clear H
  go_enter Try.func69, Try.ntmps69
  go_wp2_with (first | ((with_reducible refine gate_dst (N := 5) rfl ?_); refine Kd.R_lit (Kd.int .i64) _ 3 ?hg (N := 5) ?hd (xs := ([] : List Int)) (inner := []) (ok := fun _ => True) (okp := fun _ => True) ?hr ?hp (fun _ hk => hk) trivial (Below.refl _ _) (Nat.le_refl _) (by simp) ?_; (case hd => rfl); (case hg => rfl); (case hr => first | (go_simp; done) | (go_simp; rfl)); (case hp => exact (Reps.none _ _)); intro v341 w2 ho3 hb hg_ hnew_; clear hg_ hnew_; (first | rw [← Ny340.out] at ho3 | (simp only [Int.reduceToNat] at ho3; rw [← Ny340.out] at ho3)); have n0_ := Aside0.mk (Kd.R_lower ho3 (below_size (by repeat (first | (with_reducible first | exact HB.out | apply below_alloc | apply pw_below_drewN | apply below_drew1) | exact HB.out)))); have n1_ := Aside0.mk (below_step (by repeat (first | (with_reducible first | exact HB.out | apply below_alloc | apply pw_below_drewN | apply below_drew1) | exact HB.out)) hb); clear HB; have HO342 := n0_; have HB := n1_; clear n0_ n1_; clear hb ho3))
  go_loopg [3, 7] k (fun kq v3 v7 w' => ∃ (x3_1 : List Int) (x7_1 : Int), v7 = .int .i64 x7_1 ∧ Aside0 (impl_sorted.l0 kq x3_1 a0 x7_1 = some r) ∧ Aside0 (kq ≤ k) ∧ Aside0 (Kd.R (Kd.int .i64) 3 w' w.heap.size (fun _ => True) v3 x3_1) ∧ Aside0 (Below w.heap.size w w'))
  case atStart => exact ⟨(y340), (0), (by first | rfl | (simp; done) | (simp [*]; done)), H', ⟨Nat.le_refl _⟩, ⟨by (with_reducible repeat (first | apply Kd.R_alloc | apply Kd.R_drewN | apply Kd.R_drew)); exact HO342.out⟩, ⟨by repeat (first | (with_reducible first | exact HB.out | apply below_alloc | apply pw_below_drewN | apply below_drew1) | exact HB.out)⟩⟩
  case round =>
    clear H'
    try clear p2
    obtain ⟨x3_1, x7_1, rfl, HA, HK1, HO_3, HB⟩ := hrel
    cases gk with
    | zero => exact absurd HA.out (by simp [impl_sorted.l0])
    | succ k1 =>
      have H := HA.out
      clear HA
      simp only [impl_sorted.l0] at H
      by_cases c4 : x7_1 < a0
      · rw [if_pos c4] at H
        have c4b0 : decide (x7_1 < a0) = true := decide_eq_true c4
        clear c4
        by_cases c5 : x3_1.length < 17592186044416
        · rw [if_pos c5] at H
          have LMc5 := Aside0.mk c5
          clear c5
          obtain ⟨y343, hy343⟩ : ∃ y_ : List Int, y_ = (x3_1 ++ [wrap64 (x7_1 + 1)]) := ⟨_, rfl⟩
          replace H : (impl_sorted.l0 k1 y343 a0 (wrap64 (x7_1 + 1))) = some r := by first | (rw [hy343]; with_reducible exact H) | (have H2_ := (Option.bind_some _ _).symm.trans H; rw [hy343]; with_reducible exact H2_) | (have H2_ := (Option.bind_some _ _).symm.trans H; with_reducible exact H2_) | with_reducible exact H | (rw [hy343]; exact H) | exact H
          have Ny343 := Aside0.mk hy343
          clear hy343
          have H' := Aside0.mk H
          clear H
          go_wp2_with (first | ((with_reducible refine gate_builtin (b := .append) (xs := #[.tmp 10, .tmp 13]) rfl ?_); at_builtin; refine Kd.R_append (Kd.int .i64) (w0 := w) w.heap.size rfl (.tmp 10) (.tmp 13) 24 3 (.int .i64 0) 8 rfl Try.underlying24 info3 rfl (by decide) (by omega) u3 x3_1 (wrap64 (x7_1 + 1)) [.int .i64 (wrap64 (x7_1 + 1))] (fun _ => True) (fun _ => False) rfl rfl ?aP (fun _ hk => hk.elim) ?aF ?aO ?aB ?aS ?aL ?_; (case aP => exact rfl); (case aB => exact (by repeat (first | (with_reducible first | exact HB.out | apply below_alloc | apply pw_below_drewN | apply below_drew1) | exact HB.out))); (case aF => exact (fun _ _ => trivial)); (case aO => exact (by (with_reducible repeat (first | apply Kd.R_alloc | apply Kd.R_drewN | apply Kd.R_drew)); exact HO_3.out)); (case aS => exact (below_size (by repeat (first | (with_reducible first | exact HB.out | apply below_alloc | apply pw_below_drewN | apply below_drew1) | exact HB.out)))); (case aL => have := LMc5.out; omega); intro v344 w6 ho hb hg hat; rw [← Ny343.out] at ho; have n0_ := Aside0.mk (hb); have n1_ := Aside0.mk (ho); clear HB; clear HO_3; have HB := n0_; have HO345 := n1_; clear n0_ n1_; clear ho hb hg hat))
          go_roundg k1
          case measure => have := HK1.out; omega
          case rel => exact ⟨(y343), (wrap64 (x7_1 + 1)), (by first | rfl | (simp; done) | (simp [*]; done)), H', ⟨by have := HK1.out; omega⟩, ⟨by (with_reducible repeat (first | apply Kd.R_alloc | apply Kd.R_drewN | apply Kd.R_drew)); exact HO345.out⟩, ⟨by repeat (first | (with_reducible first | exact HB.out | apply below_alloc | apply pw_below_drewN | apply below_drew1) | exact HB.out)⟩⟩
        · rw [if_neg c5] at H
          exact absurd H (by simp)
      · rw [if_neg c4] at H
        have c4b0 : decide (x7_1 < a0) = false := decide_eq_false c4
        clear c4
        obtain rfl := Option.some.inj H
        go_wp2
        go_ret
        exact ⟨_, by first | rfl | (simp [errW_none, errW_some] <;> rfl) | (simp [*, errW_none, errW_some] <;> rfl), by (with_reducible repeat (first | apply Kd.R_alloc | apply Kd.R_drewN | apply Kd.R_drew)); exact HO_3.out, by repeat (first | (with_reducible first | exact HB.out | apply below_alloc | apply pw_below_drewN | apply below_drew1) | exact HB.out)⟩
def slices_Delete_int_int.f (l0 : List Int) (a1 a2 : Int) : Option (List Int) := if 0 ≤ a1 ∧ a1 < a2 ∧ a2 ≤ (l0.length : Int) then some (l0.take a1.toNat ++ l0.drop a2.toNat) else none
def slices_Delete_int_int.ren : Go.Shelf.Ren := { f := fun x => if x = 23 then 70 else x, t := fun x => if x = 3 then 3 else if x = 4 then 4 else if x = 22 then 24 else x, g := fun x => x }
theorem slices_Delete_int_int.lays : Go.Proofs.Lays2.n23 Try.prog slices_Delete_int_int.ren := { mixed := by kernel_rfl, f23 := Try.func70.trans (congrArg some (by kernel_rfl)), t0 := Try.underlying0, a0 := Try.isAgg0, z0 := Try.sizeOf0, v0 := Try.zeroValue0, t3 := Try.underlying3, a3 := Try.isAgg3, z3 := Try.sizeOf3, v3 := Try.zeroValue3, t4 := Try.underlying4, a4 := Try.isAgg4, z4 := Try.sizeOf4, v4 := Try.zeroValue4, t22 := Try.underlying24, a22 := Try.isAgg24, z22 := Try.sizeOf24, v22 := Try.zeroValue24, i3 := by kernel_rfl }
theorem slices_Delete_int_int.calls (P0_ : Nat → Prop) (u9000_ : Value) (l0 : List Int) (a1 : Int) (a2 : Int) (r : List Int) (w0 w : World) (hB : Below w0.heap.size w0 w) (ho0 : Kd.R (Kd.int .i64) 3 w w0.heap.size P0_ u9000_ l0) (h : slices_Delete_int_int.f l0 a1 a2 = some r) :
    Calls Try.prog 70 #[u9000_, .int .i64 a1, .int .i64 a2] w fun e w' => ∃ v0_ : Value, e = .returned (v0_) ∧ Kd.R (Kd.int .i64) 3 w' w0.heap.size (fun k_ => (P0_ k_ ∨ w.heap.size ≤ k_)) v0_ r ∧ Below w0.heap.size w0 w' ∧ Kept w w' (fun k_ => P0_ k_) := by
  unfold slices_Delete_int_int.f at h
  by_cases hc : 0 ≤ a1 ∧ a1 < a2 ∧ a2 ≤ (l0.length : Int)
  case neg => rw [if_neg hc] at h; cases h
  rw [if_pos hc] at h
  obtain rfl := Option.some.inj h
  clear h
  obtain ⟨c1, c2, c3⟩ := hc
  obtain ⟨i, rfl⟩ : ∃ i : Nat, a1 = i := ⟨a1.toNat, by omega⟩
  obtain ⟨j, rfl⟩ : ∃ j : Nat, a2 = j := ⟨a2.toNat, by omega⟩
  simp only [Int.toNat_natCast]
  have own := Kd.own_of_R (enc := Value.int .i64) (h1 := fun _ => rfl) ho0
  rw [show encs (Value.int .i64) l0 = l0.map (Value.int .i64) by simp [encs]] at own
  have hne : u9000_ ≠ .slice none 0 0 := by
    intro e
    rcases own.2 with ⟨_, e2⟩ | ⟨g, cap, cur, e2, _⟩
    · omega
    · rw [e] at e2; cases e2
  obtain ⟨g, cap, rfl, hb, hlt, hn, hm, hl, hH⟩ := Lib.holds_of_ownsRow own hne
  have L := slices_Delete_int_int.lays
  have hm' : cap ≤ 9223372036854775807 := by unfold maxLen at hm; omega
  refine (Any.slices_Delete_int L g 0 cap i j l0 w hH hn hm' (by omega) (by omega)).mono ?_
  rintro e w' ⟨rfl, q, rfl⟩
  have hP : P0_ g := ho0.1 g rfl
  have hy : (l0.take i ++ l0.drop j ++ List.replicate (j - i) (0 : Int)).length = l0.length := by simp; omega
  have hk : l0.length - (j - i) ≤ l0.length := by omega
  have own2 := Lib.ownsRow_putRow (q := q) (k := l0.length - (j - i)) own hy hk
  have ht : (l0.take i ++ l0.drop j ++ List.replicate (j - i) (0 : Int)).take (l0.length - (j - i)) = l0.take i ++ l0.drop j := by
    rw [List.take_append_of_le_length (by simp; omega)]
    exact List.take_of_length_le (by simp; omega)
  rw [ht] at own2
  have hlen : l0.length - (j - i) = (l0.take i ++ l0.drop j).length := by simp; omega
  refine ⟨_, rfl, ?_, Lib.below_putRow hB hb, ?_⟩
  · refine Kd.R_of_own (enc := Value.int .i64) (h1 := fun _ => rfl) ?_ ?_
    · rw [show encs (Value.int .i64) (l0.take i ++ l0.drop j) = (l0.take i ++ l0.drop j).map (Value.int .i64) by simp [encs], ← hlen]
      exact own2
    · intro k hk
      simp [Value.ownBlock] at hk
      subst hk
      exact .inl hP
  · refine ⟨by simp [Sort.putRow, Sort.mapBlock, Sort.ahead], fun k hk hne => ?_⟩
    simp only [Sort.putRow, Sort.mapBlock, Sort.ahead, Array.getElem?_modify]
    rw [if_neg (by intro e; subst e; exact hne hP)]
end Go.Proofs.Ytidiondgfoolbaa.PFnQueues
