-- laid by mkprint.py, a program of this claim's writer, over the kit's print program; parts of it are typed by hand
import Derived.Test.YtbnieikbjmfhgaaPFnFallsx0
import Derived.Test.YtbnieikbjmfhgaaPFnFallsx1
import Derived.Test.YtbnieikbjmfhgaaPFnFallsx6
import Derived.Test.YtbnieikbjmfhgaaPFnFallsx7
import Derived.Test.YtbnieikbjmfhgaaPFnFallsx8
import Derived.Test.YtbnieikbjmfhgaaPFnFallsx11
import Derived.Test.YtbnieikbjmfhgaaPFnFallsx16
namespace Go.Proofs.Ytbnieikbjmfhgaa.PFnFalls
open Go.RowKit Go.Proofs.YtbnieikbjmfhgaaW.PrintWords Go.Proofs.YtbnieikbjmfhgaaW.PrintLast Go.Proofs.YtbnieikbjmfhgaaW.PrintMore
attribute [local go_sem] max2_int min2_int max_two min_two max_three min_three max_four min_four
set_option linter.unusedVariables false
set_option linter.unusedSimpArgs false
mutual
def spec_CountTwoCuts.l0 : Nat → List Int → List Bool → Int → Int → Int → Option (Int × Bool)
 | 0, _, _, _, _, _ => none
 | k + 1, x0, x4, x5, x6, x7 => if 0 ≤ (wrap64 (x6 - 1)) then (if x7 < (shl .i64 1 (wrap64 (x6 - 1))) then ((spec_l6At.f k x6 x7).bind fun t430 => ((spec_l6Run.f k x0 t430).bind fun t433 => (spec_CountTwoCuts.l1 k x0 x4 x5 x6 x7 t433 0))) else (some (x5, true))) else (none)
def spec_CountTwoCuts.l1 : Nat → List Int → List Bool → Int → Int → Int → List Int → Int → Option (Int × Bool)
 | 0, _, _, _, _, _, _, _ => none
 | k + 1, x0, x4, x5, x6, x7, x8, x9 => if 0 ≤ (wrap64 (x6 - 1)) then (if x9 < (shl .i64 1 (wrap64 (x6 - 1))) then ((spec_l6At.f k x6 x9).bind fun t436 => ((spec_l6Run.f k x8 t436).bind fun t439 => ((spec_l2Rank.f k t439).bind fun t442 => (if 0 ≤ t442 then (if t442 < (x4.length : Int) then (if rdOf false x4 t442 = true then (spec_CountTwoCuts.l1 k x0 x4 x5 x6 x7 x8 (wrap64 (x9 + 1))) else (spec_CountTwoCuts.l1 k x0 (x4.set (t442 : Int).toNat true) (wrap64 (x5 + 1)) x6 x7 x8 (wrap64 (x9 + 1)))) else (none)) else (none))))) else (spec_CountTwoCuts.l0 k x0 x4 x5 x6 (wrap64 (x7 + 1)))) else (none)
end
def spec_CountTwoCuts.f (k : Nat) (l0 : List Int) : Option (Int × Bool) := (spec_l2Order.f k l0).bind fun t425 => (if t425 = true then ((spec_l2Ways.f k (l0.length : Int)).bind fun t426 => (if 0 ≤ t426 then (if (t426 : Int).toNat ≤ 281474976710656 then (spec_CountTwoCuts.l0 k l0 (List.replicate (t426 : Int).toNat false) 0 (l0.length : Int) 0) else (none)) else (none))) else (some (0, false)))
theorem spec_CountTwoCuts.mono_l : ∀ k, (∀ y0 y1 y2 y3 y4, LeO (spec_CountTwoCuts.l0 k y0 y1 y2 y3 y4) (spec_CountTwoCuts.l0 (k + 1) y0 y1 y2 y3 y4)) ∧ (∀ y0 y1 y2 y3 y4 y5 y6, LeO (spec_CountTwoCuts.l1 k y0 y1 y2 y3 y4 y5 y6) (spec_CountTwoCuts.l1 (k + 1) y0 y1 y2 y3 y4 y5 y6))
 | 0 => ⟨fun _ _ _ _ _ r h => by simp [spec_CountTwoCuts.l0] at h, fun _ _ _ _ _ _ _ r h => by simp [spec_CountTwoCuts.l1] at h⟩
 | k + 1 => by
  obtain ⟨ih0, ih1⟩ := spec_CountTwoCuts.mono_l k
  refine ⟨?_, ?_⟩
  ·
   intro y0 y1 y2 y3 y4
   unfold spec_CountTwoCuts.l0
   repeat' with_reducible first | exact ih0 _ _ _ _ _ | exact ih1 _ _ _ _ _ _ _ | exact spec_l2Order.mono _ _ | exact spec_l2Rank.mono _ _ | exact spec_l2Ways.mono _ _ | exact spec_l6At.mono _ _ _ | exact spec_l6Run.mono _ _ _ | exact LeO.refl _ | exact LeO.none _ | refine LeO.ite ?_ ?_ | refine LeO.bind ?_ (fun _ => ?_)
  ·
   intro y0 y1 y2 y3 y4 y5 y6
   unfold spec_CountTwoCuts.l1
   repeat' with_reducible first | exact ih0 _ _ _ _ _ | exact ih1 _ _ _ _ _ _ _ | exact spec_l2Order.mono _ _ | exact spec_l2Rank.mono _ _ | exact spec_l2Ways.mono _ _ | exact spec_l6At.mono _ _ _ | exact spec_l6Run.mono _ _ _ | exact LeO.refl _ | exact LeO.none _ | refine LeO.ite ?_ ?_ | refine LeO.bind ?_ (fun _ => ?_)
theorem spec_CountTwoCuts.mono : ∀ a0 k, LeO (spec_CountTwoCuts.f k a0) (spec_CountTwoCuts.f (k + 1) a0) := by
 intro a0 k
 obtain ⟨ih0, ih1⟩ := spec_CountTwoCuts.mono_l k
 unfold spec_CountTwoCuts.f
 repeat' with_reducible first | exact ih0 _ _ _ _ _ | exact ih1 _ _ _ _ _ _ _ | exact spec_l2Order.mono _ _ | exact spec_l2Rank.mono _ _ | exact spec_l2Ways.mono _ _ | exact spec_l6At.mono _ _ _ | exact spec_l6Run.mono _ _ _ | exact LeO.refl _ | exact LeO.none _ | refine LeO.ite ?_ ?_ | refine LeO.bind ?_ (fun _ => ?_)
set_option maxHeartbeats 8000000 in
set_option maxRecDepth 100000 in
theorem spec_CountTwoCuts.calls (k : Nat) (A0 : Option Addr) (c0 : Nat) (l0 : List Int) (r1 : Int) (r2 : Bool) (w : World) (hr0 : Kd.C (Kd.int .i64) w A0 l0.length l0) (hc0 : l0.length ≤ c0) (h : spec_CountTwoCuts.f k l0 = some (r1, r2)) :
  Calls Try.prog 43 #[.slice A0 l0.length c0] w fun e w' => e = .returned (.tuple #[.int .i64 r1, .bool r2]) ∧ Below w.heap.size w w' := by
 have HR0 := Aside0.mk hr0
 have HC0 := Aside0.mk hc0
 clear hr0 hc0
 have HB := Aside0.mk (Below.refl w.heap.size w)
 have H : ((spec_l2Order.f k l0).bind fun t425 => (if t425 = true then ((spec_l2Ways.f k (l0.length : Int)).bind fun t426 => (if 0 ≤ t426 then (if (t426 : Int).toNat ≤ 281474976710656 then (spec_CountTwoCuts.l0 k l0 (List.replicate (t426 : Int).toNat false) 0 (l0.length : Int) 0) else (none)) else (none))) else (some (0, false)))) = some (r1, r2) := h
 clear h
 replace H := Option.bind_eq_some_iff.mp H
 obtain ⟨t425, A20, H⟩ := H
 (try dsimp only at H)
 have A2 := Aside0.mk A20
 clear A20
 by_cases c3 : t425 = true
 ·
  subst c3
  rw [if_pos rfl] at H
  replace H := Option.bind_eq_some_iff.mp H
  obtain ⟨t426, A40, H⟩ := H
  (try dsimp only at H)
  have A4 := Aside0.mk A40
  clear A40
  by_cases c5 : 0 ≤ t426
  ·
   rw [if_pos c5] at H
   have c5b0 := eq_true c5
   have c5b1 : decide (0 ≤ t426) = true := decide_eq_true c5
   clear c5
   by_cases c6 : (t426 : Int).toNat ≤ 281474976710656
   ·
    rw [if_pos c6] at H
    have c6b0 := eq_true c6
    have c6b1 : decide ((t426 : Int).toNat ≤ 281474976710656) = true := decide_eq_true c6
    clear c6
    obtain ⟨y427, hy427⟩ : ∃ y_ : List Bool, y_ = (List.replicate (t426 : Int).toNat false) := ⟨_, rfl⟩
    replace H : (spec_CountTwoCuts.l0 k l0 y427 0 (l0.length : Int) 0) = some (r1, r2) := by first | (rw [hy427]; with_reducible exact H) | (have H2_ := (Option.bind_some _ _).symm.trans H; rw [hy427]; with_reducible exact H2_) | (have H2_ := (Option.bind_some _ _).symm.trans H; with_reducible exact H2_) | with_reducible exact H | (rw [hy427]; exact H) | exact H
    have Ny427 := Aside0.mk hy427
    clear hy427
    have H' := Aside0.mk H
    clear H
    go_enter Try.func43, Try.ntmps43
    go_wp2_with (first | ((with_reducible refine gate_callee (f := 56) rfl ?_); refine goesL_ (some 12) rfl rfl Try.func56 (by kernel_rfl) rfl #[.slice A0 l0.length c0] rfl (by (try simp only [List.map_toArray, List.map_cons, List.map_nil]); first | done | rfl | (simp only [List.length_drop, List.length_take]; rfl)) ?_; (with_reducible refine (spec_l2Order.calls k _ _ l0 true _ ?side1 ?side2 A2.out).mono ?_); (case side1 => repeat (first | exact HR0.out | (with_reducible refine Kd.C_alloc ?_ _) | (with_reducible refine Kd.C_drewN ?_ _) | (with_reducible refine Kd.C_drew ?_))); (case side2 => exact HC0.out); rintro e w' ⟨rfl, ⟨nd, rfl⟩⟩; refine ⟨_, rfl, ?_⟩) | ((with_reducible refine gate_callee (f := 88) rfl ?_); refine goesL_ (some 16) rfl rfl Try.func88 (by kernel_rfl) rfl #[.int .i64 (l0.length : Int)] rfl (by (try simp only [List.map_toArray, List.map_cons, List.map_nil]); first | done | rfl | (simp only [List.length_drop, List.length_take]; rfl)) ?_; (with_reducible refine (spec_l2Ways.calls k (l0.length : Int) t426 _ A4.out).mono ?_); rintro e w' ⟨rfl, ⟨nd, rfl⟩⟩; refine ⟨_, rfl, ?_⟩) | ((with_reducible refine gate_dst (N := 17) rfl ?_); refine Kd.R_make Kd.bool _ 4 rfl (N := 17) rfl 75 _ _ rfl t426 rfl rfl Try.underlying75 (.bool false) 1 info4 rfl (by decide) (by omega) false (ok := fun _ => True) (okp := fun _ => True) rfl (fun _ hk => hk) trivial (of_decide_eq_true (by first | (with_reducible assumption) | assumption)) (Nat.le_trans (Nat.mul_le_mul_right _ (of_decide_eq_true (by first | (with_reducible assumption) | assumption) : t426.toNat ≤ 281474976710656)) (by omega)) (Below.refl _ _) (Nat.le_refl _) ?_; intro v428 w7 ho8 hb hg_ hnew_; clear hg_ hnew_; (first | rw [← Ny427.out] at ho8 | (simp only [Int.reduceToNat] at ho8; rw [← Ny427.out] at ho8)); have n0_ := Aside0.mk (Kd.R_lower ho8 (below_size (by repeat (first | (with_reducible first | exact HB.out | apply below_alloc | apply pw_below_drewN | apply below_drew1) | exact HB.out)))); have n1_ := Aside0.mk (below_step (by repeat (first | (with_reducible first | exact HB.out | apply below_alloc | apply pw_below_drewN | apply below_drew1) | exact HB.out)) hb); clear HB; have HO429 := n0_; have HB := n1_; clear n0_ n1_; clear hb ho8))
    go_loopg [5, 7] k (fun kq v5 v7 w' => ∃ (x4_1 : List Bool) (x5_1 : Int) (x7_1 : Int), v5 = .int .i64 x5_1 ∧ v7 = .int .i64 x7_1 ∧ Aside0 (spec_CountTwoCuts.l0 kq l0 x4_1 x5_1 (l0.length : Int) x7_1 = some (r1, r2)) ∧ Aside0 (kq ≤ k) ∧ Aside0 (Kd.R Kd.bool 4 w' w.heap.size (fun _ => True) v428 x4_1) ∧ Aside0 (Below w.heap.size w w'))
    case atStart => exact ⟨(y427), (0), (0), (by first | rfl | (simp; done) | (simp [*]; done)), (by first | rfl | (simp; done) | (simp [*]; done)), H', ⟨Nat.le_refl _⟩, ⟨by (with_reducible repeat (first | apply Kd.R_alloc | apply Kd.R_drewN | apply Kd.R_drew)); exact HO429.out⟩, ⟨by repeat (first | (with_reducible first | exact HB.out | apply below_alloc | apply pw_below_drewN | apply below_drew1) | exact HB.out)⟩⟩
    case round =>
     clear H'
     try clear p2
     try clear c3
     try clear c4
     try clear c5
     try clear c5b0
     try clear c5b1
     try clear c6
     try clear c6b0
     try clear c6b1
     try clear c8
     obtain ⟨x4_1, x5_1, x7_1, rfl, rfl, HA, HK1, HO_4, HB⟩ := hrel
     cases gk with
     | zero => exact absurd HA.out (by simp [spec_CountTwoCuts.l0])
     | succ k1 =>
      have H := HA.out
      clear HA
      simp only [spec_CountTwoCuts.l0] at H
      obtain ⟨ji9, hji9⟩ : ∃ j_ : Int, (wrap64 ((l0.length : Int) - 1)) = j_ := ⟨_, rfl⟩
      replace H : (if 0 ≤ (ji9) then (if x7_1 < (shl .i64 1 (ji9)) then ((spec_l6At.f k1 (l0.length : Int) x7_1).bind fun t430 => ((spec_l6Run.f k1 l0 t430).bind fun t433 => (spec_CountTwoCuts.l1 k1 l0 x4_1 x5_1 (l0.length : Int) x7_1 t433 0))) else (some (x5_1, true))) else (none)) = some (r1, r2) := by first | (rw [hji9] at H; exact H) | (simp only [hji9] at H ⊢; exact H)
      have hji9w : (IntKind.i64.wrap ((l0.length : Int) - 1)) = ji9 := (i64_w _).trans hji9
      by_cases c10 : 0 ≤ (ji9)
      ·
       rw [if_pos c10] at H
       have c10b0 := eq_true c10
       have c10b1 : decide (0 ≤ (ji9)) = true := decide_eq_true c10
       clear c10
       obtain ⟨ji11, hji11⟩ : ∃ j_ : Int, (shl .i64 1 (ji9)) = j_ := ⟨_, rfl⟩
       replace H : (if x7_1 < (ji11) then ((spec_l6At.f k1 (l0.length : Int) x7_1).bind fun t430 => ((spec_l6Run.f k1 l0 t430).bind fun t433 => (spec_CountTwoCuts.l1 k1 l0 x4_1 x5_1 (l0.length : Int) x7_1 t433 0))) else (some (x5_1, true))) = some (r1, r2) := by first | (rw [hji11] at H; exact H) | (simp only [hji11] at H ⊢; exact H)
       have hji11_ : (IntKind.i64.wrap (1 * 2 ^ min (ji9).toNat 64)) = ji11 := hji11
       have hji11z : (ji9) ≤ 64 → (IntKind.i64.wrap (1 * 2 ^ (ji9).toNat)) = ji11 := shl_small hji11
       have hji11u : (IntKind.i64.wrap (2 ^ min (ji9).toNat 64)) = ji11 := by have h_ := hji11_; rw [Int.one_mul] at h_; exact h_
       have hji11v : (ji9) ≤ 64 → (IntKind.i64.wrap (2 ^ (ji9).toNat)) = ji11 := fun hle_ => by have h_ := hji11z hle_; rw [Int.one_mul] at h_; exact h_
       have hji11y : (wrap64 (1 * 2 ^ min (ji9).toNat 64)) = ji11 := (i64_w _).symm.trans hji11_
       have hji11x : (ji9) ≤ 64 → (wrap64 (1 * 2 ^ (ji9).toNat)) = ji11 := fun h_ => (i64_w _).symm.trans (hji11z h_)
       by_cases c12 : x7_1 < (ji11)
       ·
        rw [if_pos c12] at H
        have c12b0 : decide (x7_1 < (ji11)) = true := decide_eq_true c12
        clear c12
        replace H := Option.bind_eq_some_iff.mp H
        obtain ⟨t430, A130, H⟩ := H
        (try dsimp only at H)
        have A13 := Aside0.mk A130
        clear A130
        replace H := Option.bind_eq_some_iff.mp H
        obtain ⟨t433, A140, H⟩ := H
        (try dsimp only at H)
        have A14 := Aside0.mk A140
        clear A140
        have H' := Aside0.mk H
        clear H
        go_wp2_with (first | ((with_reducible refine gate_callee (f := 70) rfl ?_); refine goesL_ (some 30) rfl rfl Try.func70 (by kernel_rfl) rfl #[.int .i64 (l0.length : Int), .int .i64 x7_1] rfl (by (try simp only [List.map_toArray, List.map_cons, List.map_nil]); first | done | rfl | (simp only [List.length_drop, List.length_take]; rfl)) ?_; (with_reducible refine (spec_l6At.calls k1 (l0.length : Int) x7_1 t430 _ A13.out).mono ?_); rintro e w15 ⟨v431, rfl, ho0, hb⟩; refine ⟨_, rfl, ?_⟩; have n0_ := Aside0.mk (Kd.R_below (by (with_reducible repeat (first | apply Kd.R_alloc | apply Kd.R_drewN | apply Kd.R_drew)); exact HO_4.out) hb); have n1_ := Aside0.mk (Kd.R_lower ho0 (below_size (by repeat (first | (with_reducible first | exact HB.out | apply below_alloc | apply pw_below_drewN | apply below_drew1) | exact HB.out)))); have n2_ := Aside0.mk (below_step (by repeat (first | (with_reducible first | exact HB.out | apply below_alloc | apply pw_below_drewN | apply below_drew1) | exact HB.out)) hb); clear HO_4; clear HB; have HO_4 := n0_; have HO432 := n1_; have HB := n2_; clear n0_ n1_ n2_; (try clear hb); (try clear hb2); (try clear hk); (try clear hi); (try clear ho0); obtain ⟨Ao16, co16, eo16⟩ := Kd.R_slice HO432.out; subst eo16) | ((with_reducible refine gate_callee (f := 58) rfl ?_); refine goesL_ (some 31) rfl rfl Try.func58 (by kernel_rfl) rfl #[.slice A0 l0.length c0, .slice Ao16 t430.length co16] rfl (by (try simp only [List.map_toArray, List.map_cons, List.map_nil]); first | done | rfl | (simp only [List.length_drop, List.length_take]; rfl)) ?_; (with_reducible refine (spec_l6Run.calls k1 _ _ l0 _ _ t430 t433 _ ?side1 ?side2 ?side3 ?side4 A14.out).mono ?_); (case side1 => repeat (first | exact (Kd.C_below HR0.out HB.out) | (with_reducible refine Kd.C_alloc ?_ _) | (with_reducible refine Kd.C_drewN ?_ _) | (with_reducible refine Kd.C_drew ?_))); (case side2 => exact HC0.out); (case side3 => repeat (first | exact (Kd.R_reads' HO432.out).2.2 | (with_reducible refine Kd.C_alloc ?_ _) | (with_reducible refine Kd.C_drewN ?_ _) | (with_reducible refine Kd.C_drew ?_))); (case side4 => exact (Kd.R_reads' HO432.out).2.1); rintro e w17 ⟨v434, rfl, ho0, hb⟩; refine ⟨_, rfl, ?_⟩; have n0_ := Aside0.mk (Kd.R_below (by (with_reducible repeat (first | apply Kd.R_alloc | apply Kd.R_drewN | apply Kd.R_drew)); exact HO_4.out) hb); have n1_ := Aside0.mk (Kd.R_elder' (by (with_reducible repeat (first | apply Kd.R_alloc | apply Kd.R_drewN | apply Kd.R_drew)); exact HO432.out) (Kd.R_base ho0) hb); have n2_ := Aside0.mk (Kd.R_lower (Kd.R_new' ho0 (Kd.R_lt (by (with_reducible repeat (first | apply Kd.R_alloc | apply Kd.R_drewN | apply Kd.R_drew)); exact HO432.out))) (below_size (by repeat (first | (with_reducible first | exact HB.out | apply below_alloc | apply pw_below_drewN | apply below_drew1) | exact HB.out)))); have n3_ := Aside0.mk (below_step (by repeat (first | (with_reducible first | exact HB.out | apply below_alloc | apply pw_below_drewN | apply below_drew1) | exact HB.out)) hb); clear HO_4; clear HO432; clear HB; have HO_4 := n0_; have HO432 := n1_; have HO435 := n2_; have HB := n3_; clear n0_ n1_ n2_ n3_; (try clear hb); (try clear hb2); (try clear hk); (try clear hi); (try clear ho0)))
        go_loopg [5, 9] k1 (fun kq v5 v9 w' => ∃ (x4_2 : List Bool) (x5_2 : Int) (x9_2 : Int), v5 = .int .i64 x5_2 ∧ v9 = .int .i64 x9_2 ∧ Aside0 (spec_CountTwoCuts.l1 kq l0 x4_2 x5_2 (l0.length : Int) x7_1 t433 x9_2 = some (r1, r2)) ∧ Aside0 (kq ≤ k1) ∧ Aside0 (Kd.R Kd.bool 4 w' w.heap.size (fun _ => True) v428 x4_2) ∧ Aside0 (Kd.R (Kd.int .i64) 3 w' w.heap.size (fun _ => True) v434 t433) ∧ Aside0 (Below w.heap.size w w'))
        case atStart => exact ⟨(x4_1), (x5_1), (0), (by first | rfl | (simp; done) | (simp [*]; done)), (by first | rfl | (simp; done) | (simp [*]; done)), H', ⟨Nat.le_refl _⟩, ⟨by (with_reducible repeat (first | apply Kd.R_alloc | apply Kd.R_drewN | apply Kd.R_drew)); exact HO_4.out⟩, ⟨by (with_reducible repeat (first | apply Kd.R_alloc | apply Kd.R_drewN | apply Kd.R_drew)); exact Kd.R_mono HO435.out (fun _ hk => trivial)⟩, ⟨by repeat (first | (with_reducible first | exact HB.out | apply below_alloc | apply pw_below_drewN | apply below_drew1) | exact HB.out)⟩⟩
        case round =>
         clear H'
         try clear c1
         try clear p2
         try clear c3
         try clear c4
         try clear c5
         try clear c5b0
         try clear c5b1
         try clear c6
         try clear c6b0
         try clear c6b1
         try clear p6
         try clear c7
         try clear c8
         try clear c10
         try clear c10b0
         try clear c10b1
         try clear c12
         try clear c12b0
         try clear p2
         obtain ⟨x4_2, x5_2, x9_2, rfl, rfl, HA, HK2, HO_4, HO_8, HB⟩ := hrel
         cases gk with
         | zero => exact absurd HA.out (by simp [spec_CountTwoCuts.l1])
         | succ k2 =>
          have H := HA.out
          clear HA
          simp only [spec_CountTwoCuts.l1] at H
          obtain ⟨ji18, hji18⟩ : ∃ j_ : Int, (wrap64 ((l0.length : Int) - 1)) = j_ := ⟨_, rfl⟩
          replace H : (if 0 ≤ (ji18) then (if x9_2 < (shl .i64 1 (ji18)) then ((spec_l6At.f k2 (l0.length : Int) x9_2).bind fun t436 => ((spec_l6Run.f k2 t433 t436).bind fun t439 => ((spec_l2Rank.f k2 t439).bind fun t442 => (if 0 ≤ t442 then (if t442 < (x4_2.length : Int) then (if rdOf false x4_2 t442 = true then (spec_CountTwoCuts.l1 k2 l0 x4_2 x5_2 (l0.length : Int) x7_1 t433 (wrap64 (x9_2 + 1))) else (spec_CountTwoCuts.l1 k2 l0 (x4_2.set (t442 : Int).toNat true) (wrap64 (x5_2 + 1)) (l0.length : Int) x7_1 t433 (wrap64 (x9_2 + 1)))) else (none)) else (none))))) else (spec_CountTwoCuts.l0 k2 l0 x4_2 x5_2 (l0.length : Int) (wrap64 (x7_1 + 1)))) else (none)) = some (r1, r2) := by first | (rw [hji18] at H; exact H) | (simp only [hji18] at H ⊢; exact H)
          (try clear hji9w hji9)
          have hji18w : (IntKind.i64.wrap ((l0.length : Int) - 1)) = ji18 := (i64_w _).trans hji18
          by_cases c19 : 0 ≤ (ji18)
          ·
           rw [if_pos c19] at H
           have c19b0 := eq_true c19
           have c19b1 : decide (0 ≤ (ji18)) = true := decide_eq_true c19
           clear c19
           obtain ⟨ji20, hji20⟩ : ∃ j_ : Int, (shl .i64 1 (ji18)) = j_ := ⟨_, rfl⟩
           replace H : (if x9_2 < (ji20) then ((spec_l6At.f k2 (l0.length : Int) x9_2).bind fun t436 => ((spec_l6Run.f k2 t433 t436).bind fun t439 => ((spec_l2Rank.f k2 t439).bind fun t442 => (if 0 ≤ t442 then (if t442 < (x4_2.length : Int) then (if rdOf false x4_2 t442 = true then (spec_CountTwoCuts.l1 k2 l0 x4_2 x5_2 (l0.length : Int) x7_1 t433 (wrap64 (x9_2 + 1))) else (spec_CountTwoCuts.l1 k2 l0 (x4_2.set (t442 : Int).toNat true) (wrap64 (x5_2 + 1)) (l0.length : Int) x7_1 t433 (wrap64 (x9_2 + 1)))) else (none)) else (none))))) else (spec_CountTwoCuts.l0 k2 l0 x4_2 x5_2 (l0.length : Int) (wrap64 (x7_1 + 1)))) = some (r1, r2) := by first | (rw [hji20] at H; exact H) | (simp only [hji20] at H ⊢; exact H)
           have hji20_ : (IntKind.i64.wrap (1 * 2 ^ min (ji18).toNat 64)) = ji20 := hji20
           have hji20z : (ji18) ≤ 64 → (IntKind.i64.wrap (1 * 2 ^ (ji18).toNat)) = ji20 := shl_small hji20
           have hji20u : (IntKind.i64.wrap (2 ^ min (ji18).toNat 64)) = ji20 := by have h_ := hji20_; rw [Int.one_mul] at h_; exact h_
           have hji20v : (ji18) ≤ 64 → (IntKind.i64.wrap (2 ^ (ji18).toNat)) = ji20 := fun hle_ => by have h_ := hji20z hle_; rw [Int.one_mul] at h_; exact h_
           have hji20y : (wrap64 (1 * 2 ^ min (ji18).toNat 64)) = ji20 := (i64_w _).symm.trans hji20_
           have hji20x : (ji18) ≤ 64 → (wrap64 (1 * 2 ^ (ji18).toNat)) = ji20 := fun h_ => (i64_w _).symm.trans (hji20z h_)
           by_cases c21 : x9_2 < (ji20)
           ·
            rw [if_pos c21] at H
            have c21b0 : decide (x9_2 < (ji20)) = true := decide_eq_true c21
            clear c21
            replace H := Option.bind_eq_some_iff.mp H
            obtain ⟨t436, A220, H⟩ := H
            (try dsimp only at H)
            have A22 := Aside0.mk A220
            clear A220
            replace H := Option.bind_eq_some_iff.mp H
            obtain ⟨t439, A230, H⟩ := H
            (try dsimp only at H)
            have A23 := Aside0.mk A230
            clear A230
            replace H := Option.bind_eq_some_iff.mp H
            obtain ⟨t442, A240, H⟩ := H
            (try dsimp only at H)
            have A24 := Aside0.mk A240
            clear A240
            by_cases c25 : 0 ≤ t442
            ·
             rw [if_pos c25] at H
             have c25b0 : decide (0 ≤ t442) = true := decide_eq_true c25
             clear c25
             by_cases c26 : t442 < (x4_2.length : Int)
             ·
              rw [if_pos c26] at H
              have c26b0 : decide (t442 < (x4_2.length : Int)) = true := decide_eq_true c26
              clear c26
              obtain ⟨bq27, hbq27⟩ : ∃ b_ : Bool, b_ = (rdOf false x4_2 t442) := ⟨_, rfl⟩
              replace H : (if bq27 = true then (spec_CountTwoCuts.l1 k2 l0 x4_2 x5_2 (l0.length : Int) x7_1 t433 (wrap64 (x9_2 + 1))) else (spec_CountTwoCuts.l1 k2 l0 (x4_2.set (t442 : Int).toNat true) (wrap64 (x5_2 + 1)) (l0.length : Int) x7_1 t433 (wrap64 (x9_2 + 1)))) = some (r1, r2) := by rw [← hbq27] at H; exact H
              have Nbq27 := Aside0.mk hbq27
              clear hbq27
              by_cases c28 : bq27 = true
              ·
               subst c28
               rw [if_pos rfl] at H
               have H' := Aside0.mk H
               clear H
               go_wp2_with (first | ((with_reducible refine gate_callee (f := 70) rfl ?_); refine goesL_ (some 42) rfl rfl Try.func70 (by kernel_rfl) rfl #[.int .i64 (l0.length : Int), .int .i64 x9_2] rfl (by (try simp only [List.map_toArray, List.map_cons, List.map_nil]); first | done | rfl | (simp only [List.length_drop, List.length_take]; rfl)) ?_; (with_reducible refine (spec_l6At.calls k2 (l0.length : Int) x9_2 t436 _ A22.out).mono ?_); rintro e w29 ⟨v437, rfl, ho0, hb⟩; refine ⟨_, rfl, ?_⟩; have n0_ := Aside0.mk (Kd.R_below (by (with_reducible repeat (first | apply Kd.R_alloc | apply Kd.R_drewN | apply Kd.R_drew)); exact HO_4.out) hb); have n1_ := Aside0.mk (Kd.R_elder' (by (with_reducible repeat (first | apply Kd.R_alloc | apply Kd.R_drewN | apply Kd.R_drew)); exact HO_8.out) (Kd.R_base ho0) hb); have n2_ := Aside0.mk (Kd.R_lower (Kd.R_new' ho0 (Kd.R_lt (by (with_reducible repeat (first | apply Kd.R_alloc | apply Kd.R_drewN | apply Kd.R_drew)); exact HO_8.out))) (below_size (by repeat (first | (with_reducible first | exact HB.out | apply below_alloc | apply pw_below_drewN | apply below_drew1) | exact HB.out)))); have n3_ := Aside0.mk (below_step (by repeat (first | (with_reducible first | exact HB.out | apply below_alloc | apply pw_below_drewN | apply below_drew1) | exact HB.out)) hb); clear HO_4; clear HO_8; clear HB; have HO_4 := n0_; have HO_8 := n1_; have HO438 := n2_; have HB := n3_; clear n0_ n1_ n2_ n3_; (try clear hb); (try clear hb2); (try clear hk); (try clear hi); (try clear ho0); obtain ⟨Ao30, co30, eo30⟩ := Kd.R_slice HO_8.out; subst eo30; obtain ⟨Ao31, co31, eo31⟩ := Kd.R_slice HO438.out; subst eo31) | ((with_reducible refine gate_callee (f := 58) rfl ?_); refine goesL_ (some 43) rfl rfl Try.func58 (by kernel_rfl) rfl #[.slice Ao30 t433.length co30, .slice Ao31 t436.length co31] rfl (by (try simp only [List.map_toArray, List.map_cons, List.map_nil]); first | done | rfl | (simp only [List.length_drop, List.length_take]; rfl)) ?_; (with_reducible refine (spec_l6Run.calls k2 _ _ t433 _ _ t436 t439 _ ?side1 ?side2 ?side3 ?side4 A23.out).mono ?_); (case side1 => repeat (first | exact (Kd.R_reads' HO_8.out).2.2 | (with_reducible refine Kd.C_alloc ?_ _) | (with_reducible refine Kd.C_drewN ?_ _) | (with_reducible refine Kd.C_drew ?_))); (case side2 => exact (Kd.R_reads' HO_8.out).2.1); (case side3 => repeat (first | exact (Kd.R_reads' HO438.out).2.2 | (with_reducible refine Kd.C_alloc ?_ _) | (with_reducible refine Kd.C_drewN ?_ _) | (with_reducible refine Kd.C_drew ?_))); (case side4 => exact (Kd.R_reads' HO438.out).2.1); rintro e w32 ⟨v440, rfl, ho0, hb⟩; refine ⟨_, rfl, ?_⟩; have n0_ := Aside0.mk (Kd.R_below (by (with_reducible repeat (first | apply Kd.R_alloc | apply Kd.R_drewN | apply Kd.R_drew)); exact HO_4.out) hb); have n1_ := Aside0.mk (Kd.R_elder' (by (with_reducible repeat (first | apply Kd.R_alloc | apply Kd.R_drewN | apply Kd.R_drew)); exact HO_8.out) (Kd.R_base ho0) hb); have n2_ := Aside0.mk (Kd.R_elder' (by (with_reducible repeat (first | apply Kd.R_alloc | apply Kd.R_drewN | apply Kd.R_drew)); exact HO438.out) (Kd.R_base ho0) hb); have n3_ := Aside0.mk (Kd.R_lower (Kd.R_new' (Kd.R_new' ho0 (Kd.R_lt (by (with_reducible repeat (first | apply Kd.R_alloc | apply Kd.R_drewN | apply Kd.R_drew)); exact HO_8.out))) (Kd.R_lt (by (with_reducible repeat (first | apply Kd.R_alloc | apply Kd.R_drewN | apply Kd.R_drew)); exact HO438.out))) (below_size (by repeat (first | (with_reducible first | exact HB.out | apply below_alloc | apply pw_below_drewN | apply below_drew1) | exact HB.out)))); have n4_ := Aside0.mk (below_step (by repeat (first | (with_reducible first | exact HB.out | apply below_alloc | apply pw_below_drewN | apply below_drew1) | exact HB.out)) hb); clear HO_4; clear HO_8; clear HO438; clear HB; have HO_4 := n0_; have HO_8 := n1_; have HO438 := n2_; have HO441 := n3_; have HB := n4_; clear n0_ n1_ n2_ n3_ n4_; (try clear hb); (try clear hb2); (try clear hk); (try clear hi); (try clear ho0); obtain ⟨Ao33, co33, eo33⟩ := Kd.R_slice HO441.out; subst eo33) | ((with_reducible refine gate_callee (f := 89) rfl ?_); refine goesL_ (some 44) rfl rfl Try.func89 (by kernel_rfl) rfl #[.slice Ao33 t439.length co33] rfl (by (try simp only [List.map_toArray, List.map_cons, List.map_nil]); first | done | rfl | (simp only [List.length_drop, List.length_take]; rfl)) ?_; (with_reducible refine (spec_l2Rank.calls k2 _ _ t439 t442 _ ?side1 ?side2 A24.out).mono ?_); (case side1 => repeat (first | exact (Kd.R_reads' HO441.out).2.2 | (with_reducible refine Kd.C_alloc ?_ _) | (with_reducible refine Kd.C_drewN ?_ _) | (with_reducible refine Kd.C_drew ?_))); (case side2 => exact (Kd.R_reads' HO441.out).2.1); rintro e w' ⟨rfl, ⟨nd, rfl⟩⟩; refine ⟨_, rfl, ?_⟩; obtain ⟨Ao34, co34, eo34⟩ := Kd.R_slice HO_4.out; subst eo34; have p443 : 0 ≤ (t442 : Int) := of_decide_eq_true (by first | (with_reducible assumption) | assumption); have q443 : t442 < (x4_2.length : Int) := of_decide_eq_true (by first | (with_reducible assumption) | assumption); obtain ⟨ad443, e443, hx443_0⟩ := Kd.at_bool (Kd.R_reads' HO_4.out).2.2 t442 p443 q443; (try rw [← Nbq27.out] at hx443_0); cases e443; replace p443 := eq_true p443; replace q443 := eq_true q443))
               go_roundg k2
               case measure => have := HK1.out; have := HK2.out; omega
               case rel => exact ⟨(x4_2), (x5_2), (wrap64 (x9_2 + 1)), (by first | rfl | (simp; done) | (simp [*]; done)), (by first | rfl | (simp; done) | (simp [*]; done)), (by first | exact H' | (rw [hji18]; exact H') | (rw [← hji18]; exact H') | (rw [hji9]; exact H') | (rw [← hji9]; exact H')), ⟨by have := HK1.out; have := HK2.out; omega⟩, ⟨by (with_reducible repeat (first | apply Kd.R_alloc | apply Kd.R_drewN | apply Kd.R_drew)); exact HO_4.out⟩, ⟨by (with_reducible repeat (first | apply Kd.R_alloc | apply Kd.R_drewN | apply Kd.R_drew)); exact Kd.R_mono HO_8.out (fun _ hk => trivial)⟩, ⟨by repeat (first | (with_reducible first | exact HB.out | apply below_alloc | apply pw_below_drewN | apply below_drew1) | exact HB.out)⟩⟩
              ·
               replace c28 := Bool.eq_false_iff.mpr c28
               subst c28
               rw [if_neg (show ¬ (false = true) by decide)] at H
               obtain ⟨y444, hy444⟩ : ∃ y_ : List Bool, y_ = (x4_2.set (t442 : Int).toNat true) := ⟨_, rfl⟩
               replace H : (spec_CountTwoCuts.l1 k2 l0 y444 (wrap64 (x5_2 + 1)) (l0.length : Int) x7_1 t433 (wrap64 (x9_2 + 1))) = some (r1, r2) := by first | (rw [hy444]; with_reducible exact H) | (have H2_ := (Option.bind_some _ _).symm.trans H; rw [hy444]; with_reducible exact H2_) | (have H2_ := (Option.bind_some _ _).symm.trans H; with_reducible exact H2_) | with_reducible exact H | (rw [hy444]; exact H) | exact H
               have Ny444 := Aside0.mk hy444
               clear hy444
               have H' := Aside0.mk H
               clear H
               go_wp2_with (first | ((with_reducible refine gate_callee (f := 70) rfl ?_); refine goesL_ (some 42) rfl rfl Try.func70 (by kernel_rfl) rfl #[.int .i64 (l0.length : Int), .int .i64 x9_2] rfl (by (try simp only [List.map_toArray, List.map_cons, List.map_nil]); first | done | rfl | (simp only [List.length_drop, List.length_take]; rfl)) ?_; (with_reducible refine (spec_l6At.calls k2 (l0.length : Int) x9_2 t436 _ A22.out).mono ?_); rintro e w36 ⟨v437, rfl, ho0, hb⟩; refine ⟨_, rfl, ?_⟩; have n0_ := Aside0.mk (Kd.R_below (by (with_reducible repeat (first | apply Kd.R_alloc | apply Kd.R_drewN | apply Kd.R_drew)); exact HO_4.out) hb); have n1_ := Aside0.mk (Kd.R_elder' (by (with_reducible repeat (first | apply Kd.R_alloc | apply Kd.R_drewN | apply Kd.R_drew)); exact HO_8.out) (Kd.R_base ho0) hb); have n2_ := Aside0.mk (Kd.R_lower (Kd.R_new' ho0 (Kd.R_lt (by (with_reducible repeat (first | apply Kd.R_alloc | apply Kd.R_drewN | apply Kd.R_drew)); exact HO_8.out))) (below_size (by repeat (first | (with_reducible first | exact HB.out | apply below_alloc | apply pw_below_drewN | apply below_drew1) | exact HB.out)))); have n3_ := Aside0.mk (below_step (by repeat (first | (with_reducible first | exact HB.out | apply below_alloc | apply pw_below_drewN | apply below_drew1) | exact HB.out)) hb); clear HO_4; clear HO_8; clear HB; have HO_4 := n0_; have HO_8 := n1_; have HO438 := n2_; have HB := n3_; clear n0_ n1_ n2_ n3_; (try clear hb); (try clear hb2); (try clear hk); (try clear hi); (try clear ho0); obtain ⟨Ao37, co37, eo37⟩ := Kd.R_slice HO_8.out; subst eo37; obtain ⟨Ao38, co38, eo38⟩ := Kd.R_slice HO438.out; subst eo38) | ((with_reducible refine gate_callee (f := 58) rfl ?_); refine goesL_ (some 43) rfl rfl Try.func58 (by kernel_rfl) rfl #[.slice Ao37 t433.length co37, .slice Ao38 t436.length co38] rfl (by (try simp only [List.map_toArray, List.map_cons, List.map_nil]); first | done | rfl | (simp only [List.length_drop, List.length_take]; rfl)) ?_; (with_reducible refine (spec_l6Run.calls k2 _ _ t433 _ _ t436 t439 _ ?side1 ?side2 ?side3 ?side4 A23.out).mono ?_); (case side1 => repeat (first | exact (Kd.R_reads' HO_8.out).2.2 | (with_reducible refine Kd.C_alloc ?_ _) | (with_reducible refine Kd.C_drewN ?_ _) | (with_reducible refine Kd.C_drew ?_))); (case side2 => exact (Kd.R_reads' HO_8.out).2.1); (case side3 => repeat (first | exact (Kd.R_reads' HO438.out).2.2 | (with_reducible refine Kd.C_alloc ?_ _) | (with_reducible refine Kd.C_drewN ?_ _) | (with_reducible refine Kd.C_drew ?_))); (case side4 => exact (Kd.R_reads' HO438.out).2.1); rintro e w39 ⟨v440, rfl, ho0, hb⟩; refine ⟨_, rfl, ?_⟩; have n0_ := Aside0.mk (Kd.R_below (by (with_reducible repeat (first | apply Kd.R_alloc | apply Kd.R_drewN | apply Kd.R_drew)); exact HO_4.out) hb); have n1_ := Aside0.mk (Kd.R_elder' (by (with_reducible repeat (first | apply Kd.R_alloc | apply Kd.R_drewN | apply Kd.R_drew)); exact HO_8.out) (Kd.R_base ho0) hb); have n2_ := Aside0.mk (Kd.R_elder' (by (with_reducible repeat (first | apply Kd.R_alloc | apply Kd.R_drewN | apply Kd.R_drew)); exact HO438.out) (Kd.R_base ho0) hb); have n3_ := Aside0.mk (Kd.R_lower (Kd.R_new' (Kd.R_new' ho0 (Kd.R_lt (by (with_reducible repeat (first | apply Kd.R_alloc | apply Kd.R_drewN | apply Kd.R_drew)); exact HO_8.out))) (Kd.R_lt (by (with_reducible repeat (first | apply Kd.R_alloc | apply Kd.R_drewN | apply Kd.R_drew)); exact HO438.out))) (below_size (by repeat (first | (with_reducible first | exact HB.out | apply below_alloc | apply pw_below_drewN | apply below_drew1) | exact HB.out)))); have n4_ := Aside0.mk (below_step (by repeat (first | (with_reducible first | exact HB.out | apply below_alloc | apply pw_below_drewN | apply below_drew1) | exact HB.out)) hb); clear HO_4; clear HO_8; clear HO438; clear HB; have HO_4 := n0_; have HO_8 := n1_; have HO438 := n2_; have HO441 := n3_; have HB := n4_; clear n0_ n1_ n2_ n3_ n4_; (try clear hb); (try clear hb2); (try clear hk); (try clear hi); (try clear ho0); obtain ⟨Ao40, co40, eo40⟩ := Kd.R_slice HO441.out; subst eo40) | ((with_reducible refine gate_callee (f := 89) rfl ?_); refine goesL_ (some 44) rfl rfl Try.func89 (by kernel_rfl) rfl #[.slice Ao40 t439.length co40] rfl (by (try simp only [List.map_toArray, List.map_cons, List.map_nil]); first | done | rfl | (simp only [List.length_drop, List.length_take]; rfl)) ?_; (with_reducible refine (spec_l2Rank.calls k2 _ _ t439 t442 _ ?side1 ?side2 A24.out).mono ?_); (case side1 => repeat (first | exact (Kd.R_reads' HO441.out).2.2 | (with_reducible refine Kd.C_alloc ?_ _) | (with_reducible refine Kd.C_drewN ?_ _) | (with_reducible refine Kd.C_drew ?_))); (case side2 => exact (Kd.R_reads' HO441.out).2.1); rintro e w' ⟨rfl, ⟨nd, rfl⟩⟩; refine ⟨_, rfl, ?_⟩; (try (rw [drewN_self w39]; generalize hq_ : World.drewN w39 _ = w39; have n0_ : Aside0 (Kd.R (Kd.int .i64) 3 w39 w.heap.size (fun k_ => some k_ ≠ (.slice Ao40 t439.length co40 : Value).ownBlock ∧ some k_ ≠ (.slice Ao37 t433.length co37 : Value).ownBlock) (.slice Ao38 t436.length co38) t436) := ⟨by rw [← hq_]; exact (by (with_reducible repeat (first | apply Kd.R_alloc | apply Kd.R_drewN | apply Kd.R_drew)); exact Kd.R_mono HO438.out (fun _ hk => by first | exact ⟨hk.2, hk.1.2⟩ | (simp only [own_map, ne_eq] at hk ⊢; simp only [hk, and_self, not_false_eq_true]; done) | (simp only [own_map, ne_eq] at hk ⊢; simp [hk]; done)))⟩; have n1_ : Aside0 (Kd.R (Kd.int .i64) 3 w39 w.heap.size (fun k_ => some k_ ≠ (.slice Ao38 t436.length co38 : Value).ownBlock ∧ some k_ ≠ (.slice Ao37 t433.length co37 : Value).ownBlock) (.slice Ao40 t439.length co40) t439) := ⟨by rw [← hq_]; exact (by (with_reducible repeat (first | apply Kd.R_alloc | apply Kd.R_drewN | apply Kd.R_drew)); exact Kd.R_mono HO441.out (fun _ hk => by first | exact ⟨hk.2, hk.1.2⟩ | (simp only [own_map, ne_eq] at hk ⊢; simp only [hk, and_self, not_false_eq_true]; done) | (simp only [own_map, ne_eq] at hk ⊢; simp [hk]; done)))⟩; have n2_ : Aside0 (Kd.R Kd.bool 4 w39 w.heap.size (fun _ => True) v428 x4_2) := ⟨by rw [← hq_]; exact (by (with_reducible repeat (first | apply Kd.R_alloc | apply Kd.R_drewN | apply Kd.R_drew)); exact HO_4.out)⟩; have n3_ : Aside0 (Kd.R (Kd.int .i64) 3 w39 w.heap.size (fun k_ => some k_ ≠ (.slice Ao38 t436.length co38 : Value).ownBlock ∧ some k_ ≠ (.slice Ao40 t439.length co40 : Value).ownBlock) (.slice Ao37 t433.length co37) t433) := ⟨by rw [← hq_]; exact (by (with_reducible repeat (first | apply Kd.R_alloc | apply Kd.R_drewN | apply Kd.R_drew)); exact Kd.R_mono HO_8.out (fun _ hk => by first | exact ⟨hk.1.2, hk.2⟩ | (simp only [own_map, ne_eq] at hk ⊢; simp only [hk, and_self, not_false_eq_true]; done) | (simp only [own_map, ne_eq] at hk ⊢; simp [hk]; done)))⟩; have n4_ : Aside0 (Below w.heap.size w w39) := ⟨by rw [← hq_]; exact (by repeat (first | (with_reducible first | exact HB.out | apply below_alloc | apply pw_below_drewN | apply below_drew1) | exact HB.out))⟩; clear HO438 HO441 HO_4 HO_8 HB hq_; have HO438 := n0_; have HO441 := n1_; have HO_4 := n2_; have HO_8 := n3_; have HB := n4_; clear n0_ n1_ n2_ n3_ n4_)); obtain ⟨Ao41, co41, eo41⟩ := Kd.R_slice HO_4.out; subst eo41; have p443 : 0 ≤ (t442 : Int) := of_decide_eq_true (by first | (with_reducible assumption) | assumption); have q443 : t442 < (x4_2.length : Int) := of_decide_eq_true (by first | (with_reducible assumption) | assumption); obtain ⟨ad443, e443, hx443_0⟩ := Kd.at_bool (Kd.R_reads' HO_4.out).2.2 t442 p443 q443; (try rw [← Nbq27.out] at hx443_0); cases e443; replace p443 := eq_true p443; replace q443 := eq_true q443; have p35 : 0 ≤ (t442 : Int) := of_decide_eq_true (by first | (with_reducible assumption) | assumption); have q35 : (t442 : Int) < ((x4_2.length : Int) : Int) := of_decide_eq_true (by first | (with_reducible assumption) | assumption); obtain ⟨go35, co35, eo35, gb35, gl35, cl35, HG35⟩ := Kd.R_form HO_4.out (by omega); (first | cases eo35 | (injection eo35 with ea_ en_ ec_; (first | subst ea_ | (injection ea_ with ea_; subst ea_)); subst ec_; clear en_)); have GB35 := Aside0.mk gb35; have GG35 := Aside0.mk HG35; clear gb35 gl35 HG35; (first | simp only [add_plain] at hx443_0 | skip); obtain ⟨hx35_0, hf35_0⟩ := Kd.R_celln false HO_4.out (t442 : Int) p35 q35; replace p35 := eq_true p35; replace q35 := eq_true q35; obtain ⟨hy42_, hz42_⟩ := Kd.R_celln false HO_4.out (t442 : Int) (of_decide_eq_true (by first | (with_reducible assumption) | assumption)) (of_decide_eq_true (by first | (with_reducible assumption) | assumption)); have HP42 := Kd.R_putg HO_4.out (t442 : Int) true) | ((with_reducible refine gate_store (t := 4) (p := 52) rfl ?_); refine store_event (t := 4) (p := 52) (v := ?vo_w43) (w1 := (w39.setCell ⟨go35, (t442 : Int).toNat, none⟩ (.bool true))) ?hg ?ho ?hn ?hr ?_; (case ho => rfl); (case hg => rfl); (case hn => rfl); (case hr => first | (go_simp; done) | (go_simp; rfl)); intro w43 hw; have hg : w39.grownBy w43 (some go35) := (by rw [hw]; exact HP42.2); have hp_ : Kd.R Kd.bool 4 w43 w.heap.size (fun _ => True) (.slice (some ⟨go35, 0, none⟩) x4_2.length co41) y444 := (by rw [hw, Ny444.out]; exact HP42.1); clear HP42; have n0_ := Aside0.mk (hp_); have n1_ := Aside0.mk (Kd.R_over' (v := (.slice (some ⟨go35, 0, none⟩) x4_2.length co41)) (by (with_reducible repeat (first | apply Kd.R_alloc | apply Kd.R_drewN | apply Kd.R_drew)); exact HO_8.out) (Kd.R_typed HO_4.out) (by decide) hg); have n2_ := Aside0.mk (Kd.R_over' (v := (.slice (some ⟨go35, 0, none⟩) x4_2.length co41)) (by (with_reducible repeat (first | apply Kd.R_alloc | apply Kd.R_drewN | apply Kd.R_drew)); exact HO438.out) (Kd.R_typed HO_4.out) (by decide) hg); have n3_ := Aside0.mk (Kd.R_over' (v := (.slice (some ⟨go35, 0, none⟩) x4_2.length co41)) (by (with_reducible repeat (first | apply Kd.R_alloc | apply Kd.R_drewN | apply Kd.R_drew)); exact HO441.out) (Kd.R_typed HO_4.out) (by decide) hg); have n4_ := Aside0.mk ((by rw [hw]; exact below_set (HB.out) GB35.out : Below w.heap.size w w43)); clear HO_4; clear HO_8; clear HO438; clear HO441; clear HB; have HO_4 := n0_; have HO_8 := n1_; have HO438 := n2_; have HO441 := n3_; have HB := n4_; clear n0_ n1_ n2_ n3_ n4_; clear hg hw hp_))
               go_roundg k2
               case measure => have := HK1.out; have := HK2.out; omega
               case rel => exact ⟨(y444), (wrap64 (x5_2 + 1)), (wrap64 (x9_2 + 1)), (by first | rfl | (simp; done) | (simp [*]; done)), (by first | rfl | (simp; done) | (simp [*]; done)), (by first | exact H' | (rw [hji18]; exact H') | (rw [← hji18]; exact H') | (rw [hji9]; exact H') | (rw [← hji9]; exact H')), ⟨by have := HK1.out; have := HK2.out; omega⟩, ⟨by (with_reducible repeat (first | apply Kd.R_alloc | apply Kd.R_drewN | apply Kd.R_drew)); exact HO_4.out⟩, ⟨by (with_reducible repeat (first | apply Kd.R_alloc | apply Kd.R_drewN | apply Kd.R_drew)); exact Kd.R_mono HO_8.out (fun _ hk => trivial)⟩, ⟨by repeat (first | (with_reducible first | exact HB.out | apply below_alloc | apply pw_below_drewN | apply below_drew1) | exact HB.out)⟩⟩
             ·
              rw [if_neg c26] at H
              exact absurd H (by simp)
            ·
             rw [if_neg c25] at H
             exact absurd H (by simp)
           ·
            rw [if_neg c21] at H
            have c21b0 : decide (x9_2 < (ji20)) = false := decide_eq_false c21
            clear c21
            have H' := Aside0.mk H
            clear H
            go_wp2
            go_roundg k2
            case measure => have := HK1.out; have := HK2.out; omega
            case rel => exact ⟨(x4_2), (x5_2), (wrap64 (x7_1 + 1)), (by first | rfl | (simp; done) | (simp [*]; done)), (by first | rfl | (simp; done) | (simp [*]; done)), (by first | exact H' | (rw [hji18]; exact H') | (rw [← hji18]; exact H') | (rw [hji9]; exact H') | (rw [← hji9]; exact H')), ⟨by have := HK1.out; have := HK2.out; omega⟩, ⟨by (with_reducible repeat (first | apply Kd.R_alloc | apply Kd.R_drewN | apply Kd.R_drew)); exact HO_4.out⟩, ⟨by repeat (first | (with_reducible first | exact HB.out | apply below_alloc | apply pw_below_drewN | apply below_drew1) | exact HB.out)⟩⟩
          ·
           rw [if_neg c19] at H
           exact absurd H (by simp)
       ·
        rw [if_neg c12] at H
        have c12b0 : decide (x7_1 < (ji11)) = false := decide_eq_false c12
        clear c12
        simp only [Option.some.injEq, Prod.mk.injEq] at H
        obtain ⟨rfl, rfl⟩ := H
        go_wp2
        go_ret2
        exact ⟨by first | rfl | (simp [errW_none, errW_some] <;> rfl) | (simp only [← hji9, ← hji11]; first | rfl | (simp [errW_none, errW_some] <;> rfl)) | (simp [*, errW_none, errW_some] <;> rfl), by repeat (first | (with_reducible first | exact HB.out | apply below_alloc | apply pw_below_drewN | apply below_drew1) | exact HB.out)⟩
      ·
       rw [if_neg c10] at H
       exact absurd H (by simp)
   ·
    rw [if_neg c6] at H
    exact absurd H (by simp)
  ·
   rw [if_neg c5] at H
   exact absurd H (by simp)
 ·
  replace c3 := Bool.eq_false_iff.mpr c3
  subst c3
  rw [if_neg (show ¬ (false = true) by decide)] at H
  simp only [Option.some.injEq, Prod.mk.injEq] at H
  obtain ⟨rfl, rfl⟩ := H
  go_enter Try.func43, Try.ntmps43
  go_wp2_with (first | ((with_reducible refine gate_callee (f := 56) rfl ?_); refine goesL_ (some 12) rfl rfl Try.func56 (by kernel_rfl) rfl #[.slice A0 l0.length c0] rfl (by (try simp only [List.map_toArray, List.map_cons, List.map_nil]); first | done | rfl | (simp only [List.length_drop, List.length_take]; rfl)) ?_; (with_reducible refine (spec_l2Order.calls k _ _ l0 false _ ?side1 ?side2 A2.out).mono ?_); (case side1 => repeat (first | exact HR0.out | (with_reducible refine Kd.C_alloc ?_ _) | (with_reducible refine Kd.C_drewN ?_ _) | (with_reducible refine Kd.C_drew ?_))); (case side2 => exact HC0.out); rintro e w' ⟨rfl, ⟨nd, rfl⟩⟩; refine ⟨_, rfl, ?_⟩))
  go_ret2
  exact ⟨by first | rfl | (simp [errW_none, errW_some] <;> rfl) | (simp [*, errW_none, errW_some] <;> rfl), by repeat (first | (with_reducible first | exact HB.out | apply below_alloc | apply pw_below_drewN | apply below_drew1) | exact HB.out)⟩
def spec_DrawMostFallSweeps.f (l0 : List Int) : Option (Int) := (spec_l1Cur_among.f l0 0 0 ([3, 4, 2, 1, 5, 0, 7, 3, 4, 6] : List Int)).bind fun ti1 => some (ti1.1)
set_option maxHeartbeats 8000000 in
set_option maxRecDepth 100000 in
theorem spec_DrawMostFallSweeps.calls (A0 : Option Addr) (c0 : Nat) (l0 : List Int) (r : Int) (w0 : World) (hr0 : Kd.C (Kd.int .u8) w0 A0 l0.length l0) (hc0 : l0.length ≤ c0) (h : spec_DrawMostFallSweeps.f l0 = some r) :
  Calls Try.prog 44 #[.slice A0 l0.length c0] w0 fun e w' => e = .returned (.int .i64 r) ∧ Below w0.heap.size w0 w' := by
 have HB := Aside0.mk (Below.refl w0.heap.size w0)
 have HR0 := Aside0.mk hr0
 have HC0 := Aside0.mk hc0
 have H := Aside0.mk h
 clear hr0 hc0 h
 unfold spec_DrawMostFallSweeps.f at H
 go_enter Try.func44, Try.ntmps44
 (repeat ((fail_if_success (with_reducible refine gate_dst (N := 6) rfl ?_)); first | go_values | go_skip | go_guarded | go_step | go_upon))
 refine box_event ?hg (N := 6) ?hd (cs := #[.slice A0 l0.length c0, .int .i64 0, .int .u64 0]) (t := 59) ?hr ?_
 case hd => rfl
 case hg => rfl
 case hr => first | (go_simp; done) | (go_simp; rfl)
 intro g hg w1 hbox hb
 have HI := Aside0.mk (show IsS59 w0 w1 g l0 0 0 from ⟨A0, c0, hbox, by rw [hg]; exact below_size HB.out, HR0.out⟩)
 have nb_ := Aside0.mk (below_step HB.out hb)
 clear HB hg hb hbox
 have HB := nb_
 clear nb_
 (repeat ((fail_if_success (with_reducible refine gate_dst (N := 8) rfl ?_)); first | go_values | go_skip | go_guarded | go_step | go_upon))
 refine Kd.R_lit (Kd.int .i64) _ 3 ?hg (N := 8) ?hd (xs := ([3, 4, 2, 1, 5, 0, 7, 3, 4, 6] : List Int)) (inner := [.int .i64 (3), .int .i64 (4), .int .i64 (2), .int .i64 (1), .int .i64 (5), .int .i64 (0), .int .i64 (7), .int .i64 (3), .int .i64 (4), .int .i64 (6)]) (ok := fun _ => True) (okp := fun _ => True) ?hr ?hp (fun _ hk => hk) trivial (Below.refl _ _) (Nat.le_refl _) (by simp) ?_
 case hd => rfl
 case hg => rfl
 case hr => first | (go_simp; done) | (go_simp; rfl)
 case hp => exact (Reps.one (show Kd.M (Kd.int .i64) _ _ _ (3) [.int .i64 (3)] from rfl) (Reps.one (show Kd.M (Kd.int .i64) _ _ _ (4) [.int .i64 (4)] from rfl) (Reps.one (show Kd.M (Kd.int .i64) _ _ _ (2) [.int .i64 (2)] from rfl) (Reps.one (show Kd.M (Kd.int .i64) _ _ _ (1) [.int .i64 (1)] from rfl) (Reps.one (show Kd.M (Kd.int .i64) _ _ _ (5) [.int .i64 (5)] from rfl) (Reps.one (show Kd.M (Kd.int .i64) _ _ _ (0) [.int .i64 (0)] from rfl) (Reps.one (show Kd.M (Kd.int .i64) _ _ _ (7) [.int .i64 (7)] from rfl) (Reps.one (show Kd.M (Kd.int .i64) _ _ _ (3) [.int .i64 (3)] from rfl) (Reps.one (show Kd.M (Kd.int .i64) _ _ _ (4) [.int .i64 (4)] from rfl) (Reps.one (show Kd.M (Kd.int .i64) _ _ _ (6) [.int .i64 (6)] from rfl) (Reps.none _ _)))))))))))
 intro v_ w2 ho hb hg_ hnew_
 clear hg_ hnew_
 obtain ⟨AT, cT, e_T⟩ := Kd.R_slice ho
 subst e_T
 have nnT_ := Aside0.mk (Kd.R_lower (Kd.R_mono (ok' := fun k_ => k_ ≠ g) (Kd.R_bound ho) (fun k_ h_ => by have h1_ := HI.out.lt; have h2_ := h_.2.1; exact fun h3_ => by omega)) HB.out.size)
 clear ho
 have ni_ := Aside0.mk (HI.out.below hb)
 have nb_ := Aside0.mk (below_step HB.out hb)
 clear HB hb HI
 have HB := nb_
 clear nb_
 have HI := ni_
 clear ni_
 have T := nnT_
 clear nnT_
 have h0_ := H.out
 clear H
 obtain ⟨⟨i1, p2, q3⟩, h_, h⟩ := Option.bind_eq_some_iff.1 h0_
 have H4 := Aside0.mk h_
 clear h_ h0_
 (try dsimp only at h)
 have H := Aside0.mk h
 clear h
 (repeat ((fail_if_success (with_reducible refine gate_dst (N := 9) rfl ?_)); first | go_values | go_skip | go_guarded | go_step | go_upon))
 refine goesL_ (some 9) rfl rfl Try.func59 (by kernel_rfl) rfl #[.pointer (some ⟨g, 0, none⟩), .slice AT ([3, 4, 2, 1, 5, 0, 7, 3, 4, 6] : List Int).length cT] rfl (by (try simp only [List.map_toArray, List.map_cons, List.map_nil]); first | done | rfl) ?_
 refine (spec_l1Cur_among.calls g l0 0 0 AT cT ([3, 4, 2, 1, 5, 0, 7, 3, 4, 6] : List Int) i1 p2 q3 w0 _ HI.out HB.out (Kd.R_reads' T.out).2.2 (Kd.R_reads' T.out).2.1 (fun ad e_ _ => T.out.1 _ (by rw [e_]; rfl)) H4.out).mono ?_
 rintro e w3 ⟨rfl, hi, hb, hk⟩
 refine ⟨_, rfl, ?_⟩
 have nT_ := Aside0.mk (Kd.R_keep T.out hk (fun _ h_ => h_))
 clear HI HB hk T
 have HI := Aside0.mk hi
 have HB := Aside0.mk hb
 clear hi hb
 have T := nT_
 clear nT_
 have h := H.out
 clear H
 obtain rfl := Option.some.inj h
 clear h
 go_wp2
 go_ret
 exact ⟨rfl, HB.out⟩
def impl_factorial.l0 : Nat → Int → Int → Int → Option (Int)
 | 0, _, _, _ => none
 | k + 1, x0, x3, x4 => if x4 ≤ x0 then (impl_factorial.l0 k x0 (wrap64 (x3 * x4)) (wrap64 (x4 + 1))) else (some x3)
def impl_factorial.f (k : Nat) (a0 : Int) : Option (Int) := impl_factorial.l0 k a0 1 2
theorem impl_factorial.mono_l : ∀ k, (∀ y0 y1 y2, LeO (impl_factorial.l0 k y0 y1 y2) (impl_factorial.l0 (k + 1) y0 y1 y2))
 | 0 => fun _ _ _ r h => by simp [impl_factorial.l0] at h
 | k + 1 => by
  have ih0 := impl_factorial.mono_l k
  ·
   intro y0 y1 y2
   unfold impl_factorial.l0
   repeat' with_reducible first | exact ih0 _ _ _ | exact LeO.refl _ | exact LeO.none _ | refine LeO.ite ?_ ?_ | refine LeO.bind ?_ (fun _ => ?_)
theorem impl_factorial.mono : ∀ a0 k, LeO (impl_factorial.f k a0) (impl_factorial.f (k + 1) a0) := by
 intro a0 k
 have ih0 := impl_factorial.mono_l k
 unfold impl_factorial.f
 repeat' with_reducible first | exact ih0 _ _ _ | exact LeO.refl _ | exact LeO.none _ | refine LeO.ite ?_ ?_ | refine LeO.bind ?_ (fun _ => ?_)
set_option maxHeartbeats 8000000 in
set_option maxRecDepth 100000 in
theorem impl_factorial.calls (k : Nat) (a0 : Int) (r : Int) (w : World) (h : impl_factorial.f k a0 = some r) :
  Calls Try.prog 113 #[.int .i64 a0] w fun e w' => e = .returned (.int .i64 r) ∧ Drawn0 w w' := by
 have H : (impl_factorial.l0 k a0 1 2) = some r := h
 clear h
 have H' := Aside0.mk H
 clear H
 go_enter Try.func113, Try.ntmps113
 go_wp2
 go_loopg [3, 4] k (fun kq v3 v4 w' => ∃ (x3_1 : Int) (x4_1 : Int), v3 = .int .i64 x3_1 ∧ v4 = .int .i64 x4_1 ∧ Aside0 (impl_factorial.l0 kq a0 x3_1 x4_1 = some r) ∧ Aside0 (kq ≤ k) ∧ Drawn0 w w')
 case atStart => exact ⟨(1), (2), (by first | rfl | (simp; done) | (simp [*]; done)), (by first | rfl | (simp; done) | (simp [*]; done)), H', ⟨Nat.le_refl _⟩, by repeat (first | exact Drawn0.refl _ | apply Drawn0.step)⟩
 case round =>
  clear H'
  try clear c1
  obtain ⟨x3_1, x4_1, rfl, rfl, HA, HK1, ⟨m1, rfl⟩⟩ := hrel
  cases gk with
  | zero => exact absurd HA.out (by simp [impl_factorial.l0])
  | succ k1 =>
   have H := HA.out
   clear HA
   simp only [impl_factorial.l0] at H
   by_cases c2 : x4_1 ≤ a0
   ·
    rw [if_pos c2] at H
    have c2b0 : decide (x4_1 ≤ a0) = true := decide_eq_true c2
    clear c2
    have H' := Aside0.mk H
    clear H
    go_wp2
    go_roundg k1
    case measure => have := HK1.out; omega
    case rel => exact ⟨(wrap64 (x3_1 * x4_1)), (wrap64 (x4_1 + 1)), (by first | rfl | (simp; done) | (simp [*]; done)), (by first | rfl | (simp; done) | (simp [*]; done)), H', ⟨by have := HK1.out; omega⟩, by repeat (first | exact Drawn0.refl _ | apply Drawn0.step)⟩
   ·
    rw [if_neg c2] at H
    have c2b0 : decide (x4_1 ≤ a0) = false := decide_eq_false c2
    clear c2
    obtain rfl := Option.some.inj H
    go_wp2
    go_ret
    exact ⟨by first | rfl | (simp; done) | (simp [*]; done), by repeat (first | exact Drawn0.refl _ | apply Drawn0.step)⟩
def slices_Delete_int_int.f (l0 : List Int) (a1 a2 : Int) : Option (List Int) := if 0 ≤ a1 ∧ a1 < a2 ∧ a2 ≤ (l0.length : Int) then some (l0.take a1.toNat ++ l0.drop a2.toNat) else none
def slices_Delete_int_int.ren : Go.Shelf.Ren := { f := fun x => if x = 23 then 127 else x, t := fun x => if x = 3 then 3 else if x = 4 then 4 else if x = 22 then 24 else x, g := fun x => x }
theorem slices_Delete_int_int.lays : Go.Proofs.Lays2.n23 Try.prog slices_Delete_int_int.ren := { mixed := by kernel_rfl, f23 := Try.func127.trans (congrArg some (by kernel_rfl)), t0 := Try.underlying0, a0 := Try.isAgg0, z0 := Try.sizeOf0, v0 := Try.zeroValue0, t3 := Try.underlying3, a3 := Try.isAgg3, z3 := Try.sizeOf3, v3 := Try.zeroValue3, t4 := Try.underlying4, a4 := Try.isAgg4, z4 := Try.sizeOf4, v4 := Try.zeroValue4, t22 := Try.underlying24, a22 := Try.isAgg24, z22 := Try.sizeOf24, v22 := Try.zeroValue24, i3 := by kernel_rfl }
theorem slices_Delete_int_int.calls (P0_ : Nat → Prop) (u9000_ : Value) (l0 : List Int) (a1 : Int) (a2 : Int) (r : List Int) (w0 w : World) (hB : Below w0.heap.size w0 w) (ho0 : Kd.R (Kd.int .i64) 3 w w0.heap.size P0_ u9000_ l0) (h : slices_Delete_int_int.f l0 a1 a2 = some r) :
  Calls Try.prog 127 #[u9000_, .int .i64 a1, .int .i64 a2] w fun e w' => ∃ v0_ : Value, e = .returned (v0_) ∧ Kd.R (Kd.int .i64) 3 w' w0.heap.size (fun k_ => (P0_ k_ ∨ w.heap.size ≤ k_)) v0_ r ∧ Below w0.heap.size w0 w' ∧ Kept w w' (fun k_ => P0_ k_) := by
 unfold slices_Delete_int_int.f at h
 by_cases hc : 0 ≤ a1 ∧ a1 < a2 ∧ a2 ≤ (l0.length : Int)
 case neg => rw [if_neg hc] at h; cases h
 rw [if_pos hc] at h
 obtain rfl := Option.some.inj h
 clear h
 obtain ⟨c1, c2, c3⟩ := hc
 obtain ⟨i, rfl⟩ : ∃ i : Nat, a1 = i := ⟨a1.toNat, by omega⟩
 obtain ⟨j, rfl⟩ : ∃ j : Nat, a2 = j := ⟨a2.toNat, by omega⟩
 simp only [Int.toNat_natCast]
 have own := Kd.own_of_R (enc := Value.int .i64) (h1 := fun _ => rfl) ho0
 rw [show encs (Value.int .i64) l0 = l0.map (Value.int .i64) by simp [encs]] at own
 have hne : u9000_ ≠ .slice none 0 0 := by
  intro e
  rcases own.2 with ⟨_, e2⟩ | ⟨g, cap, cur, e2, _⟩
  ·
   omega
  ·
   rw [e] at e2; cases e2
 obtain ⟨g, cap, rfl, hb, hlt, hn, hm, hl, hH⟩ := Lib.holds_of_ownsRow own hne
 have L := slices_Delete_int_int.lays
 have hm' : cap ≤ 9223372036854775807 := by unfold maxLen at hm; omega
 refine (Any.slices_Delete_int L g 0 cap i j l0 w hH hn hm' (by omega) (by omega)).mono ?_
 rintro e w' ⟨rfl, q, rfl⟩
 have hP : P0_ g := ho0.1 g rfl
 have hy : (l0.take i ++ l0.drop j ++ List.replicate (j - i) (0 : Int)).length = l0.length := by simp; omega
 have hk : l0.length - (j - i) ≤ l0.length := by omega
 have own2 := Lib.ownsRow_putRow (q := q) (k := l0.length - (j - i)) own hy hk
 have ht : (l0.take i ++ l0.drop j ++ List.replicate (j - i) (0 : Int)).take (l0.length - (j - i)) = l0.take i ++ l0.drop j := by
  rw [List.take_append_of_le_length (by simp; omega)]
  exact List.take_of_length_le (by simp; omega)
 rw [ht] at own2
 have hlen : l0.length - (j - i) = (l0.take i ++ l0.drop j).length := by simp; omega
 refine ⟨_, rfl, ?_, Lib.below_putRow hB hb, ?_⟩
 ·
  refine Kd.R_of_own (enc := Value.int .i64) (h1 := fun _ => rfl) ?_ ?_
  ·
   rw [show encs (Value.int .i64) (l0.take i ++ l0.drop j) = (l0.take i ++ l0.drop j).map (Value.int .i64) by simp [encs], ← hlen]
   exact own2
  ·
   intro k hk
   simp [Value.ownBlock] at hk
   subst hk
   exact .inl hP
 ·
  refine ⟨by simp [Sort.putRow, Sort.mapBlock, Sort.ahead], fun k hk hne => ?_⟩
  simp only [Sort.putRow, Sort.mapBlock, Sort.ahead, Array.getElem?_modify]
  rw [if_neg (by intro e; subst e; exact hne hP)]
def impl_orderAt.l0 : Nat → Int → List Int → List Int → Option (List Int)
 | 0, _, _, _ => none
 | k + 1, x1, x5, x6 => if (x5.length : Int) > 0 then ((impl_factorial.f k (wrap64 ((x5.length : Int) - 1))).bind fun t451 => (if t451 = 0 then (none) else (if 0 ≤ (wrap64 (Int.tdiv x1 t451)) then (if (wrap64 (Int.tdiv x1 t451)) < (x5.length : Int) then (if x6.length < 17592186044416 then ((slices_Delete_int_int.f x5 (wrap64 (Int.tdiv x1 t451)) (wrap64 ((wrap64 (Int.tdiv x1 t451)) + 1))).bind fun t456 => (impl_orderAt.l0 k (Int.tmod x1 t451) t456 (x6 ++ [rd x5 (wrap64 (Int.tdiv x1 t451))]))) else (none)) else (none)) else (none)))) else (some x6)
def impl_orderAt.f (k : Nat) (a0 : Int) (a1 : Int) : Option (List Int) := (impl_sorted.f k a0).bind fun t445 => (impl_orderAt.l0 k a1 t445 (([] : List Int)))
theorem impl_orderAt.mono_l : ∀ k, (∀ y0 y1 y2, LeO (impl_orderAt.l0 k y0 y1 y2) (impl_orderAt.l0 (k + 1) y0 y1 y2))
 | 0 => fun _ _ _ r h => by simp [impl_orderAt.l0] at h
 | k + 1 => by
  have ih0 := impl_orderAt.mono_l k
  ·
   intro y0 y1 y2
   unfold impl_orderAt.l0
   repeat' with_reducible first | exact ih0 _ _ _ | exact impl_factorial.mono _ _ | exact impl_sorted.mono _ _ | exact LeO.refl _ | exact LeO.none _ | refine LeO.ite ?_ ?_ | refine LeO.bind ?_ (fun _ => ?_)
theorem impl_orderAt.mono : ∀ a0 a1 k, LeO (impl_orderAt.f k a0 a1) (impl_orderAt.f (k + 1) a0 a1) := by
 intro a0 a1 k
 have ih0 := impl_orderAt.mono_l k
 unfold impl_orderAt.f
 repeat' with_reducible first | exact ih0 _ _ _ | exact impl_factorial.mono _ _ | exact impl_sorted.mono _ _ | exact LeO.refl _ | exact LeO.none _ | refine LeO.ite ?_ ?_ | refine LeO.bind ?_ (fun _ => ?_)
set_option maxHeartbeats 8000000 in
set_option maxRecDepth 100000 in
theorem impl_orderAt.calls (k : Nat) (a0 : Int) (a1 : Int) (r : List Int) (w : World) (h : impl_orderAt.f k a0 a1 = some r) :
  Calls Try.prog 114 #[.int .i64 a0, .int .i64 a1] w fun e w' => ∃ v0_ : Value, e = .returned (v0_) ∧ Kd.R (Kd.int .i64) 3 w' w.heap.size (fun _ => True) v0_ r ∧ Below w.heap.size w w' := by
 have HB := Aside0.mk (Below.refl w.heap.size w)
 have H : ((impl_sorted.f k a0).bind fun t445 => (impl_orderAt.l0 k a1 t445 (([] : List Int)))) = some r := h
 clear h
 replace H := Option.bind_eq_some_iff.mp H
 obtain ⟨t445, A30, H⟩ := H
 (try dsimp only at H)
 have A3 := Aside0.mk A30
 clear A30
 obtain ⟨y448, hy448⟩ : ∃ y_ : List Int, y_ = (([] : List Int)) := ⟨_, rfl⟩
 replace H : (impl_orderAt.l0 k a1 t445 y448) = some r := by first | (rw [hy448]; with_reducible exact H) | (have H2_ := (Option.bind_some _ _).symm.trans H; rw [hy448]; with_reducible exact H2_) | (have H2_ := (Option.bind_some _ _).symm.trans H; with_reducible exact H2_) | with_reducible exact H | (rw [hy448]; exact H) | exact H
 have Ny448 := Aside0.mk hy448
 clear hy448
 have H' := Aside0.mk H
 clear H
 go_enter Try.func114, Try.ntmps114
 go_wp2_with (first | ((with_reducible refine gate_callee (f := 82) rfl ?_); refine goesL_ (some 10) rfl rfl Try.func82 (by kernel_rfl) rfl #[.int .i64 a0] rfl (by (try simp only [List.map_toArray, List.map_cons, List.map_nil]); first | done | rfl | (simp only [List.length_drop, List.length_take]; rfl)) ?_; (with_reducible refine (impl_sorted.calls k a0 t445 _ A3.out).mono ?_); rintro e w4 ⟨v446, rfl, ho0, hb⟩; refine ⟨_, rfl, ?_⟩; have n0_ := Aside0.mk (Kd.R_lower ho0 (below_size (by repeat (first | (with_reducible first | exact HB.out | apply below_alloc | apply pw_below_drewN | apply below_drew1) | exact HB.out)))); have n1_ := Aside0.mk (below_step (by repeat (first | (with_reducible first | exact HB.out | apply below_alloc | apply pw_below_drewN | apply below_drew1) | exact HB.out)) hb); clear HB; have HO447 := n0_; have HB := n1_; clear n0_ n1_; (try clear hb); (try clear hb2); (try clear hk); (try clear hi); (try clear ho0)) | ((with_reducible refine gate_dst (N := 11) rfl ?_); refine Kd.R_lit (Kd.int .i64) _ 3 ?hg (N := 11) ?hd (xs := ([] : List Int)) (inner := []) (ok := fun _ => True) (okp := fun _ => True) ?hr ?hp (fun _ hk => hk) trivial (Below.refl _ _) (Nat.le_refl _) (by simp) ?_; (case hd => rfl); (case hg => rfl); (case hr => first | (go_simp; done) | (go_simp; rfl)); (case hp => exact (Reps.none _ _)); intro v449 w5 ho6 hb hg_ hnew_; clear hg_ hnew_; (first | rw [← Ny448.out] at ho6 | (simp only [Int.reduceToNat] at ho6; rw [← Ny448.out] at ho6)); have n0_ := Aside0.mk (Kd.R_elder' (by (with_reducible repeat (first | apply Kd.R_alloc | apply Kd.R_drewN | apply Kd.R_drew)); exact HO447.out) (Kd.R_base ho6) hb); have n1_ := Aside0.mk (Kd.R_lower (Kd.R_new' ho6 (Kd.R_lt (by (with_reducible repeat (first | apply Kd.R_alloc | apply Kd.R_drewN | apply Kd.R_drew)); exact HO447.out))) (below_size (by repeat (first | (with_reducible first | exact HB.out | apply below_alloc | apply pw_below_drewN | apply below_drew1) | exact HB.out)))); have n2_ := Aside0.mk (below_step (by repeat (first | (with_reducible first | exact HB.out | apply below_alloc | apply pw_below_drewN | apply below_drew1) | exact HB.out)) hb); clear HO447; clear HB; have HO447 := n0_; have HO450 := n1_; have HB := n2_; clear n0_ n1_ n2_; clear hb ho6))
 go_loopg [1, 5, 6] k (fun kq v1 v5 v6 w' => ∃ (x1_1 : Int) (x5_1 : List Int) (x6_1 : List Int), v1 = .int .i64 x1_1 ∧ Aside0 (impl_orderAt.l0 kq x1_1 x5_1 x6_1 = some r) ∧ Aside0 (kq ≤ k) ∧ Aside0 (Kd.R (Kd.int .i64) 3 w' w.heap.size (fun k_ => some k_ ≠ (v6 : Value).ownBlock) v5 x5_1) ∧ Aside0 (Kd.R (Kd.int .i64) 3 w' w.heap.size (fun k_ => some k_ ≠ (v5 : Value).ownBlock) v6 x6_1) ∧ Aside0 (Below w.heap.size w w'))
 case atStart => exact ⟨(a1), (t445), (y448), (by first | rfl | (simp; done) | (simp [*]; done)), H', ⟨Nat.le_refl _⟩, ⟨by (with_reducible repeat (first | apply Kd.R_alloc | apply Kd.R_drewN | apply Kd.R_drew)); exact Kd.R_mono HO447.out (fun _ hk => hk.2)⟩, ⟨by (with_reducible repeat (first | apply Kd.R_alloc | apply Kd.R_drewN | apply Kd.R_drew)); exact Kd.R_mono HO450.out (fun _ hk => hk.2)⟩, ⟨by repeat (first | (with_reducible first | exact HB.out | apply below_alloc | apply pw_below_drewN | apply below_drew1) | exact HB.out)⟩⟩
 case round =>
  clear H'
  try clear c1
  try clear p2
  obtain ⟨x1_1, x5_1, x6_1, rfl, HA, HK1, HO_5, HO_6, HB⟩ := hrel
  cases gk with
  | zero => exact absurd HA.out (by simp [impl_orderAt.l0])
  | succ k1 =>
   have H := HA.out
   clear HA
   simp only [impl_orderAt.l0] at H
   by_cases c7 : (x5_1.length : Int) > 0
   ·
    rw [if_pos c7] at H
    have c7b0 : decide (0 < (x5_1.length : Int)) = true := decide_eq_true c7
    have c7b1 : decide (0 < x5_1.length) = true := decide_eq_true (by omega)
    clear c7
    replace H := Option.bind_eq_some_iff.mp H
    obtain ⟨t451, A80, H⟩ := H
    (try dsimp only at H)
    have A8 := Aside0.mk A80
    clear A80
    by_cases c9 : t451 = 0
    ·
     rw [if_pos c9] at H
     exact absurd H (by simp)
    ·
     rw [if_neg c9] at H
     have c9b0 : (t451 == 0) = false := beq_eq_false_iff_ne.mpr c9
     have c9b1 : (t451 != 0) = true := bne_iff_ne.mpr c9
     obtain ⟨ji10, hji10⟩ : ∃ j_ : Int, (wrap64 (Int.tdiv x1_1 t451)) = j_ := ⟨_, rfl⟩
     replace H : (if 0 ≤ (ji10) then (if (ji10) < (x5_1.length : Int) then (if x6_1.length < 17592186044416 then ((slices_Delete_int_int.f x5_1 (ji10) (wrap64 ((ji10) + 1))).bind fun t456 => (impl_orderAt.l0 k1 (Int.tmod x1_1 t451) t456 (x6_1 ++ [rd x5_1 (ji10)]))) else (none)) else (none)) else (none)) = some r := by first | (rw [hji10] at H; exact H) | (simp only [hji10] at H ⊢; exact H)
     (try rw [hji10] at A8)
     have hji10w : (IntKind.i64.wrap (Int.tdiv x1_1 t451)) = ji10 := (i64_w _).trans hji10
     by_cases c11 : 0 ≤ (ji10)
     ·
      rw [if_pos c11] at H
      have c11b0 : decide (0 ≤ (ji10)) = true := decide_eq_true c11
      clear c11
      by_cases c12 : (ji10) < (x5_1.length : Int)
      ·
       rw [if_pos c12] at H
       have c12b0 : decide ((ji10) < (x5_1.length : Int)) = true := decide_eq_true c12
       clear c12
       by_cases c13 : x6_1.length < 17592186044416
       ·
        rw [if_pos c13] at H
        have LMc13 := Aside0.mk c13
        clear c13
        obtain ⟨y453, hy453⟩ : ∃ y_ : List Int, y_ = (x6_1 ++ [rd x5_1 (ji10)]) := ⟨_, rfl⟩
        replace H : ((slices_Delete_int_int.f x5_1 (ji10) (wrap64 ((ji10) + 1))).bind fun t456 => (impl_orderAt.l0 k1 (Int.tmod x1_1 t451) t456 y453)) = some r := by first | (rw [hy453]; with_reducible exact H) | (have H2_ := (Option.bind_some _ _).symm.trans H; rw [hy453]; with_reducible exact H2_) | (have H2_ := (Option.bind_some _ _).symm.trans H; with_reducible exact H2_) | with_reducible exact H | (rw [hy453]; exact H) | exact H
        have Ny453 := Aside0.mk hy453
        clear hy453
        replace H := Option.bind_eq_some_iff.mp H
        obtain ⟨t456, A140, H⟩ := H
        (try dsimp only at H)
        have A14 := Aside0.mk A140
        clear A140
        have H' := Aside0.mk H
        clear H
        obtain ⟨Ao15, co15, eo15⟩ := Kd.R_slice HO_5.out
        subst eo15
        go_wp2_with (first | ((with_reducible refine gate_callee (f := 113) rfl ?_); refine goesL_ (some 18) rfl rfl Try.func113 (by kernel_rfl) rfl #[.int .i64 (wrap64 ((x5_1.length : Int) - 1))] rfl (by (try simp only [List.map_toArray, List.map_cons, List.map_nil]); first | done | rfl | (simp only [List.length_drop, List.length_take]; rfl)) ?_; (with_reducible refine (impl_factorial.calls k1 (wrap64 ((x5_1.length : Int) - 1)) t451 _ A8.out).mono ?_); rintro e w' ⟨rfl, ⟨nd, rfl⟩⟩; refine ⟨_, rfl, ?_⟩; have p452 : 0 ≤ ((ji10) : Int) := of_decide_eq_true (by first | (with_reducible assumption) | assumption); have q452 : (ji10) < (x5_1.length : Int) := of_decide_eq_true (by first | (with_reducible assumption) | assumption); obtain ⟨ad452, e452, hx452_0⟩ := Kd.at_int (Kd.R_reads' HO_5.out).2.2 (ji10) p452 q452; cases e452; replace p452 := eq_true p452; replace q452 := eq_true q452) | ((with_reducible refine gate_builtin (b := .append) (xs := #[.tmp 25, .tmp 30]) rfl ?_); at_builtin; refine Kd.R_append (Kd.int .i64) (w0 := w) w.heap.size rfl (.tmp 25) (.tmp 30) 24 3 (.int .i64 0) 8 rfl Try.underlying24 info3 rfl (by decide) (by omega) u6 x6_1 (rd x5_1 (ji10)) [.int .i64 (rd x5_1 (ji10))] (fun k_ => some k_ ≠ (.slice (some ad452) x5_1.length co15 : Value).ownBlock) (fun _ => False) rfl rfl ?aP (fun _ hk => hk.elim) ?aF ?aO ?aB ?aS ?aL ?_; (case aP => exact rfl); (case aB => exact (by repeat (first | (with_reducible first | exact HB.out | apply below_alloc | apply pw_below_drewN | apply below_drew1) | exact HB.out))); (case aF => exact (fun k_ hk => Kd.fresh' (Kd.R_lt (by (with_reducible repeat (first | apply Kd.R_alloc | apply Kd.R_drewN | apply Kd.R_drew)); exact HO_5.out)) k_ hk)); (case aO => exact (by (with_reducible repeat (first | apply Kd.R_alloc | apply Kd.R_drewN | apply Kd.R_drew)); exact HO_6.out)); (case aS => exact (below_size (by repeat (first | (with_reducible first | exact HB.out | apply below_alloc | apply pw_below_drewN | apply below_drew1) | exact HB.out)))); (case aL => have := LMc13.out; omega); intro v454 w16 ho hb hg hat; rw [← Ny453.out] at ho; have n0_ := Aside0.mk (Kd.R_after (ok := (fun _ => True)) (by (with_reducible repeat (first | apply Kd.R_alloc | apply Kd.R_drewN | apply Kd.R_drew)); exact Kd.R_mono HO_5.out (fun _ hk => ⟨trivial, hk⟩)) hg hat); have n1_ := Aside0.mk (hb); have n2_ := Aside0.mk (ho); clear HO_5; clear HB; clear HO_6; have HO_5 := n0_; have HB := n1_; have HO455 := n2_; clear n0_ n1_ n2_; clear ho hb hg hat) | ((with_reducible refine gate_callee (f := 127) rfl ?_); refine goesL_ (some 36) rfl rfl Try.func127 (by kernel_rfl) rfl #[.slice (some ad452) x5_1.length co15, .int .i64 ji10, .int .i64 (wrap64 ((ji10) + 1))] rfl (by (try simp only [List.map_toArray, List.map_cons, List.map_nil]); first | done | (simp only [hji10]; rfl) | rfl | (simp only [List.length_drop, List.length_take]; rfl)) ?_; (with_reducible refine (slices_Delete_int_int.calls (fun k_ => some k_ = (.slice (some ad452) x5_1.length co15 : Value).ownBlock) (.slice (some ad452) x5_1.length co15) x5_1 ji10 (wrap64 ((ji10) + 1)) t456 w _ ?side1 ?side2 A14.out).mono ?_); (case side1 => repeat (first | (with_reducible first | exact HB.out | apply below_alloc | apply pw_below_drewN | apply below_drew1) | exact HB.out)); (case side2 => exact Kd.R_tight rfl HO_5.out); rintro e w17 ⟨v457, rfl, ho0, hb, hkp⟩; refine ⟨_, rfl, ?_⟩; have n0_ := Aside0.mk (Kd.R_mono (ok' := fun k_ => some k_ ≠ (v457 : Value).ownBlock) (Kd.R_keptB (HO455.out) hkp (fun k_ hk_ hs_ => (hk_) hs_)) (fun k_ hk_ => fun e_ => Or.elim (ho0.1 k_ e_.symm) (fun hs_ => hk_.2.1 hs_) (fun hn_ => Nat.not_le.2 hk_.2.2 hn_))); have n1_ := Aside0.mk (Kd.R_mono (ok' := fun k_ => some k_ ≠ (v454 : Value).ownBlock) ho0 (fun k_ hk_ => Or.elim hk_ (fun hs_ => fun e_ => (((HO455.out).1 k_ e_.symm)) hs_) (fun hn_ => (Kd.fresh' (Kd.R_lt (by (with_reducible repeat (first | apply Kd.R_alloc | apply Kd.R_drewN | apply Kd.R_drew)); exact HO455.out)) k_ hn_)))); have n2_ := Aside0.mk (hb); clear HO455; clear HB; clear HO_5; have HO455 := n0_; have HO458 := n1_; have HB := n2_; clear n0_ n1_ n2_; (try clear hb); (try clear hkp); (try clear ho0)))
        go_roundg k1
        case measure => have := HK1.out; omega
        case rel => exact ⟨(Int.tmod x1_1 t451), (t456), (y453), (by first | rfl | (simp; done) | (simp [*]; done)), (by first | exact H' | (rw [hji10]; exact H') | (rw [← hji10]; exact H')), ⟨by have := HK1.out; omega⟩, ⟨by (with_reducible repeat (first | apply Kd.R_alloc | apply Kd.R_drewN | apply Kd.R_drew)); exact HO458.out⟩, ⟨by (with_reducible repeat (first | apply Kd.R_alloc | apply Kd.R_drewN | apply Kd.R_drew)); exact HO455.out⟩, ⟨by repeat (first | (with_reducible first | exact HB.out | apply below_alloc | apply pw_below_drewN | apply below_drew1) | exact HB.out)⟩⟩
       ·
        rw [if_neg c13] at H
        exact absurd H (by simp)
      ·
       rw [if_neg c12] at H
       exact absurd H (by simp)
     ·
      rw [if_neg c11] at H
      exact absurd H (by simp)
   ·
    rw [if_neg c7] at H
    have c7b0 : decide (0 < (x5_1.length : Int)) = false := decide_eq_false c7
    have c7b1 : decide (0 < x5_1.length) = false := decide_eq_false (by omega)
    clear c7
    obtain rfl := Option.some.inj H
    obtain ⟨Ao18, co18, eo18⟩ := Kd.R_slice HO_5.out
    subst eo18
    go_wp2
    go_ret
    exact ⟨_, by first | rfl | (simp [errW_none, errW_some] <;> rfl) | (simp [*, errW_none, errW_some] <;> rfl), by (with_reducible repeat (first | apply Kd.R_alloc | apply Kd.R_drewN | apply Kd.R_drew)); exact Kd.R_mono HO_6.out (fun _ hk => trivial), by repeat (first | (with_reducible first | exact HB.out | apply below_alloc | apply pw_below_drewN | apply below_drew1) | exact HB.out)⟩
end Go.Proofs.Ytbnieikbjmfhgaa.PFnFalls
