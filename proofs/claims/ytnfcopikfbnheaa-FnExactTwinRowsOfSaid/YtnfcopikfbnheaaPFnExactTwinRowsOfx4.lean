-- laid by mkprint.py, a program of this claim's writer, over the kit's print program; parts of it are typed by hand
import Derived.Test.YtnfcopikfbnheaaPFnExactTwinRowsOfx0
import Derived.Test.YtnfcopikfbnheaaPFnExactTwinRowsOfx2
import Derived.Test.YtnfcopikfbnheaaPFnExactTwinRowsOfx3
namespace Go.Proofs.Ytnfcopikfbnheaa.PFnExactTwinRowsOf
open Go.RowKit Go.Proofs.YtnfcopikfbnheaaW.PrintWords Go.Proofs.YtnfcopikfbnheaaW.PrintLast Go.Proofs.YtnfcopikfbnheaaW.PrintMore
attribute [local go_sem] max2_int min2_int max_two min_two max_three min_three max_four min_four   -- for this text's walks alone
set_option linter.unusedVariables false
set_option linter.unusedSimpArgs false

/-! ### spec_l5Rows: function 62 -/
theorem rwspecI : (Try.prog.info? 3).map (fun i => (i.zero, i.size, i.bytes)) = some (some (.int .i64 0), 1, 8) := by kernel_rfl
theorem rwspecS : (Try.prog.info? 25).map (fun i => (i.zero, i.size, i.bytes)) = some (some (.slice none 0 0), 1, 24) := by kernel_rfl
def l5RowsGo (k : Nat) (o : List Int) : Nat → Nat → List (List Int) → List (List Int) → Option (List (List Int) × List (List Int))
  | 0, _, xs, ys => some (xs, ys)
  | d + 1, i, xs, ys => (spec_l5Insert.f k xs (rd o (i : Int))).bind fun t => if (ys.length < 1000000 ∧ (∀ y ∈ ys, y.length < 1000000)) ∧ (0 ≤ t.2 ∧ t.2 ≤ (ys.length : Int)) then l5RowsGo k o d (i + 1) t.1 (if t.2 = (ys.length : Int) then ys ++ [[(i : Int) + 1]] else ys.set t.2.toNat (ys.getD t.2.toNat [] ++ [(i : Int) + 1])) else none
def spec_l5Rows.f (k : Nat) (l0 : List Int) : Option (List (List Int) × List (List Int)) := if l0.length ≤ 1000000 then l5RowsGo k l0 l0.length 0 [] [] else none
theorem l5RowsGo_mono (o : List Int) (k : Nat) : ∀ d i xs ys, LeO (l5RowsGo k o d i xs ys) (l5RowsGo (k + 1) o d i xs ys)
  | 0, _, _, _ => LeO.refl _
  | d + 1, i, xs, ys => by
    rw [l5RowsGo, l5RowsGo]
    exact LeO.bind (spec_l5Insert.mono _ _ _) (fun t => LeO.ite (l5RowsGo_mono o k d _ _ _) (LeO.none _))
theorem spec_l5Rows.mono : ∀ a0 k, LeO (spec_l5Rows.f k a0) (spec_l5Rows.f (k + 1) a0) := fun _ _ => LeO.ite (l5RowsGo_mono _ _ _ _ _ _) (LeO.none _)
set_option maxHeartbeats 8000000 in
set_option maxRecDepth 100000 in
theorem spec_l5Rows.calls (k : Nat) (A0 : Option Addr) (c0 : Nat) (l0 : List Int) (r : List (List Int) × List (List Int)) (w : World) (hr0 : Kd.C (Kd.int .i64) w A0 l0.length l0) (hc0 : l0.length ≤ c0) (h : spec_l5Rows.f k l0 = some r) :
    Calls Try.prog 62 #[.slice A0 l0.length c0] w fun e w' => ∃ v u : Value, e = .returned (.tuple #[v, u]) ∧ Two .i64 3 25 w' w.heap.size v r.1 u r.2 ∧ Below w.heap.size w w' := by
  unfold spec_l5Rows.f at h
  by_cases hl : l0.length ≤ 1000000
  case neg => rw [if_neg hl] at h; cases h
  rw [if_pos hl] at h
  have HL := Aside0.mk hl
  have HF := Aside0.mk h
  have HR0 := Aside0.mk hr0
  have HC0 := Aside0.mk hc0
  have HB := Aside0.mk (Below.refl w.heap.size w)
  clear hl h hr0 hc0
  go_enter Try.func62, Try.ntmps62
  (repeat ((fail_if_success (with_reducible refine gate_dst (N := 9) rfl ?_)); first | go_values | go_skip | go_guarded | go_step | go_upon))
  refine Kd.S_lit (Kd.slice 3 (Kd.int .i64)) (w0 := w) w.heap.size 25 ?hg (N := 9) ?hd (xs := ([] : List (List Int))) (inner := []) (ok := (fun _ => True)) (okp := fun _ => False) ?hr (Reps.none _ _) (fun _ hk => hk.elim) ?hF HB.out HB.out.size (by simp) ?_
  case hd => rfl
  case hg => rfl
  case hr => first | (go_simp; done) | (go_simp; rfl)
  case hF => first | trivial | exact Nat.le_refl _
  intro v9 w1 hs9 hb_ hg_ hn_
  have HS9 := Aside0.mk (Kd.S_mono (Kd.S_bound hs9) (fun q_ h_ => show q_ < w1.heap.size from h_.2.2.1))
  clear HB hs9 hg_ hn_
  have HB := Aside0.mk hb_
  clear hb_
  (repeat ((fail_if_success (with_reducible refine gate_dst (N := 10) rfl ?_)); first | go_values | go_skip | go_guarded | go_step | go_upon))
  refine Kd.S_lit (Kd.slice 3 (Kd.int .i64)) (w0 := w) w.heap.size 25 ?hg (N := 10) ?hd (xs := ([] : List (List Int))) (inner := []) (ok := (fun q_ => w1.heap.size ≤ q_)) (okp := fun _ => False) ?hr (Reps.none _ _) (fun _ hk => hk.elim) ?hF HB.out HB.out.size (by simp) ?_
  case hd => rfl
  case hg => rfl
  case hr => first | (go_simp; done) | (go_simp; rfl)
  case hF => first | trivial | exact Nat.le_refl _
  intro v10 w2 hs10 hb_ hg_ hn_
  have HT := Aside0.mk (show Two .i64 3 25 w2 w.heap.size v9 [] v10 [] from ⟨_, _, Kd.S_grown HS9.out hg_ (fun _ _ he_ => by cases he_), hs10, fun q_ h1_ h2_ => by omega⟩)
  clear HB HS9 hs10 hg_ hn_
  have HB := Aside0.mk hb_
  clear hb_
  go_wp2
  go_loopg [4, 5, 6] l0.length (fun kq v4 v5 vi w' => ∃ (i : Nat) (xs ys : List (List Int)) (vr vt : Value), v4 = vr ∧ v5 = vt ∧ vi = .int .i64 (i : Int) ∧ Aside0 (i + kq = l0.length) ∧ Aside0 (l5RowsGo k l0 kq i xs ys = some r) ∧ Aside0 (Two .i64 3 25 w' w.heap.size vr xs vt ys) ∧ Aside0 (Below w.heap.size w w'))
  case atStart => exact ⟨0, [], [], v9, v10, rfl, rfl, rfl, ⟨by omega⟩, HF, HT, HB⟩
  case round =>
    clear HF HT HB
    obtain ⟨i, xs, ys, vr, vt, rfl, rfl, rfl, HI, HA, HT, HB⟩ := hrel
    cases gk with
    | zero =>
      have c1 : decide (i < l0.length) = false := decide_eq_false (by have := HI.out; omega)
      obtain rfl := Option.some.inj (show some (xs, ys) = some r from HA.out)
      clear HA
      go_wp2
      go_ret2
      exact ⟨_, _, rfl, HT.out, HB.out⟩
    | succ d =>
      have c1 : decide (i < l0.length) = true := decide_eq_true (by have := HI.out; omega)
      have p1 : (i < l0.length) = True := eq_true (by have := HI.out; omega)
      obtain ⟨nn, hnn⟩ : ∃ n : Int, rd l0 (i : Int) = n := ⟨_, rfl⟩
      have hA := HA.out
      rw [l5RowsGo, hnn] at hA
      obtain ⟨⟨xs2, j0⟩, h1, hA2⟩ := Option.bind_eq_some_iff.1 hA
      have HIN := Aside0.mk h1
      clear hA HA h1
      by_cases hok : (ys.length < 1000000 ∧ (∀ y ∈ ys, y.length < 1000000)) ∧ (0 ≤ j0 ∧ j0 ≤ (ys.length : Int))
      case neg => rw [if_neg hok] at hA2; cases hA2
      rw [if_pos hok] at hA2
      obtain ⟨j, hj⟩ : ∃ j : Nat, j0 = (j : Int) := ⟨j0.toNat, by omega⟩
      subst hj
      simp only [Int.toNat_natCast] at hA2
      have HOK := Aside0.mk hok
      have HA := Aside0.mk hA2
      clear hok hA2
      obtain ⟨A0', e0_, x0⟩ : ∃ ad, A0 = some ad ∧ wr.cell? (ad.add i) = some (.int .i64 nn) := by
          obtain ⟨ad, e_, hc_⟩ := Kd.at_int (Kd.C_below HR0.out HB.out) (i : Int) (by omega) (by have := HI.out; omega)
          rw [hnn, Int.toNat_natCast] at hc_
          exact ⟨ad, e_, hc_⟩
      subst e0_
      clear hnn
      obtain ⟨P1, Q1, hS1, hS2, hdis⟩ := HT.out
      obtain ⟨Ar, cr, er_⟩ := Kd.S_slice hS1
      subst er_
      obtain ⟨At, ct, et_⟩ := Kd.S_slice hS2
      subst et_
      have HS1 := Aside0.mk hS1
      have HS2 := Aside0.mk hS2
      have HDI := Aside0.mk hdis
      clear HT hS1 hS2 hdis
      (repeat ((fail_if_success (with_reducible refine gate_dst (N := 23) rfl ?_)); first | go_values | go_skip | go_guarded | go_step | go_upon))
      refine goesL_ (some 23) rfl rfl Try.func98 (by kernel_rfl) rfl #[.slice Ar xs.length cr, .int .i64 nn] rfl (by (try simp only [List.map_toArray, List.map_cons, List.map_nil]); first | done | rfl) ?_
      refine (spec_l5Insert.calls k Ar cr xs nn xs2 (j : Int) wr (Kd.S_reads' HS1.out).2.2 (Kd.S_reads' HS1.out).2.1 HIN.out).mono ?_
      rintro e w3 ⟨v3, rfl, hs_, hbn_⟩
      refine ⟨_, rfl, ?_⟩
      have hb_ := below_then HB.out HB.out.size hbn_
      have HT := Aside0.mk (show Two .i64 3 25 w3 w.heap.size v3 xs2 (.slice At ys.length ct) ys from Two.one (P := fun _ => False) HS2.out (fun _ h_ => h_.elim) (Kd.S_lower (Kd.S_mono (Kd.S_bound hs_) (fun q_ h_ => .inr h_.2.1)) HB.out.size) (Kept.of_below hbn_ _))
      clear hbn_
      have nB := Aside0.mk hb_
      clear HB HS1 HS2 HDI HIN hs_ hb_ x0
      have HB := nB
      clear nB
      obtain ⟨P2, Q2, hS1, hS2, hdis⟩ := HT.out
      obtain ⟨A3, c3, e3_⟩ := Kd.S_slice hS1
      subst e3_
      have HS1 := Aside0.mk hS1
      have HS2 := Aside0.mk hS2
      have HDI := Aside0.mk hdis
      clear HT hS1 hS2 hdis
      have hA := HA.out
      clear HA
      by_cases hje : (j : Int) = (ys.length : Int)
      · skip
        rw [if_pos hje] at hA
        have d1 : ((j : Int) == (ys.length : Int)) = true := beq_iff_eq.mpr hje
        have d2 : (j == ys.length) = true := beq_iff_eq.mpr (by omega)
        have HJE := Aside0.mk (show j = ys.length by omega)
        have HA := Aside0.mk hA
        clear hA hje
        (repeat ((fail_if_success (with_reducible refine gate_dst (N := 32) rfl ?_)); first | go_values | go_skip | go_guarded | go_step | go_upon))
        refine Kd.R_lit (Kd.int .i64) (w0 := w) w.heap.size 3 ?hg (N := 32) ?hd (xs := ([] : List Int)) (inner := []) (ok := fun _ => True) (okp := fun _ => True) ?hr (Reps.none _ _) (fun _ hk => hk) trivial HB.out HB.out.size (by simp) ?_
        case hd => rfl
        case hg => rfl
        case hr => first | (go_simp; done) | (go_simp; rfl)
        intro v32 w4 ho hb5 hg5 hn5
        obtain ⟨A32, c32, ev_⟩ := Kd.R_slice ho
        rw [List.length_nil] at ev_
        subst ev_
        have hbl_ : Below w3.heap.size w3 w4 := ⟨hg5.os, hg5.tape, hg5.output, hg5.size, fun q_ hq_ => hg5.block q_ hq_ (by simp)⟩
        have HN5 := Aside0.mk hn5
        have HR5 := Aside0.mk ho
        have HSZ := Aside0.mk hg5.size
        have nHS1_ := Aside0.mk (Kd.S_below (Kd.S_bound HS1.out) hbl_)
        have nHS2_ := Aside0.mk (Kd.S_below (Kd.S_bound HS2.out) hbl_)
        have nHB_ := Aside0.mk (hb5)
        clear HS1 HS2 HB
        have HS1 := nHS1_
        have HS2 := nHS2_
        have HB := nHB_
        clear nHS1_ nHS2_ nHB_
        clear hb5 hg5 hn5 ho hbl_
        (repeat ((fail_if_success (with_reducible refine gate_dst (N := 34) rfl ?_)); first | go_values | go_skip | go_guarded | go_step | go_upon))
        at_builtin
        refine Kd.S_append (Kd.slice 3 (Kd.int .i64)) (w0 := w) w.heap.size rfl (.tmp 31) (.tmp 33) 26 25 (.slice none 0 0) 24 rfl Try.underlying26 rwspecS rfl (by decide) (by omega) (.slice At ys.length ct) ys [] [.slice A32 0 c32] (fun q_ => Q2 q_ ∨ w3.heap.size ≤ q_) (fun q_ => some q_ = (.slice A32 0 c32 : Value).ownBlock) rfl rfl ?aP ?aK ?aF ?aO ?aB ?aS ?aL ?_
        case aP => exact ⟨.slice A32 0 c32, rfl, Kd.R_tight rfl HR5.out⟩
        case aK => exact fun q_ hq_ => by obtain ⟨b_, h1_, h2_⟩ := HN5.out; rw [h1_] at hq_; injection hq_ with hq_; subst hq_; exact ⟨.inr h2_, fun he_ => by have h3_ := (Kd.S_R HS2.out).1 q_ he_.symm; have h4_ := h3_.2.2.1; omega⟩
        case aF => exact fun q_ hq_ => .inr (Nat.le_trans HSZ.out hq_)
        case aO => exact Kd.S_mono HS2.out (fun q_ hq_ => ⟨.inl hq_.1, fun he_ => by obtain ⟨b_, h1_, h2_⟩ := HN5.out; rw [h1_] at he_; injection he_ with he_; have h4_ := hq_.2.2.1; omega⟩)
        case aB => exact HB.out
        case aS => exact HB.out.size
        case aL => have h1_ := HOK.out.1.1; omega
        intro v5_ w5 hs6 hb6 hg6 hat6
        have HT := Aside0.mk (Two.swap ⟨fun q_ => Q2 q_ ∨ w3.heap.size ≤ q_, fun q_ => P2 q_ ∧ q_ < w3.heap.size, hs6, Kd.S_mono (Kd.S_grown HS1.out hg6 (fun q_ hq_ he_ => HDI.out q_ hq_.1 ((Kd.S_R HS2.out).1 q_ he_.symm).1)) (fun q_ hq_ => ⟨hq_.1, hq_.2.2.1⟩), fun q_ h1_ h2_ => by rcases h1_ with h1_ | h1_; exact HDI.out q_ h2_.1 h1_; have := h2_.2; omega⟩)
        have nB := Aside0.mk hb6
        obtain ⟨A5, c5, e5_⟩ := Kd.S_slice hs6
        rw [List.length_append, List.length_singleton] at e5_
        subst e5_
        clear HB HS1 HS2 HDI hs6 hb6 hg6 hat6
        have HB := nB
        clear nB
        obtain ⟨P2, Q2, hS1, hS2, hdis⟩ := HT.out
        have HS1 := Aside0.mk hS1
        have HS2 := Aside0.mk hS2
        have HDI := Aside0.mk hdis
        clear HT hS1 hS2 hdis
        have hjl : j < (ys ++ [[]]).length := by rw [List.length_append, List.length_singleton]; have := HJE.out; omega
        obtain ⟨g, cap, eV⟩ := Kd.S_formed HS2.out (by omega)
        injection eV with eA eN eC
        subst eA eC
        clear eN
        obtain ⟨hN_, hgok, hgb, cur, vj, hblk, hcs, hcap, hcj, hrow⟩ := Kd.S_rowAt HS2.out hjl
        clear hN_
        obtain ⟨Aj, cj, ej⟩ := Kd.R_slice hrow
        subst ej
        obtain ⟨row, hrw⟩ : ∃ row, (ys ++ [[]]).getD j [] = row := ⟨_, rfl⟩
        rw [hrw] at hrow hcj
        have xj : w5.cell? ⟨g, j, none⟩ = some (.slice Aj row.length cj) := (blk_cell hblk j).trans hcj
        have HBL := Aside0.mk hblk
        have HCJ := Aside0.mk hcj
        have HRW := Aside0.mk hrow
        have HGO := Aside0.mk (And.intro hgok hgb)
        have HJL := Aside0.mk hjl
        have HCC := Aside0.mk (And.intro hcs hcap)
        have HRL := Aside0.mk (show row.length < 1000000 from by rw [← hrw, HJE.out]; simp)
        have HYR := Aside0.mk hrw
        have p7 : (j < ys.length + 1) = True := eq_true (by have h_ := hjl; (try rw [List.length_append, List.length_singleton] at h_); exact h_)
        have p8 : (j ≤ ys.length) = True := eq_true (by have h_ := hjl; (try rw [List.length_append, List.length_singleton] at h_); omega)
        have p9 : ((j : Int) < (ys.length : Int) + 1) = True := eq_true (by have h_ := hjl; (try rw [List.length_append, List.length_singleton] at h_); omega)
        clear hrw hgok hgb hblk hcj hrow hjl hcs hcap
        have zi := wup_ i (by have := HI.out; have := HL.out; omega)
        (repeat ((fail_if_success (with_reducible refine gate_dst (N := 44) rfl ?_)); first | go_values | go_skip | go_guarded | go_step | go_upon))
        at_builtin
        refine Kd.R_append (Kd.int .i64) (w0 := w) w.heap.size rfl (.tmp 40) (.tmp 43) 25 3 (.int .i64 0) 8 rfl Try.underlying25 rwspecI rfl (by decide) (by omega) (.slice Aj row.length cj) row ((i : Int) + 1) [.int .i64 ((i : Int) + 1)] (fun _ => True) (fun _ => False) rfl rfl ?aP (fun _ hk => hk.elim) (fun _ _ => trivial) ?aO ?aB ?aS ?aL ?_
        case aP => exact rfl
        case aO => exact Kd.R_mono HRW.out (fun _ _ => trivial)
        case aB => exact HB.out
        case aS => exact HB.out.size
        case aL => have h1_ := HRL.out; omega
        intro vA wA ho hb_ hg_ hat_
        obtain ⟨AA, cA, ev_⟩ := Kd.R_slice ho
        rw [List.length_append, List.length_singleton] at ev_
        subst ev_
        have nL := Aside0.mk (blk_grown HBL.out hg_ (fun he_ => (HRW.out.1 g he_.symm).2 rfl))
        have HR5 := Aside0.mk ho
        have HG5 := Aside0.mk hg_
        have HA5 := Aside0.mk hat_
        have nB := Aside0.mk hb_
        have n1 := Aside0.mk (Kd.S_grown HS1.out hg_ (fun q_ hq_ he_ => HDI.out q_ hq_ (HRW.out.1 q_ he_.symm).1))
        clear HB ho hb_ hg_ hat_ xj
        have HB := nB
        clear nB
        (repeat ((fail_if_success (with_reducible refine gate_store (t := 25) (p := 45) rfl ?_)); first | go_values | go_skip | go_guarded | go_step | go_upon))
        refine put_event (by rfl) (by rfl) (t := 25) (p := .tmp 45) (by rfl) (g := _) (off := j) (cur.setIfInBounds j (.slice AA (row.length + 1) cA)) ([.slice AA (row.length + 1) cA]) (by rfl) (by rfl) nL.out (by rfl) (by first | rfl | decide) (one_one (by rfl)) ?hfit ?hc ?_
        case hfit => show j + 1 ≤ cur.size; have h1_ := HCC.out; have h2_ := HJL.out; (try simp only [List.length_append, List.length_singleton] at h1_ h2_); omega
        case hc => exact set_toList _ _ _ (by have h1_ := HCC.out; have h2_ := HJL.out; (try simp only [List.length_append, List.length_singleton] at h1_ h2_); omega)
        intro wB hw_ hgr_
        have hS6 := Kd.S_upd HS2.out HBL.out HJL.out HCJ.out HR5.out HG5.out HA5.out hw_ hgr_
        have hB6 := pw_below_grown HB.out _ HB.out.size hgr_ (fun q_ he_ => by rw [← Option.some.inj he_]; exact HGO.out.2)
        have hK6 : Kept w5 wB Q2 := (kept_of_grown HG5.out (fun q_ hq_ => (HRW.out.1 q_ hq_).1)).of_grown hgr_ (fun q_ hq_ => .inl (by rw [← Option.some.inj hq_]; exact HGO.out.1))
        have HT := Aside0.mk (Two.one HS1.out (fun q_ h1_ h2_ => HDI.out q_ h2_ h1_) hS6 hK6).swap
        have nB := Aside0.mk hB6
        clear HB hS6 hB6 hK6 hw_ hgr_ n1 nL
        have HB := nB
        clear nB
        have hse_ : (ys ++ [([] : List Int)]).set j (row ++ [(i : Int) + 1]) = ys ++ [[(i : Int) + 1]] := by rw [← HYR.out, HJE.out]; simp
        have HA2 := Aside0.mk (show l5RowsGo k l0 d (i + 1) xs2 ((ys ++ [([] : List Int)]).set j (row ++ [(i : Int) + 1])) = some r from by rw [hse_]; exact HA.out)
        clear hse_
        go_wp2
        go_roundg d
        case measure => omega
        case rel => exact ⟨i + 1, xs2, _, _, _, rfl, rfl, (by first | rfl | rw [zi]), ⟨by have := HI.out; omega⟩, HA2, HT, HB⟩
      · skip
        rw [if_neg hje] at hA
        have d1 : ((j : Int) == (ys.length : Int)) = false := beq_eq_false_iff_ne.mpr hje
        have d2 : (j == ys.length) = false := beq_eq_false_iff_ne.mpr (by omega)
        have HJE := Aside0.mk (show j < ys.length by have := HOK.out.2.2; omega)
        have HA := Aside0.mk hA
        clear hA hje
        have hjl : j < (ys).length := HJE.out
        obtain ⟨g, cap, eV⟩ := Kd.S_formed HS2.out (by omega)
        injection eV with eA eN eC
        subst eA eC
        clear eN
        obtain ⟨hN_, hgok, hgb, cur, vj, hblk, hcs, hcap, hcj, hrow⟩ := Kd.S_rowAt HS2.out hjl
        clear hN_
        obtain ⟨Aj, cj, ej⟩ := Kd.R_slice hrow
        subst ej
        obtain ⟨row, hrw⟩ : ∃ row, (ys).getD j [] = row := ⟨_, rfl⟩
        rw [hrw] at hrow hcj
        have xj : w3.cell? ⟨g, j, none⟩ = some (.slice Aj row.length cj) := (blk_cell hblk j).trans hcj
        have HBL := Aside0.mk hblk
        have HCJ := Aside0.mk hcj
        have HRW := Aside0.mk hrow
        have HGO := Aside0.mk (And.intro hgok hgb)
        have HJL := Aside0.mk hjl
        have HCC := Aside0.mk (And.intro hcs hcap)
        have HRL := Aside0.mk (show row.length < 1000000 from by rw [← hrw, List.getD_eq_getElem?_getD, List.getElem?_eq_getElem HJE.out]; exact HOK.out.1.2 _ (List.getElem_mem _))
        have HYR := Aside0.mk hrw
        have p7 : (j < ys.length) = True := eq_true (by have h_ := hjl; (try rw [List.length_append, List.length_singleton] at h_); exact h_)
        have p8 : (j ≤ ys.length) = True := eq_true (by have h_ := hjl; (try rw [List.length_append, List.length_singleton] at h_); omega)
        have p9 : ((j : Int) < (ys.length : Int) + 1) = True := eq_true (by have h_ := hjl; (try rw [List.length_append, List.length_singleton] at h_); omega)
        clear hrw hgok hgb hblk hcj hrow hjl hcs hcap
        have zi := wup_ i (by have := HI.out; have := HL.out; omega)
        (repeat ((fail_if_success (with_reducible refine gate_dst (N := 44) rfl ?_)); first | go_values | go_skip | go_guarded | go_step | go_upon))
        at_builtin
        refine Kd.R_append (Kd.int .i64) (w0 := w) w.heap.size rfl (.tmp 40) (.tmp 43) 25 3 (.int .i64 0) 8 rfl Try.underlying25 rwspecI rfl (by decide) (by omega) (.slice Aj row.length cj) row ((i : Int) + 1) [.int .i64 ((i : Int) + 1)] (fun _ => True) (fun _ => False) rfl rfl ?aP (fun _ hk => hk.elim) (fun _ _ => trivial) ?aO ?aB ?aS ?aL ?_
        case aP => exact rfl
        case aO => exact Kd.R_mono HRW.out (fun _ _ => trivial)
        case aB => exact HB.out
        case aS => exact HB.out.size
        case aL => have h1_ := HRL.out; omega
        intro vA wA ho hb_ hg_ hat_
        obtain ⟨AA, cA, ev_⟩ := Kd.R_slice ho
        rw [List.length_append, List.length_singleton] at ev_
        subst ev_
        have nL := Aside0.mk (blk_grown HBL.out hg_ (fun he_ => (HRW.out.1 g he_.symm).2 rfl))
        have HR5 := Aside0.mk ho
        have HG5 := Aside0.mk hg_
        have HA5 := Aside0.mk hat_
        have nB := Aside0.mk hb_
        have n1 := Aside0.mk (Kd.S_grown HS1.out hg_ (fun q_ hq_ he_ => HDI.out q_ hq_ (HRW.out.1 q_ he_.symm).1))
        clear HB ho hb_ hg_ hat_ xj
        have HB := nB
        clear nB
        (repeat ((fail_if_success (with_reducible refine gate_store (t := 25) (p := 45) rfl ?_)); first | go_values | go_skip | go_guarded | go_step | go_upon))
        refine put_event (by rfl) (by rfl) (t := 25) (p := .tmp 45) (by rfl) (g := _) (off := j) (cur.setIfInBounds j (.slice AA (row.length + 1) cA)) ([.slice AA (row.length + 1) cA]) (by rfl) (by rfl) nL.out (by rfl) (by first | rfl | decide) (one_one (by rfl)) ?hfit ?hc ?_
        case hfit => show j + 1 ≤ cur.size; have h1_ := HCC.out; have h2_ := HJL.out; (try simp only [List.length_append, List.length_singleton] at h1_ h2_); omega
        case hc => exact set_toList _ _ _ (by have h1_ := HCC.out; have h2_ := HJL.out; (try simp only [List.length_append, List.length_singleton] at h1_ h2_); omega)
        intro wB hw_ hgr_
        have hS6 := Kd.S_upd HS2.out HBL.out HJL.out HCJ.out HR5.out HG5.out HA5.out hw_ hgr_
        have hB6 := pw_below_grown HB.out _ HB.out.size hgr_ (fun q_ he_ => by rw [← Option.some.inj he_]; exact HGO.out.2)
        have hK6 : Kept w3 wB Q2 := (kept_of_grown HG5.out (fun q_ hq_ => (HRW.out.1 q_ hq_).1)).of_grown hgr_ (fun q_ hq_ => .inl (by rw [← Option.some.inj hq_]; exact HGO.out.1))
        have HT := Aside0.mk (Two.one HS1.out (fun q_ h1_ h2_ => HDI.out q_ h2_ h1_) hS6 hK6).swap
        have nB := Aside0.mk hB6
        clear HB hS6 hB6 hK6 hw_ hgr_ n1 nL
        have HB := nB
        clear nB
        have HA2 := Aside0.mk (show l5RowsGo k l0 d (i + 1) xs2 (ys.set j (row ++ [(i : Int) + 1])) = some r from by rw [← HYR.out]; exact HA.out)
        go_wp2
        go_roundg d
        case measure => omega
        case rel => exact ⟨i + 1, xs2, _, _, _, rfl, rfl, (by first | rfl | rw [zi]), ⟨by have := HI.out; omega⟩, HA2, HT, HB⟩


/-! ### spec_TwinRowsOf: function 31 -/
def spec_TwinRowsOf.f (k : Nat) (l0 : List Int) : Option (List (List Int) × Bool) := (spec_l2Order.f k l0).bind fun t => if t = true then (spec_l5Rows.f k l0).bind fun q => some (q.2, true) else some ([], false)
theorem spec_TwinRowsOf.mono : ∀ a0 k, LeO (spec_TwinRowsOf.f k a0) (spec_TwinRowsOf.f (k + 1) a0) := fun _ _ => LeO.bind (spec_l2Order.mono _ _) (fun _ => LeO.ite (LeO.bind (spec_l5Rows.mono _ _) (fun _ => LeO.refl _)) (LeO.refl _))
set_option maxHeartbeats 8000000 in
set_option maxRecDepth 100000 in
theorem spec_TwinRowsOf.calls (k : Nat) (A0 : Option Addr) (c0 : Nat) (l0 : List Int) (r1 : List (List Int)) (r2 : Bool) (w : World) (hr0 : Kd.C (Kd.int .i64) w A0 l0.length l0) (hc0 : l0.length ≤ c0) (h : spec_TwinRowsOf.f k l0 = some (r1, r2)) :
    Calls Try.prog 31 #[.slice A0 l0.length c0] w fun e w' => ∃ v0_ : Value, e = .returned (.tuple #[v0_, .bool r2]) ∧ Kd.S (Kd.slice 3 (Kd.int .i64)) 25 w' w.heap.size (fun _ => True) v0_ r1 ∧ Below w.heap.size w w' := by
  have HR0 := Aside0.mk hr0
  have HC0 := Aside0.mk hc0
  unfold spec_TwinRowsOf.f at h
  obtain ⟨t, h1, H⟩ := Option.bind_eq_some_iff.1 h
  have A2 := Aside0.mk h1
  clear hr0 hc0 h h1
  cases t with
  | false =>
    rw [if_neg (by simp)] at H
    obtain ⟨rfl, rfl⟩ := Prod.mk.inj (Option.some.inj H)
    clear H
    go_enter Try.func31, Try.ntmps31
    (repeat ((fail_if_success (with_reducible refine gate_dst (N := 7) rfl ?_)); first | go_values | go_skip | go_guarded | go_step | go_upon))
    refine goesL_ (some 7) rfl rfl Try.func57 (by kernel_rfl) rfl #[.slice A0 l0.length c0] rfl (by (try simp only [List.map_toArray, List.map_cons, List.map_nil]); first | done | rfl) ?_
    refine (spec_l2Order.calls k A0 c0 l0 _ w HR0.out HC0.out A2.out).mono ?_
    rintro e wS ⟨rfl, hdr⟩
    refine ⟨_, rfl, ?_⟩
    have HB := Aside0.mk hdr.below
    clear hdr
    (repeat ((fail_if_success (with_reducible refine gate_dst (N := 9) rfl ?_)); first | go_values | go_skip | go_guarded | go_step | go_upon))
    refine Kd.S_lit (Kd.slice 3 (Kd.int .i64)) (w0 := w) w.heap.size 25 ?hg (N := 9) ?hd (xs := ([] : List (List Int))) (inner := []) (ok := (fun _ => True)) (okp := fun _ => False) ?hr (Reps.none _ _) (fun _ hk => hk.elim) ?hF HB.out HB.out.size (by simp) ?_
    case hd => rfl
    case hg => rfl
    case hr => first | (go_simp; done) | (go_simp; rfl)
    case hF => first | trivial | exact Nat.le_refl _
    intro v9 w1 hs9 hb_ hg_ hn_
    have HS9 := Aside0.mk hs9
    have HB2 := Aside0.mk hb_
    clear hs9 hb_ hg_ hn_
    go_wp2
    go_ret2
    exact ⟨_, rfl, HS9.out, HB2.out⟩
  | true =>
    rw [if_pos rfl] at H
    obtain ⟨q, h1, H2⟩ := Option.bind_eq_some_iff.1 H
    have A3 := Aside0.mk h1
    obtain ⟨rfl, rfl⟩ := Prod.mk.inj (Option.some.inj H2)
    clear H H2 h1
    go_enter Try.func31, Try.ntmps31
    (repeat ((fail_if_success (with_reducible refine gate_dst (N := 7) rfl ?_)); first | go_values | go_skip | go_guarded | go_step | go_upon))
    refine goesL_ (some 7) rfl rfl Try.func57 (by kernel_rfl) rfl #[.slice A0 l0.length c0] rfl (by (try simp only [List.map_toArray, List.map_cons, List.map_nil]); first | done | rfl) ?_
    refine (spec_l2Order.calls k A0 c0 l0 _ w HR0.out HC0.out A2.out).mono ?_
    rintro e wS ⟨rfl, hdr⟩
    refine ⟨_, rfl, ?_⟩
    have HB := Aside0.mk hdr.below
    clear hdr
    (repeat ((fail_if_success (with_reducible refine gate_dst (N := 12) rfl ?_)); first | go_values | go_skip | go_guarded | go_step | go_upon))
    refine goesL_ (some 12) rfl rfl Try.func62 (by kernel_rfl) rfl #[.slice A0 l0.length c0] rfl (by (try simp only [List.map_toArray, List.map_cons, List.map_nil]); first | done | rfl) ?_
    refine (spec_l5Rows.calls k A0 c0 l0 q wS (Kd.C_below HR0.out HB.out) HC0.out A3.out).mono ?_
    rintro e wP ⟨v_, u_, rfl, ht_, hb_⟩
    refine ⟨_, rfl, ?_⟩
    obtain ⟨P_, Q_, h1_, h2_, _⟩ := ht_
    have HS := Aside0.mk (Kd.S_lower (Kd.S_mono h2_ (fun _ _ => trivial)) HB.out.size)
    have nB := Aside0.mk (below_step HB.out hb_)
    clear HB hb_ h1_ h2_
    go_wp2
    go_ret2
    exact ⟨_, rfl, HS.out, nB.out⟩


/-! ### slices_Index_int_int: function 119 -/
def slices_Index_int_int.l0 : Nat → List Int → Int → Int → Int → Option (Int)
  | 0, _, _, _, _ => none
  | k + 1, x0, x1, x7, x8 => if x8 < x7 then (if 0 ≤ x8 then (if x8 < (x0.length : Int) then (if x1 = (rd x0 x8) then (some x8) else (slices_Index_int_int.l0 k x0 x1 x7 (wrap64 (x8 + 1)))) else (none)) else (none)) else (some (-1))
def slices_Index_int_int.f (k : Nat) (l0 : List Int) (a1 : Int) : Option (Int) := slices_Index_int_int.l0 k l0 a1 (l0.length : Int) 0
theorem slices_Index_int_int.mono_l : ∀ k, (∀ y0 y1 y2 y3, LeO (slices_Index_int_int.l0 k y0 y1 y2 y3) (slices_Index_int_int.l0 (k + 1) y0 y1 y2 y3))
  | 0 => fun _ _ _ _ r h => by simp [slices_Index_int_int.l0] at h
  | k + 1 => by
    have ih0 := slices_Index_int_int.mono_l k
    · intro y0 y1 y2 y3
      unfold slices_Index_int_int.l0
      repeat' first
      | (with_reducible exact ih0 _ _ _ _)
      | (with_reducible exact LeO.refl _)
      | (with_reducible exact LeO.none _)
      | (with_reducible refine LeO.ite ?_ ?_)
      | (with_reducible refine LeO.bind ?_ (fun _ => ?_))
      | exact ih0 _ _ _ _
      | exact LeO.none _
      | refine LeO.ite ?_ ?_
      | refine LeO.bind ?_ (fun _ => ?_)
theorem slices_Index_int_int.mono : ∀ a0 a1 k, LeO (slices_Index_int_int.f k a0 a1) (slices_Index_int_int.f (k + 1) a0 a1) := by
  intro a0 a1 k
  have ih0 := slices_Index_int_int.mono_l k
  unfold slices_Index_int_int.f
  repeat' first
      | (with_reducible exact ih0 _ _ _ _)
      | (with_reducible exact LeO.refl _)
      | (with_reducible exact LeO.none _)
      | (with_reducible refine LeO.ite ?_ ?_)
      | (with_reducible refine LeO.bind ?_ (fun _ => ?_))
      | exact ih0 _ _ _ _
      | exact LeO.none _
      | refine LeO.ite ?_ ?_
      | refine LeO.bind ?_ (fun _ => ?_)
set_option maxHeartbeats 8000000 in
set_option maxRecDepth 100000 in
theorem slices_Index_int_int.calls (k : Nat) (A0 : Option Addr) (c0 : Nat) (l0 : List Int) (a1 : Int) (r : Int) (w : World) (hr0 : Kd.C (Kd.int .i64) w A0 l0.length l0) (hc0 : l0.length ≤ c0) (h : slices_Index_int_int.f k l0 a1 = some r) :
    Calls Try.prog 119 #[.slice A0 l0.length c0, .int .i64 a1] w fun e w' => e = .returned (.int .i64 r) ∧ Drawn0 w w' := by
  have HR0 := Aside0.mk hr0
  have HC0 := Aside0.mk hc0
  clear hr0 hc0
  have H : (slices_Index_int_int.l0 k l0 a1 (l0.length : Int) 0) = some r := h
  clear h
  have H' := Aside0.mk H
  clear H
  go_enter Try.func119, Try.ntmps119
  go_wp2
  go_loopg [8] k (fun kq v8 w' => ∃ (x8_1 : Int), v8 = .int .i64 x8_1 ∧ Aside0 (slices_Index_int_int.l0 kq l0 a1 (l0.length : Int) x8_1 = some r) ∧ Aside0 (kq ≤ k) ∧ Drawn0 w w')
  case atStart => exact ⟨(0), (by first | rfl | (simp; done) | (simp [*]; done)), H', ⟨Nat.le_refl _⟩, by repeat (first | exact Drawn0.refl _ | apply Drawn0.step)⟩
  case round =>
    clear H'
    try clear c1
    try clear p2
    obtain ⟨x8_1, rfl, HA, HK1, ⟨m1, rfl⟩⟩ := hrel
    cases gk with
    | zero => exact absurd HA.out (by simp [slices_Index_int_int.l0])
    | succ k1 =>
      have H := HA.out
      clear HA
      simp only [slices_Index_int_int.l0] at H
      by_cases c3 : x8_1 < (l0.length : Int)
      · rw [if_pos c3] at H
        have c3b0 : decide (x8_1 < (l0.length : Int)) = true := decide_eq_true c3
        clear c3
        by_cases c4 : 0 ≤ x8_1
        · rw [if_pos c4] at H
          have c4b0 : decide (0 ≤ x8_1) = true := decide_eq_true c4
          clear c4
          by_cases c5 : x8_1 < (l0.length : Int)
          · rw [if_pos c5] at H
            have c5b0 : decide (x8_1 < (l0.length : Int)) = true := decide_eq_true c5
            clear c5
            by_cases c6 : a1 = (rd l0 x8_1)
            · rw [if_pos c6] at H
              have c6b0 : (a1 == (rd l0 x8_1)) = true := beq_iff_eq.mpr c6
              have c6b1 : (a1 != (rd l0 x8_1)) = false := bne_eq_false_iff_eq.mpr c6
              clear c6
              obtain rfl := Option.some.inj H
              have p167 : 0 ≤ (x8_1 : Int) := of_decide_eq_true (by first | (with_reducible assumption) | assumption)
              have q167 : x8_1 < (l0.length : Int) := of_decide_eq_true (by first | (with_reducible assumption) | assumption)
              obtain ⟨ad167, e167, hx167_0⟩ := Kd.at_int HR0.out x8_1 p167 q167
              cases e167
              replace p167 := eq_true p167
              replace q167 := eq_true q167
              go_wp2
              go_ret
              exact ⟨by first | rfl | (simp; done) | (simp [*]; done), by repeat (first | exact Drawn0.refl _ | apply Drawn0.step)⟩
            · rw [if_neg c6] at H
              have c6b0 : (a1 == (rd l0 x8_1)) = false := beq_eq_false_iff_ne.mpr c6
              have c6b1 : (a1 != (rd l0 x8_1)) = true := bne_iff_ne.mpr c6
              have H' := Aside0.mk H
              clear H
              have p167 : 0 ≤ (x8_1 : Int) := of_decide_eq_true (by first | (with_reducible assumption) | assumption)
              have q167 : x8_1 < (l0.length : Int) := of_decide_eq_true (by first | (with_reducible assumption) | assumption)
              obtain ⟨ad167, e167, hx167_0⟩ := Kd.at_int HR0.out x8_1 p167 q167
              cases e167
              replace p167 := eq_true p167
              replace q167 := eq_true q167
              go_wp2
              go_roundg k1
              case measure => have := HK1.out; omega
              case rel => exact ⟨(wrap64 (x8_1 + 1)), (by first | rfl | (simp; done) | (simp [*]; done)), H', ⟨by have := HK1.out; omega⟩, by repeat (first | exact Drawn0.refl _ | apply Drawn0.step)⟩
          · rw [if_neg c5] at H
            exact absurd H (by simp)
        · rw [if_neg c4] at H
          exact absurd H (by simp)
      · rw [if_neg c3] at H
        have c3b0 : decide (x8_1 < (l0.length : Int)) = false := decide_eq_false c3
        clear c3
        obtain rfl := Option.some.inj H
        go_wp2
        go_ret
        exact ⟨by first | rfl | (simp; done) | (simp [*]; done), by repeat (first | exact Drawn0.refl _ | apply Drawn0.step)⟩

/-! ### slices_Contains_int_int: function 97 -/
def slices_Contains_int_int.f (k : Nat) (l0 : List Int) (a1 : Int) : Option (Bool) := (slices_Index_int_int.f k l0 a1).bind fun t168 => (some (decide (t168 ≥ 0)))
theorem slices_Contains_int_int.mono : ∀ a0 a1 k, LeO (slices_Contains_int_int.f k a0 a1) (slices_Contains_int_int.f (k + 1) a0 a1) := by
  intro a0 a1 k
  unfold slices_Contains_int_int.f
  repeat' first
      | (with_reducible exact slices_Index_int_int.mono _ _ _)
      | (with_reducible exact LeO.refl _)
      | (with_reducible exact LeO.none _)
      | (with_reducible refine LeO.ite ?_ ?_)
      | (with_reducible refine LeO.bind ?_ (fun _ => ?_))
      | exact slices_Index_int_int.mono _ _ _
      | exact LeO.none _
      | refine LeO.ite ?_ ?_
      | refine LeO.bind ?_ (fun _ => ?_)
set_option maxHeartbeats 8000000 in
set_option maxRecDepth 100000 in
theorem slices_Contains_int_int.calls (k : Nat) (A0 : Option Addr) (c0 : Nat) (l0 : List Int) (a1 : Int) (r : Bool) (w : World) (hr0 : Kd.C (Kd.int .i64) w A0 l0.length l0) (hc0 : l0.length ≤ c0) (h : slices_Contains_int_int.f k l0 a1 = some r) :
    Calls Try.prog 97 #[.slice A0 l0.length c0, .int .i64 a1] w fun e w' => e = .returned (.bool r) ∧ Drawn0 w w' := by
  have HR0 := Aside0.mk hr0
  have HC0 := Aside0.mk hc0
  clear hr0 hc0
  have H : ((slices_Index_int_int.f k l0 a1).bind fun t168 => (some (decide (t168 ≥ 0)))) = some r := h
  clear h
  replace H := Option.bind_eq_some_iff.mp H
  obtain ⟨t168, A30, H⟩ := H
  replace H : (some (decide (t168 ≥ 0))) = some r := H
  have A3 := Aside0.mk A30
  clear A30
  obtain rfl := Option.some.inj H
  go_enter Try.func97, Try.ntmps97
  go_wp2_with (first | ((with_reducible refine gate_callee (f := 119) rfl ?_); refine goesL_ (some 7) rfl rfl Try.func119 (by kernel_rfl) rfl #[.slice A0 l0.length c0, .int .i64 a1] rfl (by (try simp only [List.map_toArray, List.map_cons, List.map_nil]); first | done | rfl | (simp only [List.length_drop, List.length_take]; rfl)) ?_; (with_reducible refine (slices_Index_int_int.calls k _ _ l0 a1 t168 _ ?side1 ?side2 A3.out).mono ?_); (case side1 => repeat (first | exact HR0.out | (with_reducible refine Kd.C_alloc ?_ _) | (with_reducible refine Kd.C_drewN ?_ _) | (with_reducible refine Kd.C_drew ?_))); (case side2 => exact HC0.out); rintro e w' ⟨rfl, ⟨nd, rfl⟩⟩; refine ⟨_, rfl, ?_⟩))
  go_ret
  exact ⟨by first | rfl | (simp; done) | (simp [*]; done), by repeat (first | exact Drawn0.refl _ | apply Drawn0.step)⟩

end Go.Proofs.Ytnfcopikfbnheaa.PFnExactTwinRowsOf
