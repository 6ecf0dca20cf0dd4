-- laid by mkprint.py, a program of this claim's writer, over the kit's print program; parts of it are typed by hand
import Derived.Test.YtnfcopikfbnheaaPFnExactTwinRowsOfx0
import Derived.Test.YtnfcopikfbnheaaPFnExactTwinRowsOfx5
namespace Go.Proofs.Ytnfcopikfbnheaa.PFnExactTwinRowsOf
open Go.RowKit Go.Proofs.YtnfcopikfbnheaaW.PrintWords Go.Proofs.YtnfcopikfbnheaaW.PrintLast Go.Proofs.YtnfcopikfbnheaaW.PrintMore
attribute [local go_sem] max2_int min2_int max_two min_two max_three min_three max_four min_four   -- for this text's walks alone
set_option linter.unusedVariables false
set_option linter.unusedSimpArgs false

/-! ### impl_insert: function 99 -/
theorem rwImplI : (Try.prog.info? 3).map (fun i => (i.zero, i.size, i.bytes)) = some (some (.int .i64 0), 1, 8) := by kernel_rfl
theorem rwImplS : (Try.prog.info? 25).map (fun i => (i.zero, i.size, i.bytes)) = some (some (.slice none 0 0), 1, 24) := by kernel_rfl
def insGo (k : Nat) : Nat → Nat → List (List Int) → Int → Option (List (List Int) × Int)
  | 0, j, xs, n => if xs.length < 1000000 then some (xs ++ [[n]], (xs.length : Int)) else none
  | d + 1, j, xs, n => (slices_IndexFunc_int_int.f (fun _ x0_ => impl_insert_1.f x0_ n) k (xs.getD j []) ⟨#[]⟩).bind fun i => if i < 0 then (if (xs.getD j []).length < 1000000 then some (xs.set j (xs.getD j [] ++ [n]), (j : Int)) else none) else if i < ((xs.getD j []).length : Int) then insGo k d (j + 1) (xs.set j ((xs.getD j []).set i.toNat n)) (rd (xs.getD j []) i) else none
def impl_insert.f (k : Nat) (xs : List (List Int)) (n : Int) : Option (List (List Int) × Int) := if xs.length ≤ 1000000 then insGo k xs.length 0 xs n else none
theorem insGo_mono (k : Nat) : ∀ d j xs n, LeO (insGo k d j xs n) (insGo (k + 1) d j xs n)
  | 0, _, _, _ => LeO.refl _
  | d + 1, j, xs, n => by
    rw [insGo, insGo]
    exact LeO.bind (slices_IndexFunc_int_int.mono _ (fun _ _ => LeO.refl _) _ _ _) (fun i => LeO.ite (LeO.refl _) (LeO.ite (insGo_mono k d _ _ _) (LeO.none _)))
theorem impl_insert.mono : ∀ a0 a1 k, LeO (impl_insert.f k a0 a1) (impl_insert.f (k + 1) a0 a1) := fun _ _ _ => LeO.ite (insGo_mono _ _ _ _ _) (LeO.none _)
set_option maxHeartbeats 8000000 in
set_option maxRecDepth 100000 in
theorem impl_insert.calls (k : Nat) (P_ : Nat → Prop) (v : Value) (xs : List (List Int)) (n : Int) (r1 : List (List Int)) (r2 : Int) (w0 w : World) (hB : Below w0.heap.size w0 w) (hS : Kd.S (Kd.slice 3 (Kd.int .i64)) 25 w w0.heap.size P_ v xs) (h : impl_insert.f k xs n = some (r1, r2)) :
    Calls Try.prog 99 #[v, .int .i64 n] w fun e w' => ∃ v' : Value, e = .returned (.tuple #[v', .int .i64 r2]) ∧ Kd.S (Kd.slice 3 (Kd.int .i64)) 25 w' w0.heap.size (fun q_ => P_ q_ ∨ w.heap.size ≤ q_) v' r1 ∧ Below w0.heap.size w0 w' ∧ Kept w w' P_ := by
  unfold impl_insert.f at h
  by_cases hl : xs.length ≤ 1000000
  case neg => rw [if_neg hl] at h; cases h
  rw [if_pos hl] at h
  have HL := Aside0.mk hl
  have HF := Aside0.mk h
  obtain ⟨Av, cv, ev_⟩ := Kd.S_slice hS
  subst ev_
  have HS := Aside0.mk hS
  have HB := Aside0.mk hB
  clear hl h hS hB
  have eg := enters_of (P := Try.prog) Try.func121 (by kernel_rfl) rfl
  go_enter Try.func99, Try.ntmps99
  (repeat ((fail_if_success (with_reducible refine gate_dst (N := 3) rfl ?_)); first | go_values | go_skip | go_guarded | go_step | go_upon))
  refine box_event ?hg (N := 3) ?hd (cs := #[.int .i64 n]) (t := 3) ?hr ?_
  case hd => rfl
  case hg => rfl
  case hr => first | (go_simp; done) | (go_simp; rfl)
  intro gb hgb w1 hbox hb1
  have HG := Aside0.mk (show w.heap.size ≤ gb ∧ w0.heap.size ≤ gb by have := HB.out.size; omega)
  have HGB := Aside0.mk hbox
  have nS := Aside0.mk (show Kd.S (Kd.slice 3 (Kd.int .i64)) 25 w1 w0.heap.size (fun q_ => (P_ q_ ∨ w.heap.size ≤ q_) ∧ q_ ≠ gb) (.slice Av xs.length cv) xs from Kd.S_mono (Kd.S_below (Kd.S_bound HS.out) hb1) (fun q_ h_ => ⟨.inl h_.1, by have := h_.2.2.1; omega⟩))
  have nb_ := Aside0.mk (below_then HB.out HB.out.size hb1)
  have HK := Aside0.mk (Kept.of_below hb1 P_)
  clear HS HB hgb hbox hb1
  have HS := nS
  have HB := nb_
  clear nS nb_
  go_wp2
  go_loopg [11] xs.length (fun kq v11 w' => ∃ (j : Nat) (ys : List (List Int)) (m : Int), v11 = .int .i64 (j : Int) ∧ Aside0 (j + kq = xs.length ∧ ys.length = xs.length) ∧ Aside0 (insGo k kq j ys m = some (r1, r2)) ∧ Aside0 (w'.heap[gb]? = some (.cells #[.int .i64 m] 3 (0, 0))) ∧ Aside0 (Kd.S (Kd.slice 3 (Kd.int .i64)) 25 w' w0.heap.size (fun q_ => (P_ q_ ∨ w.heap.size ≤ q_) ∧ q_ ≠ gb) (.slice Av xs.length cv) ys) ∧ Aside0 (Below w0.heap.size w0 w') ∧ Aside0 (Kept w w' P_))
  case atStart => exact ⟨0, xs, n, rfl, ⟨by omega, rfl⟩, HF, HGB, HS, HB, HK⟩
  case round =>
    clear HF HGB HS HB HK
    obtain ⟨j, ys, m, rfl, HJ, HA, HGB, HS, HB, HK⟩ := hrel
    have e0 : wr.cell? ⟨gb, 0, none⟩ = some (.int .i64 m) := (blk_cell HGB.out 0).trans rfl
    cases gk with
    | zero =>
      have c1 : decide (j < xs.length) = false := decide_eq_false (by have := HJ.out; omega)
      have hA := HA.out
      rw [insGo] at hA
      by_cases hl2 : ys.length < 1000000
      case neg => rw [if_neg hl2] at hA; cases hA
      rw [if_pos hl2] at hA
      obtain ⟨rfl, rfl⟩ := Prod.mk.inj (Option.some.inj hA)
      have HL2 := Aside0.mk hl2
      have HWR := Aside0.mk (show w.heap.size ≤ wr.heap.size from HK.out.1)
      clear hA HA hl2
      (repeat ((fail_if_success (with_reducible refine gate_dst (N := 41) rfl ?_)); first | go_values | go_skip | go_guarded | go_step | go_upon))
      refine Kd.R_lit (Kd.int .i64) (w0 := w0) w0.heap.size 3 ?hg (N := 41) ?hd (xs := ([m] : List Int)) (inner := [.int .i64 m]) (ok := fun _ => True) (okp := fun _ => True) ?hr (Reps.one (show Kd.M (Kd.int .i64) _ _ _ m [.int .i64 m] from rfl) (Reps.none _ _)) (fun _ hk => hk) trivial HB.out HB.out.size (by simp) ?_
      case hd => rfl
      case hg => rfl
      case hr => first | (go_simp; done) | (go_simp; rfl)
      intro v41 w5 ho hb5 hg5 hn5
      obtain ⟨A41, c41, ev_⟩ := Kd.R_slice ho
      rw [List.length_singleton] at ev_
      subst ev_
      have nS := Aside0.mk (Kd.S_below (Kd.S_bound HS.out) (show Below wr.heap.size wr w5 from ⟨hg5.os, hg5.tape, hg5.output, hg5.size, fun q_ hq_ => hg5.block q_ hq_ (by simp)⟩))
      have nK := Aside0.mk (HK.out.of_grown hg5 (fun q_ hq_ => by cases hq_))
      have nB := Aside0.mk hb5
      have HN5 := Aside0.mk hn5
      have HSZ := Aside0.mk hg5.size
      have HR5 := Aside0.mk ho
      clear HS HK HB hb5 hg5 hn5 ho e0
      have HS := nS
      have HK := nK
      have HB := nB
      clear nS nK nB
      (repeat ((fail_if_success (with_reducible refine gate_dst (N := 43) rfl ?_)); first | go_values | go_skip | go_guarded | go_step | go_upon))
      at_builtin
      refine Kd.S_append (Kd.slice 3 (Kd.int .i64)) (w0 := w0) w0.heap.size rfl (.tmp 39) (.tmp 42) 26 25 (.slice none 0 0) 24 rfl Try.underlying26 rwImplS rfl (by decide) (by omega) (.slice Av xs.length cv) ys [m] [.slice A41 1 c41] (fun q_ => P_ q_ ∨ w.heap.size ≤ q_) (fun q_ => some q_ = (.slice A41 1 c41 : Value).ownBlock) rfl rfl ?aP ?aK ?aF ?aO ?aB ?aS ?aL ?_
      case aP => exact ⟨.slice A41 1 c41, rfl, Kd.R_tight rfl HR5.out⟩
      case aK => exact fun q_ hq_ => by obtain ⟨b_, h1_, h2_⟩ := HN5.out; rw [h1_] at hq_; injection hq_ with hq_; subst hq_; exact ⟨.inr (by have h5_ := HWR.out; omega), fun he_ => by have h3_ := (HS.out |> Kd.S_R).1 q_ he_.symm; have h4_ := h3_.2.2.1; omega⟩
      case aF => exact fun q_ hq_ => .inr (Nat.le_trans HK.out.1 hq_)
      case aO => exact Kd.S_mono HS.out (fun q_ hq_ => ⟨hq_.1.1, fun he_ => by obtain ⟨b_, h1_, h2_⟩ := HN5.out; rw [h1_] at he_; injection he_ with he_; have h4_ := hq_.2.2.1; omega⟩)
      case aB => exact HB.out
      case aS => exact HB.out.size
      case aL => have h1_ := HL2.out; omega
      intro v43 w6 hs6 hb6 hg6 hat6
      have HS6 := Aside0.mk hs6
      have HB6 := Aside0.mk hb6
      have HK6 := Aside0.mk (HK.out.of_grown hg6 (fun q_ hq_ => ((HS.out |> Kd.S_R).1 q_ hq_).1.1))
      clear hs6 hb6 hg6 hat6
      go_wp2
      go_ret2
      exact ⟨v43, by rw [HJ.out.2]; rfl, HS6.out, HB6.out, HK6.out⟩
    | succ d =>
      have hjl : j < ys.length := by have := HJ.out; omega
      obtain ⟨g, cap, eV⟩ := Kd.S_formed HS.out (by omega)
      injection eV with eA eN eC
      subst eA eC
      clear eN
      obtain ⟨hN_, hgok, hgb, cur, vj, hblk, hcs, hcap, hcj, hrow⟩ := Kd.S_rowAt HS.out hjl
      clear hN_
      obtain ⟨Aj, cj, ej⟩ := Kd.R_slice hrow
      subst ej
      obtain ⟨row, hrw⟩ : ∃ row, ys.getD j [] = row := ⟨_, rfl⟩
      rw [hrw] at hrow hcj
      have HBL := Aside0.mk hblk
      have HCJ := Aside0.mk hcj
      have HRW := Aside0.mk hrow
      have HGO := Aside0.mk (And.intro hgok hgb)
      have HJL := Aside0.mk hjl
      have HCC := Aside0.mk (And.intro hcs hcap)
      have xj : wr.cell? ⟨g, j, none⟩ = some (.slice Aj row.length cj) := (blk_cell hblk j).trans hcj
      have c1 : decide (j < xs.length) = true := decide_eq_true (by have := HJ.out; omega)
      have p1 : (j < xs.length) = True := eq_true (by have := HJ.out; omega)
      have hA := HA.out
      rw [insGo, hrw] at hA
      obtain ⟨i, h1, hA2⟩ := Option.bind_eq_some_iff.1 hA
      clear hA
      have hA := hA2
      clear hA2
      have HIX := Aside0.mk h1
      have HYR := Aside0.mk hrw
      clear HA h1 hrw hgok hgb hblk hcj hrow hjl hcs hcap
      (repeat ((fail_if_success (with_reducible refine gate_dst (N := 18) rfl ?_)); first | go_values | go_skip | go_guarded | go_step | go_upon))
      refine goesL_ (some 18) rfl rfl Try.func120 (by kernel_rfl) rfl #[.slice Aj row.length cj, .func (.func 121) #[] #[.pointer (some ⟨gb, 0, none⟩)]] rfl (by (try simp only [List.map_toArray, List.map_cons, List.map_nil]); first | done | rfl) ?_
      refine (slices_IndexFunc_int_int.calls 121 #[.pointer (some ⟨gb, 0, none⟩)] (fun _ x0_ => impl_insert_1.f x0_ m) eg k Aj cj row ⟨#[]⟩ i wr (fun k_ x_ r_ W_ hW_ h_ => impl_insert_1.calls gb x_ m r_ W_ (pw_cell_below hW_.below ((blk_cell HGB.out 0).trans rfl)) h_) (Kd.R_reads' HRW.out).2.2 (Kd.R_reads' HRW.out).2.1 HIX.out).mono ?_
      rintro e w4 ⟨rfl, hdr⟩
      refine ⟨_, rfl, ?_⟩
      have nHGB_ := Aside0.mk (blk_below HGB.out hdr.below)
      have nHBL_ := Aside0.mk (blk_below HBL.out hdr.below)
      have nHRW_ := Aside0.mk (Kd.R_below HRW.out hdr.below)
      have nHS_ := Aside0.mk (Kd.S_below HS.out hdr.below)
      have nHB_ := Aside0.mk (below_then HB.out HB.out.size hdr.below)
      have nHK_ := Aside0.mk (HK.out.below hdr.below)
      clear HGB HBL HRW HS HB HK
      have HGB := nHGB_
      have HBL := nHBL_
      have HRW := nHRW_
      have HS := nHS_
      have HB := nHB_
      have HK := nHK_
      clear nHGB_ nHBL_ nHRW_ nHS_ nHB_ nHK_
      clear hdr e0 xj
      have e0 : w4.cell? ⟨gb, 0, none⟩ = some (.int .i64 m) := (blk_cell HGB.out 0).trans rfl
      by_cases hi0 : i < 0
      · skip
        rw [if_pos hi0] at hA
        by_cases hl2 : row.length < 1000000
        case neg => rw [if_neg hl2] at hA; cases hA
        rw [if_pos hl2] at hA
        obtain ⟨rfl, rfl⟩ := Prod.mk.inj (Option.some.inj hA)
        have d1 : decide (i < 0) = true := decide_eq_true hi0
        have HL2 := Aside0.mk hl2
        clear hA hl2 hi0
        have HKW := HK
        have HBLW := HBL
        go_wp2_with (first | ((with_reducible refine gate_builtin (b := .append) (xs := #[.tmp 23, .tmp 25]) rfl ?_); at_builtin; refine Kd.R_append (Kd.int .i64) (w0 := w0) w0.heap.size rfl (.tmp 23) (.tmp 25) 25 3 (.int .i64 0) 8 rfl Try.underlying25 rwImplI rfl (by decide) (by omega) (.slice Aj row.length cj) (row) (m) [.int .i64 (m)] (fun _ => True) (fun _ => False) rfl rfl ?aP (fun _ hk => hk.elim) (fun _ _ => trivial) ?aO ?aB ?aS ?aL ?_; (case aP => exact rfl); (case aO => exact Kd.R_mono HRW.out (fun _ _ => trivial)); (case aB => exact HB.out); (case aS => exact HB.out.size); (case aL => have h1_ := HL2.out; omega); intro vA w5 ho hb_ hg_ hat_; obtain ⟨AA, cA, ev_⟩ := Kd.R_slice ho; rw [List.length_append, List.length_singleton] at ev_; subst ev_; have HR5 := Aside0.mk ho; have HG5 := Aside0.mk hg_; have HA5 := Aside0.mk hat_; have nB := Aside0.mk hb_; have nL := Aside0.mk (blk_grown HBL.out hg_ (fun he_ => (HRW.out.1 g he_.symm).2 rfl)); have nK := Aside0.mk (HK.out.of_grown hg_ (fun q_ hq_ => (HRW.out.1 q_ hq_).1.1)); have HSZ := Aside0.mk HB.out; clear HB HK HBL ho hb_ hg_ hat_ e0; have HB := nB; have HBL5 := nL; have HK := nK; clear nB nL nK) | ((with_reducible refine gate_store (t := 25) (p := 27) rfl ?_); refine put_event (by rfl) (by rfl) (t := 25) (p := .tmp 27) (by rfl) (g := _) (off := j) (cur.setIfInBounds j (.slice AA (row.length + 1) cA)) ([.slice AA (row.length + 1) cA]) (by rfl) (by rfl) HBL5.out (by rfl) (by first | rfl | decide) (one_one (by rfl)) ?hfit ?hc ?_; (case hfit => show j + 1 ≤ cur.size; have h1_ := HCC.out; have h2_ := HJ.out; omega); (case hc => exact set_toList _ _ _ (by have h1_ := HCC.out; have h2_ := HJ.out; omega)); intro w6 hw_ hgr_; have HS6 := Aside0.mk (Kd.S_upd HS.out (HBLW.out) HJL.out HCJ.out HR5.out HG5.out HA5.out hw_ hgr_); have HB6 := Aside0.mk (pw_below_grown HB.out _ HB.out.size hgr_ (fun q_ he_ => by rw [← Option.some.inj he_]; exact HGO.out.2)); have HK6 := Aside0.mk (HK.out.of_grown hgr_ (fun q_ hq_ => by rw [← Option.some.inj hq_]; exact HGO.out.1.1)); clear hw_ hgr_))
        go_ret2
        refine ⟨.slice (some ⟨g, 0, none⟩) xs.length cv, rfl, ?_, HB6.out, HK6.out⟩
        exact Kd.S_mono HS6.out (fun q_ hq_ => by rcases hq_ with hq_ | hq_; exact hq_.1; exact .inr (by have h1_ := HKW.out.1; omega))
      · skip
        rw [if_neg hi0] at hA
        by_cases hil : i < (row.length : Int)
        case neg => rw [if_neg hil] at hA; cases hA
        rw [if_pos hil] at hA
        obtain ⟨ii, hii⟩ : ∃ ii : Nat, i = (ii : Int) := ⟨i.toNat, by omega⟩
        subst hii
        rw [Int.toNat_natCast] at hA
        obtain ⟨rr, hrr⟩ : ∃ rr, rd row (ii : Int) = rr := ⟨_, rfl⟩
        rw [hrr] at hA
        have HA := Aside0.mk hA
        have HII := Aside0.mk (show ii < row.length by omega)
        have d1 : decide ((ii : Int) < 0) = false := decide_eq_false hi0
        have p2 : (ii < row.length) = True := eq_true HII.out
        have p3 : ((ii : Int) < (row.length : Int)) = True := eq_true hil
        obtain ⟨gr, cr, er, _, _, _⟩ := Kd.R_form HRW.out (by have := HII.out; omega)
        injection er with er_ en_ ec_
        subst er_ ec_
        clear en_
        have HRR := Aside0.mk hrr
        clear hA hi0 hil hrr
        obtain ⟨xr, fr⟩ := Kd.R_celln 0 HRW.out (ii : Int) (by omega) (by have := HII.out; omega)
        rw [show rdOf 0 row (ii : Int) = rr from HRR.out, Int.toNat_natCast] at xr
        rw [Int.toNat_natCast] at fr
        have HX := Aside0.mk (And.intro xr fr)
        clear xr fr
        go_wp2
        have nHGB_ := Aside0.mk (blk_below HGB.out (below_drew (Below.refl _ _)))
        have nHBL_ := Aside0.mk (blk_below HBL.out (below_drew (Below.refl _ _)))
        have nHRW_ := Aside0.mk (Kd.R_drew HRW.out)
        have nHS_ := Aside0.mk (Kd.S_drew HS.out)
        have nHB_ := Aside0.mk (below_drew HB.out)
        have nHK_ := Aside0.mk (HK.out.drew)
        refine start_ (n := 10) (S := fun w' => w'.cell? ⟨gb, 0, none⟩ = some (.int .i64 m) ∧ w'.cell? ⟨gr, ii, none⟩ = some (.int .i64 rr)) (ds := [8, 9]) #[false, false, false, false, false, false, false, false, false, false] (by kernel_rfl) rfl rfl ⟨pw_cell_below (below_drew (Below.refl _ _)) e0, pw_cell_below (below_drew (Below.refl _ _)) HX.out.1⟩ (fun hHeld => ?_)
        clear HGB HBL HRW HS HB HK
        have HGB := nHGB_
        have HBL := nHBL_
        have HRW := nHRW_
        have HS := nHS_
        have HB := nHB_
        have HK := nHK_
        clear nHGB_ nHBL_ nHRW_ nHS_ nHB_ nHK_
        generalize w4.drew = w5 at HGB HBL HRW HS HB HK hHeld ⊢
        clear HX e0
        refine pure_ (i := 0) (N := some 30) (v := ?_) (a' := ?_) #[true, false, false, false, false, false, false, false, false, false] rfl rfl (by kernel_rfl) (fun _ _ _ h => h) (Or.inl ⟨by rfl, ?_⟩) ?_ ?_
        rotate_left
        · intro w'
          go_simp
          with_reducible rfl
        rotate_left
        · simp only [Act.put, List.setIfInBounds_toArray, List.set_cons_zero, List.set_cons_succ, i64_w, i32_w]
          rfl
        refine pure_ (i := 1) (N := some 31) (v := ?_) (a' := ?_) #[true, true, false, false, false, false, false, false, false, false] rfl rfl (by kernel_rfl) (fun _ _ _ h => h) (Or.inl ⟨by rfl, ?_⟩) ?_ ?_
        rotate_left
        · intro w'
          go_simp
          with_reducible rfl
        rotate_left
        · simp only [Act.put, List.setIfInBounds_toArray, List.set_cons_zero, List.set_cons_succ, i64_w, i32_w]
          rfl
        refine take_ (i := 2) (N := some 32) (v := ?_) (a' := ?_) #[true, true, true, false, false, false, false, false, false, false] rfl rfl (by kernel_rfl) (fun _ _ _ h => h) (Or.inl ⟨by rfl, ?_⟩) hHeld ?_ ?_
        rotate_left
        · rintro w' ⟨s0_, s1_⟩
          go_simp
          with_reducible rfl
        rotate_left
        · simp only [Act.put, List.setIfInBounds_toArray, List.set_cons_zero, List.set_cons_succ, i64_w, i32_w]
          rfl
        refine pure_ (i := 3) (N := some 33) (v := ?_) (a' := ?_) #[true, true, true, true, false, false, false, false, false, false] rfl rfl (by kernel_rfl) (fun _ _ _ h => h) (Or.inl ⟨by rfl, ?_⟩) ?_ ?_
        rotate_left
        · intro w'
          go_simp
          with_reducible rfl
        rotate_left
        · simp only [Act.put, List.setIfInBounds_toArray, List.set_cons_zero, List.set_cons_succ, i64_w, i32_w]
          rfl
        refine pure_ (i := 4) (N := some 34) (v := ?_) (a' := ?_) #[true, true, true, true, true, false, false, false, false, false] rfl rfl (by kernel_rfl) (fun _ _ _ h => h) (Or.inl ⟨by rfl, ?_⟩) ?_ ?_
        rotate_left
        · intro w'
          go_simp
          with_reducible rfl
        rotate_left
        · simp only [Act.put, List.setIfInBounds_toArray, List.set_cons_zero, List.set_cons_succ, i64_w, i32_w]
          rfl
        refine pure_ (i := 5) (N := some 35) (v := ?_) (a' := ?_) #[true, true, true, true, true, true, false, false, false, false] rfl rfl (by kernel_rfl) (fun _ _ _ h => h) (Or.inl ⟨by rfl, ?_⟩) ?_ ?_
        rotate_left
        · intro w'
          go_simp
          with_reducible rfl
        rotate_left
        · simp only [Act.put, List.setIfInBounds_toArray, List.set_cons_zero, List.set_cons_succ, i64_w, i32_w]
          rfl
        refine take_ (i := 6) (N := some 36) (v := ?_) (a' := ?_) #[true, true, true, true, true, true, true, false, false, false] rfl rfl (by kernel_rfl) (fun _ _ _ h => h) (Or.inl ⟨by rfl, ?_⟩) hHeld ?_ ?_
        rotate_left
        · rintro w' ⟨s0_, s1_⟩
          go_simp
          with_reducible rfl
        rotate_left
        · simp only [Act.put, List.setIfInBounds_toArray, List.set_cons_zero, List.set_cons_succ, i64_w, i32_w]
          rfl
        refine pure_ (i := 7) (N := some 37) (v := ?_) (a' := ?_) #[true, true, true, true, true, true, true, true, false, false] rfl rfl (by kernel_rfl) (fun _ _ _ h => h) (Or.inl ⟨by rfl, ?_⟩) ?_ ?_
        rotate_left
        · intro w'
          go_simp
          with_reducible rfl
        rotate_left
        · simp only [Act.put, List.setIfInBounds_toArray, List.set_cons_zero, List.set_cons_succ, i64_w, i32_w]
          rfl
        have HH := Aside0.mk hHeld
        clear hHeld
        obtain ⟨xr, fr⟩ := Kd.R_celln 0 HRW.out (ii : Int) (by omega) (by have := HII.out; omega)
        rw [Int.toNat_natCast] at xr fr
        have HP := Kd.R_putg HRW.out (ii : Int) m
        rw [Int.toNat_natCast] at HP
        refine last_ (i := 8) (N := none) #[true, true, true, true, true, true, true, true, true, false] rfl rfl (by kernel_rfl) (by decide) (fun K hK => ?_)
        refine skip_step (w1 := w5.setCell ⟨gr, ii, none⟩ (.int .i64 m)) (by rfl) (by rfl) ?hr ?_
        case hr => first | (go_simp; done) | (go_simp; rfl)
        generalize hw6 : w5.setCell ⟨gr, ii, none⟩ (.int .i64 m) = w6 at HP ⊢
        clear hw6 xr fr
        have hne_ : gr ≠ gb := ((HRW.out.1 gr rfl).1.2)
        have nG := Aside0.mk (blk_grown HGB.out HP.2 (fun he_ => hne_ (Option.some.inj he_).symm))
        have nS := Aside0.mk (Kd.S_updIn HS.out HBL.out HJL.out HCJ.out HP.1 HP.2)
        have nB := Aside0.mk (pw_below_grown HB.out _ HB.out.size HP.2 (fun q_ he_ => Kd.R_base HRW.out q_ he_))
        have nK := Aside0.mk (HK.out.of_grown HP.2 (fun q_ hq_ => (HRW.out.1 q_ hq_).1.1))
        clear HGB HS HB HK HBL HRW HP HH hne_
        have HGB := nG
        have HS := nS
        have HB := nB
        have HK := nK
        clear nG nS nB nK
        refine hK.out _ _ ?_
        clear hK K
        refine last_ (i := 9) (N := none) #[true, true, true, true, true, true, true, true, true, true] rfl rfl (by kernel_rfl) (by decide) (fun K hK => ?_)
        refine put_step (by rfl) (by rfl) (t := 3) (p := .tmp 3) (v := .tmp 36) (by rfl) (g := _) (off := 0) (#[.int .i64 rr]) ([.int .i64 rr]) (by rfl) (by rfl) HGB.out (by rfl) (by first | rfl | decide) (by simp [Value.oneCell']) ?hfit ?hc ?_
        case hfit => exact Nat.le_refl _
        case hc => rfl
        intro w7 hw_ hgr_
        have nS := Aside0.mk (Kd.S_grown HS.out hgr_ (fun q_ hq_ he_ => hq_.2 (Option.some.inj he_)))
        have nB := Aside0.mk (pw_below_grown HB.out _ HB.out.size hgr_ (fun q_ he_ => by rw [← Option.some.inj he_]; exact HG.out.2))
        have nK := Aside0.mk (HK.out.of_grown hgr_ (fun q_ hq_ => .inr (by rw [← Option.some.inj hq_]; exact HG.out.1)))
        have nG := Aside0.mk hw_
        clear HGB HS HB HK hw_ hgr_
        have HGB := nG
        have HS := nS
        have HB := nB
        have HK := nK
        clear nG nS nB nK
        refine hK.out _ _ ?_
        clear hK K
        refine done_ (by kernel_rfl) ?_
        clear p2 p3 d1
        have zj := wup_ j (by have := HJ.out; have := HL.out; omega)
        go_wp2
        go_roundg d
        case measure => omega
        case rel => exact ⟨j + 1, _, rr, (by first | rfl | rw [zj]), ⟨by have := HJ.out; omega, by rw [List.length_set]; exact HJ.out.2⟩, HA, HGB, HS, HB, HK⟩

/-! ### impl_rowsOf: function 63 -/
theorem rwimplI : (Try.prog.info? 3).map (fun i => (i.zero, i.size, i.bytes)) = some (some (.int .i64 0), 1, 8) := by kernel_rfl
theorem rwimplS : (Try.prog.info? 25).map (fun i => (i.zero, i.size, i.bytes)) = some (some (.slice none 0 0), 1, 24) := by kernel_rfl
def rowsGo (k : Nat) (o : List Int) : Nat → Nat → List (List Int) → List (List Int) → Option (List (List Int) × List (List Int))
  | 0, _, xs, ys => some (xs, ys)
  | d + 1, i, xs, ys => (impl_insert.f k xs (rd o (i : Int))).bind fun t => if (ys.length < 1000000 ∧ (∀ y ∈ ys, y.length < 1000000)) ∧ (0 ≤ t.2 ∧ t.2 ≤ (ys.length : Int)) then rowsGo k o d (i + 1) t.1 (if t.2 = (ys.length : Int) then ys ++ [[(i : Int) + 1]] else ys.set t.2.toNat (ys.getD t.2.toNat [] ++ [(i : Int) + 1])) else none
def impl_rowsOf.f (k : Nat) (l0 : List Int) : Option (List (List Int) × List (List Int)) := if l0.length ≤ 1000000 then rowsGo k l0 l0.length 0 [] [] else none
theorem rowsGo_mono (o : List Int) (k : Nat) : ∀ d i xs ys, LeO (rowsGo k o d i xs ys) (rowsGo (k + 1) o d i xs ys)
  | 0, _, _, _ => LeO.refl _
  | d + 1, i, xs, ys => by
    rw [rowsGo, rowsGo]
    exact LeO.bind (impl_insert.mono _ _ _) (fun t => LeO.ite (rowsGo_mono o k d _ _ _) (LeO.none _))
theorem impl_rowsOf.mono : ∀ a0 k, LeO (impl_rowsOf.f k a0) (impl_rowsOf.f (k + 1) a0) := fun _ _ => LeO.ite (rowsGo_mono _ _ _ _ _ _) (LeO.none _)
set_option maxHeartbeats 8000000 in
set_option maxRecDepth 100000 in
theorem impl_rowsOf.calls (k : Nat) (A0 : Option Addr) (c0 : Nat) (l0 : List Int) (r : List (List Int) × List (List Int)) (w : World) (hr0 : Kd.C (Kd.int .i64) w A0 l0.length l0) (hc0 : l0.length ≤ c0) (h : impl_rowsOf.f k l0 = some r) :
    Calls Try.prog 63 #[.slice A0 l0.length c0] w fun e w' => ∃ v u : Value, e = .returned (.tuple #[v, u]) ∧ Two .i64 3 25 w' w.heap.size v r.1 u r.2 ∧ Below w.heap.size w w' := by
  unfold impl_rowsOf.f at h
  by_cases hl : l0.length ≤ 1000000
  case neg => rw [if_neg hl] at h; cases h
  rw [if_pos hl] at h
  have HL := Aside0.mk hl
  have HF := Aside0.mk h
  have HR0 := Aside0.mk hr0
  have HC0 := Aside0.mk hc0
  have HB := Aside0.mk (Below.refl w.heap.size w)
  clear hl h hr0 hc0
  go_enter Try.func63, Try.ntmps63
  (repeat ((fail_if_success (with_reducible refine gate_dst (N := 9) rfl ?_)); first | go_values | go_skip | go_guarded | go_step | go_upon))
  refine Kd.S_lit (Kd.slice 3 (Kd.int .i64)) (w0 := w) w.heap.size 25 ?hg (N := 9) ?hd (xs := ([] : List (List Int))) (inner := []) (ok := (fun _ => True)) (okp := fun _ => False) ?hr (Reps.none _ _) (fun _ hk => hk.elim) ?hF HB.out HB.out.size (by simp) ?_
  case hd => rfl
  case hg => rfl
  case hr => first | (go_simp; done) | (go_simp; rfl)
  case hF => first | trivial | exact Nat.le_refl _
  intro v9 w1 hs9 hb_ hg_ hn_
  have HS9 := Aside0.mk (Kd.S_mono (Kd.S_bound hs9) (fun q_ h_ => show q_ < w1.heap.size from h_.2.2.1))
  clear HB hs9 hg_ hn_
  have HB := Aside0.mk hb_
  clear hb_
  (repeat ((fail_if_success (with_reducible refine gate_dst (N := 10) rfl ?_)); first | go_values | go_skip | go_guarded | go_step | go_upon))
  refine Kd.S_lit (Kd.slice 3 (Kd.int .i64)) (w0 := w) w.heap.size 25 ?hg (N := 10) ?hd (xs := ([] : List (List Int))) (inner := []) (ok := (fun q_ => w1.heap.size ≤ q_)) (okp := fun _ => False) ?hr (Reps.none _ _) (fun _ hk => hk.elim) ?hF HB.out HB.out.size (by simp) ?_
  case hd => rfl
  case hg => rfl
  case hr => first | (go_simp; done) | (go_simp; rfl)
  case hF => first | trivial | exact Nat.le_refl _
  intro v10 w2 hs10 hb_ hg_ hn_
  have HT := Aside0.mk (show Two .i64 3 25 w2 w.heap.size v9 [] v10 [] from ⟨_, _, Kd.S_grown HS9.out hg_ (fun _ _ he_ => by cases he_), hs10, fun q_ h1_ h2_ => by omega⟩)
  clear HB HS9 hs10 hg_ hn_
  have HB := Aside0.mk hb_
  clear hb_
  go_wp2
  go_loopg [4, 5, 13] l0.length (fun kq v4 v5 vi w' => ∃ (i : Nat) (xs ys : List (List Int)) (vr vt : Value), v4 = vr ∧ v5 = vt ∧ vi = .int .i64 (i : Int) ∧ Aside0 (i + kq = l0.length) ∧ Aside0 (rowsGo k l0 kq i xs ys = some r) ∧ Aside0 (Two .i64 3 25 w' w.heap.size vr xs vt ys) ∧ Aside0 (Below w.heap.size w w'))
  case atStart => exact ⟨0, [], [], v9, v10, rfl, rfl, rfl, ⟨by omega⟩, HF, HT, HB⟩
  case round =>
    clear HF HT HB
    obtain ⟨i, xs, ys, vr, vt, rfl, rfl, rfl, HI, HA, HT, HB⟩ := hrel
    cases gk with
    | zero =>
      have c1 : decide (i < l0.length) = false := decide_eq_false (by have := HI.out; omega)
      obtain rfl := Option.some.inj (show some (xs, ys) = some r from HA.out)
      clear HA
      go_wp2
      go_ret2
      exact ⟨_, _, rfl, HT.out, HB.out⟩
    | succ d =>
      have c1 : decide (i < l0.length) = true := decide_eq_true (by have := HI.out; omega)
      have p1 : (i < l0.length) = True := eq_true (by have := HI.out; omega)
      obtain ⟨nn, hnn⟩ : ∃ n : Int, rd l0 (i : Int) = n := ⟨_, rfl⟩
      have hA := HA.out
      rw [rowsGo, hnn] at hA
      obtain ⟨⟨xs2, j0⟩, h1, hA2⟩ := Option.bind_eq_some_iff.1 hA
      have HIN := Aside0.mk h1
      clear hA HA h1
      by_cases hok : (ys.length < 1000000 ∧ (∀ y ∈ ys, y.length < 1000000)) ∧ (0 ≤ j0 ∧ j0 ≤ (ys.length : Int))
      case neg => rw [if_neg hok] at hA2; cases hA2
      rw [if_pos hok] at hA2
      obtain ⟨j, hj⟩ : ∃ j : Nat, j0 = (j : Int) := ⟨j0.toNat, by omega⟩
      subst hj
      simp only [Int.toNat_natCast] at hA2
      have HOK := Aside0.mk hok
      have HA := Aside0.mk hA2
      clear hok hA2
      obtain ⟨A0', e0_, x0⟩ : ∃ ad, A0 = some ad ∧ wr.cell? (ad.add i) = some (.int .i64 nn) := by
          obtain ⟨ad, e_, hc_⟩ := Kd.at_int (Kd.C_below HR0.out HB.out) (i : Int) (by omega) (by have := HI.out; omega)
          rw [hnn, Int.toNat_natCast] at hc_
          exact ⟨ad, e_, hc_⟩
      subst e0_
      clear hnn
      obtain ⟨P1, Q1, hS1, hS2, hdis⟩ := HT.out
      obtain ⟨Ar, cr, er_⟩ := Kd.S_slice hS1
      subst er_
      obtain ⟨At, ct, et_⟩ := Kd.S_slice hS2
      subst et_
      have HS1 := Aside0.mk hS1
      have HS2 := Aside0.mk hS2
      have HDI := Aside0.mk hdis
      clear HT hS1 hS2 hdis
      (repeat ((fail_if_success (with_reducible refine gate_dst (N := 21) rfl ?_)); first | go_values | go_skip | go_guarded | go_step | go_upon))
      refine goesL_ (some 21) rfl rfl Try.func99 (by kernel_rfl) rfl #[.slice Ar xs.length cr, .int .i64 nn] rfl (by (try simp only [List.map_toArray, List.map_cons, List.map_nil]); first | done | rfl) ?_
      refine (impl_insert.calls k P1 (.slice Ar xs.length cr) xs nn xs2 (j : Int) w wr HB.out HS1.out HIN.out).mono ?_
      rintro e w3 ⟨v3, rfl, hs_, hb_, hk_⟩
      refine ⟨_, rfl, ?_⟩
      have HT := Aside0.mk (show Two .i64 3 25 w3 w.heap.size v3 xs2 (.slice At ys.length ct) ys from Two.one HS2.out HDI.out hs_ hk_)
      have nB := Aside0.mk hb_
      clear HB HS1 HS2 HDI HIN hs_ hb_ x0 hk_
      have HB := nB
      clear nB
      obtain ⟨P2, Q2, hS1, hS2, hdis⟩ := HT.out
      obtain ⟨A3, c3, e3_⟩ := Kd.S_slice hS1
      subst e3_
      have HS1 := Aside0.mk hS1
      have HS2 := Aside0.mk hS2
      have HDI := Aside0.mk hdis
      clear HT hS1 hS2 hdis
      have hA := HA.out
      clear HA
      by_cases hje : (j : Int) = (ys.length : Int)
      · skip
        rw [if_pos hje] at hA
        have d1 : ((j : Int) == (ys.length : Int)) = true := beq_iff_eq.mpr hje
        have d2 : (j == ys.length) = true := beq_iff_eq.mpr (by omega)
        have HJE := Aside0.mk (show j = ys.length by omega)
        have HA := Aside0.mk hA
        clear hA hje
        (repeat ((fail_if_success (with_reducible refine gate_dst (N := 30) rfl ?_)); first | go_values | go_skip | go_guarded | go_step | go_upon))
        at_builtin
        refine Kd.S_append (Kd.slice 3 (Kd.int .i64)) (w0 := w) w.heap.size rfl (.tmp 28) (.tmp 29) 26 25 (.slice none 0 0) 24 rfl Try.underlying26 rwimplS rfl (by decide) (by omega) (.slice At ys.length ct) ys [] [.slice none 0 0] (fun q_ => Q2 q_ ∨ w3.heap.size ≤ q_) (fun _ => False) rfl rfl ?aP (fun _ hk => hk.elim) ?aF ?aO ?aB ?aS ?aL ?_
        case aP => exact ⟨.slice none 0 0, rfl, Kd.R_nil _ _ _ _ _⟩
        case aF => exact fun q_ hq_ => .inr hq_
        case aO => exact Kd.S_mono HS2.out (fun q_ hq_ => ⟨.inl hq_, fun h_ => h_⟩)
        case aB => exact HB.out
        case aS => exact HB.out.size
        case aL => have h1_ := HOK.out.1.1; omega
        intro v5_ w5 hs6 hb6 hg6 hat6
        have HT := Aside0.mk (Two.one HS1.out (fun q_ h1_ h2_ => HDI.out q_ h2_ h1_) hs6 (kept_of_grown hg6 (fun q_ hq_ => (Kd.S_R HS2.out).1 q_ hq_))).swap
        have nB := Aside0.mk hb6
        obtain ⟨A5, c5, e5_⟩ := Kd.S_slice hs6
        rw [List.length_append, List.length_singleton] at e5_
        subst e5_
        clear HB HS1 HS2 HDI hs6 hb6 hg6 hat6
        have HB := nB
        clear nB
        obtain ⟨P2, Q2, hS1, hS2, hdis⟩ := HT.out
        have HS1 := Aside0.mk hS1
        have HS2 := Aside0.mk hS2
        have HDI := Aside0.mk hdis
        clear HT hS1 hS2 hdis
        have hjl : j < (ys ++ [[]]).length := by rw [List.length_append, List.length_singleton]; have := HJE.out; omega
        obtain ⟨g, cap, eV⟩ := Kd.S_formed HS2.out (by omega)
        injection eV with eA eN eC
        subst eA eC
        clear eN
        obtain ⟨hN_, hgok, hgb, cur, vj, hblk, hcs, hcap, hcj, hrow⟩ := Kd.S_rowAt HS2.out hjl
        clear hN_
        obtain ⟨Aj, cj, ej⟩ := Kd.R_slice hrow
        subst ej
        obtain ⟨row, hrw⟩ : ∃ row, (ys ++ [[]]).getD j [] = row := ⟨_, rfl⟩
        rw [hrw] at hrow hcj
        have xj : w5.cell? ⟨g, j, none⟩ = some (.slice Aj row.length cj) := (blk_cell hblk j).trans hcj
        have HBL := Aside0.mk hblk
        have HCJ := Aside0.mk hcj
        have HRW := Aside0.mk hrow
        have HGO := Aside0.mk (And.intro hgok hgb)
        have HJL := Aside0.mk hjl
        have HCC := Aside0.mk (And.intro hcs hcap)
        have HRL := Aside0.mk (show row.length < 1000000 from by rw [← hrw, HJE.out]; simp)
        have HYR := Aside0.mk hrw
        have p7 : (j < ys.length + 1) = True := eq_true (by have h_ := hjl; (try rw [List.length_append, List.length_singleton] at h_); exact h_)
        have p8 : (j ≤ ys.length) = True := eq_true (by have h_ := hjl; (try rw [List.length_append, List.length_singleton] at h_); omega)
        have p9 : ((j : Int) < (ys.length : Int) + 1) = True := eq_true (by have h_ := hjl; (try rw [List.length_append, List.length_singleton] at h_); omega)
        clear hrw hgok hgb hblk hcj hrow hjl hcs hcap
        have zi := wup_ i (by have := HI.out; have := HL.out; omega)
        (repeat ((fail_if_success (with_reducible refine gate_dst (N := 40) rfl ?_)); first | go_values | go_skip | go_guarded | go_step | go_upon))
        at_builtin
        refine Kd.R_append (Kd.int .i64) (w0 := w) w.heap.size rfl (.tmp 36) (.tmp 39) 25 3 (.int .i64 0) 8 rfl Try.underlying25 rwimplI rfl (by decide) (by omega) (.slice Aj row.length cj) row ((i : Int) + 1) [.int .i64 ((i : Int) + 1)] (fun _ => True) (fun _ => False) rfl rfl ?aP (fun _ hk => hk.elim) (fun _ _ => trivial) ?aO ?aB ?aS ?aL ?_
        case aP => exact rfl
        case aO => exact Kd.R_mono HRW.out (fun _ _ => trivial)
        case aB => exact HB.out
        case aS => exact HB.out.size
        case aL => have h1_ := HRL.out; omega
        intro vA wA ho hb_ hg_ hat_
        obtain ⟨AA, cA, ev_⟩ := Kd.R_slice ho
        rw [List.length_append, List.length_singleton] at ev_
        subst ev_
        have nL := Aside0.mk (blk_grown HBL.out hg_ (fun he_ => (HRW.out.1 g he_.symm).2 rfl))
        have HR5 := Aside0.mk ho
        have HG5 := Aside0.mk hg_
        have HA5 := Aside0.mk hat_
        have nB := Aside0.mk hb_
        have n1 := Aside0.mk (Kd.S_grown HS1.out hg_ (fun q_ hq_ he_ => HDI.out q_ hq_ (HRW.out.1 q_ he_.symm).1))
        clear HB ho hb_ hg_ hat_ xj
        have HB := nB
        clear nB
        (repeat ((fail_if_success (with_reducible refine gate_store (t := 25) (p := 41) rfl ?_)); first | go_values | go_skip | go_guarded | go_step | go_upon))
        refine put_event (by rfl) (by rfl) (t := 25) (p := .tmp 41) (by rfl) (g := _) (off := j) (cur.setIfInBounds j (.slice AA (row.length + 1) cA)) ([.slice AA (row.length + 1) cA]) (by rfl) (by rfl) nL.out (by rfl) (by first | rfl | decide) (one_one (by rfl)) ?hfit ?hc ?_
        case hfit => show j + 1 ≤ cur.size; have h1_ := HCC.out; have h2_ := HJL.out; (try simp only [List.length_append, List.length_singleton] at h1_ h2_); omega
        case hc => exact set_toList _ _ _ (by have h1_ := HCC.out; have h2_ := HJL.out; (try simp only [List.length_append, List.length_singleton] at h1_ h2_); omega)
        intro wB hw_ hgr_
        have hS6 := Kd.S_upd HS2.out HBL.out HJL.out HCJ.out HR5.out HG5.out HA5.out hw_ hgr_
        have hB6 := pw_below_grown HB.out _ HB.out.size hgr_ (fun q_ he_ => by rw [← Option.some.inj he_]; exact HGO.out.2)
        have hK6 : Kept w5 wB Q2 := (kept_of_grown HG5.out (fun q_ hq_ => (HRW.out.1 q_ hq_).1)).of_grown hgr_ (fun q_ hq_ => .inl (by rw [← Option.some.inj hq_]; exact HGO.out.1))
        have HT := Aside0.mk (Two.one HS1.out (fun q_ h1_ h2_ => HDI.out q_ h2_ h1_) hS6 hK6).swap
        have nB := Aside0.mk hB6
        clear HB hS6 hB6 hK6 hw_ hgr_ n1 nL
        have HB := nB
        clear nB
        have hse_ : (ys ++ [([] : List Int)]).set j (row ++ [(i : Int) + 1]) = ys ++ [[(i : Int) + 1]] := by rw [← HYR.out, HJE.out]; simp
        have HA2 := Aside0.mk (show rowsGo k l0 d (i + 1) xs2 ((ys ++ [([] : List Int)]).set j (row ++ [(i : Int) + 1])) = some r from by rw [hse_]; exact HA.out)
        clear hse_
        go_wp2
        go_roundg d
        case measure => omega
        case rel => exact ⟨i + 1, xs2, _, _, _, rfl, rfl, (by first | rfl | rw [zi]), ⟨by have := HI.out; omega⟩, HA2, HT, HB⟩
      · skip
        rw [if_neg hje] at hA
        have d1 : ((j : Int) == (ys.length : Int)) = false := beq_eq_false_iff_ne.mpr hje
        have d2 : (j == ys.length) = false := beq_eq_false_iff_ne.mpr (by omega)
        have HJE := Aside0.mk (show j < ys.length by have := HOK.out.2.2; omega)
        have HA := Aside0.mk hA
        clear hA hje
        have hjl : j < (ys).length := HJE.out
        obtain ⟨g, cap, eV⟩ := Kd.S_formed HS2.out (by omega)
        injection eV with eA eN eC
        subst eA eC
        clear eN
        obtain ⟨hN_, hgok, hgb, cur, vj, hblk, hcs, hcap, hcj, hrow⟩ := Kd.S_rowAt HS2.out hjl
        clear hN_
        obtain ⟨Aj, cj, ej⟩ := Kd.R_slice hrow
        subst ej
        obtain ⟨row, hrw⟩ : ∃ row, (ys).getD j [] = row := ⟨_, rfl⟩
        rw [hrw] at hrow hcj
        have xj : w3.cell? ⟨g, j, none⟩ = some (.slice Aj row.length cj) := (blk_cell hblk j).trans hcj
        have HBL := Aside0.mk hblk
        have HCJ := Aside0.mk hcj
        have HRW := Aside0.mk hrow
        have HGO := Aside0.mk (And.intro hgok hgb)
        have HJL := Aside0.mk hjl
        have HCC := Aside0.mk (And.intro hcs hcap)
        have HRL := Aside0.mk (show row.length < 1000000 from by rw [← hrw, List.getD_eq_getElem?_getD, List.getElem?_eq_getElem HJE.out]; exact HOK.out.1.2 _ (List.getElem_mem _))
        have HYR := Aside0.mk hrw
        have p7 : (j < ys.length) = True := eq_true (by have h_ := hjl; (try rw [List.length_append, List.length_singleton] at h_); exact h_)
        have p8 : (j ≤ ys.length) = True := eq_true (by have h_ := hjl; (try rw [List.length_append, List.length_singleton] at h_); omega)
        have p9 : ((j : Int) < (ys.length : Int) + 1) = True := eq_true (by have h_ := hjl; (try rw [List.length_append, List.length_singleton] at h_); omega)
        clear hrw hgok hgb hblk hcj hrow hjl hcs hcap
        have zi := wup_ i (by have := HI.out; have := HL.out; omega)
        (repeat ((fail_if_success (with_reducible refine gate_dst (N := 40) rfl ?_)); first | go_values | go_skip | go_guarded | go_step | go_upon))
        at_builtin
        refine Kd.R_append (Kd.int .i64) (w0 := w) w.heap.size rfl (.tmp 36) (.tmp 39) 25 3 (.int .i64 0) 8 rfl Try.underlying25 rwimplI rfl (by decide) (by omega) (.slice Aj row.length cj) row ((i : Int) + 1) [.int .i64 ((i : Int) + 1)] (fun _ => True) (fun _ => False) rfl rfl ?aP (fun _ hk => hk.elim) (fun _ _ => trivial) ?aO ?aB ?aS ?aL ?_
        case aP => exact rfl
        case aO => exact Kd.R_mono HRW.out (fun _ _ => trivial)
        case aB => exact HB.out
        case aS => exact HB.out.size
        case aL => have h1_ := HRL.out; omega
        intro vA wA ho hb_ hg_ hat_
        obtain ⟨AA, cA, ev_⟩ := Kd.R_slice ho
        rw [List.length_append, List.length_singleton] at ev_
        subst ev_
        have nL := Aside0.mk (blk_grown HBL.out hg_ (fun he_ => (HRW.out.1 g he_.symm).2 rfl))
        have HR5 := Aside0.mk ho
        have HG5 := Aside0.mk hg_
        have HA5 := Aside0.mk hat_
        have nB := Aside0.mk hb_
        have n1 := Aside0.mk (Kd.S_grown HS1.out hg_ (fun q_ hq_ he_ => HDI.out q_ hq_ (HRW.out.1 q_ he_.symm).1))
        clear HB ho hb_ hg_ hat_ xj
        have HB := nB
        clear nB
        (repeat ((fail_if_success (with_reducible refine gate_store (t := 25) (p := 41) rfl ?_)); first | go_values | go_skip | go_guarded | go_step | go_upon))
        refine put_event (by rfl) (by rfl) (t := 25) (p := .tmp 41) (by rfl) (g := _) (off := j) (cur.setIfInBounds j (.slice AA (row.length + 1) cA)) ([.slice AA (row.length + 1) cA]) (by rfl) (by rfl) nL.out (by rfl) (by first | rfl | decide) (one_one (by rfl)) ?hfit ?hc ?_
        case hfit => show j + 1 ≤ cur.size; have h1_ := HCC.out; have h2_ := HJL.out; (try simp only [List.length_append, List.length_singleton] at h1_ h2_); omega
        case hc => exact set_toList _ _ _ (by have h1_ := HCC.out; have h2_ := HJL.out; (try simp only [List.length_append, List.length_singleton] at h1_ h2_); omega)
        intro wB hw_ hgr_
        have hS6 := Kd.S_upd HS2.out HBL.out HJL.out HCJ.out HR5.out HG5.out HA5.out hw_ hgr_
        have hB6 := pw_below_grown HB.out _ HB.out.size hgr_ (fun q_ he_ => by rw [← Option.some.inj he_]; exact HGO.out.2)
        have hK6 : Kept w3 wB Q2 := (kept_of_grown HG5.out (fun q_ hq_ => (HRW.out.1 q_ hq_).1)).of_grown hgr_ (fun q_ hq_ => .inl (by rw [← Option.some.inj hq_]; exact HGO.out.1))
        have HT := Aside0.mk (Two.one HS1.out (fun q_ h1_ h2_ => HDI.out q_ h2_ h1_) hS6 hK6).swap
        have nB := Aside0.mk hB6
        clear HB hS6 hB6 hK6 hw_ hgr_ n1 nL
        have HB := nB
        clear nB
        have HA2 := Aside0.mk (show rowsGo k l0 d (i + 1) xs2 (ys.set j (row ++ [(i : Int) + 1])) = some r from by rw [← HYR.out]; exact HA.out)
        go_wp2
        go_roundg d
        case measure => omega
        case rel => exact ⟨i + 1, xs2, _, _, _, rfl, rfl, (by first | rfl | rw [zi]), ⟨by have := HI.out; omega⟩, HA2, HT, HB⟩


/-! ### impl_TwinRowsOf: function 32 -/
def impl_TwinRowsOf.f (k : Nat) (l0 : List Int) : Option (List (List Int) × Bool) := (impl_isOrder.f k l0).bind fun t => if t = true then (impl_rowsOf.f k l0).bind fun q => some (q.2, true) else some ([], false)
theorem impl_TwinRowsOf.mono : ∀ a0 k, LeO (impl_TwinRowsOf.f k a0) (impl_TwinRowsOf.f (k + 1) a0) := fun _ _ => LeO.bind (impl_isOrder.mono _ _) (fun _ => LeO.ite (LeO.bind (impl_rowsOf.mono _ _) (fun _ => LeO.refl _)) (LeO.refl _))
set_option maxHeartbeats 8000000 in
set_option maxRecDepth 100000 in
theorem impl_TwinRowsOf.calls (k : Nat) (A0 : Option Addr) (c0 : Nat) (l0 : List Int) (r1 : List (List Int)) (r2 : Bool) (w : World) (hr0 : Kd.C (Kd.int .i64) w A0 l0.length l0) (hc0 : l0.length ≤ c0) (h : impl_TwinRowsOf.f k l0 = some (r1, r2)) :
    Calls Try.prog 32 #[.slice A0 l0.length c0] w fun e w' => ∃ v0_ : Value, e = .returned (.tuple #[v0_, .bool r2]) ∧ Kd.S (Kd.slice 3 (Kd.int .i64)) 25 w' w.heap.size (fun _ => True) v0_ r1 ∧ Below w.heap.size w w' := by
  have HR0 := Aside0.mk hr0
  have HC0 := Aside0.mk hc0
  unfold impl_TwinRowsOf.f at h
  obtain ⟨t, h1, H⟩ := Option.bind_eq_some_iff.1 h
  have A2 := Aside0.mk h1
  clear hr0 hc0 h h1
  cases t with
  | false =>
    rw [if_neg (by simp)] at H
    obtain ⟨rfl, rfl⟩ := Prod.mk.inj (Option.some.inj H)
    clear H
    go_enter Try.func32, Try.ntmps32
    (repeat ((fail_if_success (with_reducible refine gate_dst (N := 7) rfl ?_)); first | go_values | go_skip | go_guarded | go_step | go_upon))
    refine goesL_ (some 7) rfl rfl Try.func58 (by kernel_rfl) rfl #[.slice A0 l0.length c0] rfl (by (try simp only [List.map_toArray, List.map_cons, List.map_nil]); first | done | rfl) ?_
    refine (impl_isOrder.calls k A0 c0 l0 _ w HR0.out HC0.out A2.out).mono ?_
    rintro e wS ⟨rfl, hdr⟩
    refine ⟨_, rfl, ?_⟩
    have HB := Aside0.mk hdr.below
    clear hdr
    go_wp2
    go_ret2
    exact ⟨_, rfl, Kd.S_nil _ _ _ _ _, HB.out⟩
  | true =>
    rw [if_pos rfl] at H
    obtain ⟨q, h1, H2⟩ := Option.bind_eq_some_iff.1 H
    have A3 := Aside0.mk h1
    obtain ⟨rfl, rfl⟩ := Prod.mk.inj (Option.some.inj H2)
    clear H H2 h1
    go_enter Try.func32, Try.ntmps32
    (repeat ((fail_if_success (with_reducible refine gate_dst (N := 7) rfl ?_)); first | go_values | go_skip | go_guarded | go_step | go_upon))
    refine goesL_ (some 7) rfl rfl Try.func58 (by kernel_rfl) rfl #[.slice A0 l0.length c0] rfl (by (try simp only [List.map_toArray, List.map_cons, List.map_nil]); first | done | rfl) ?_
    refine (impl_isOrder.calls k A0 c0 l0 _ w HR0.out HC0.out A2.out).mono ?_
    rintro e wS ⟨rfl, hdr⟩
    refine ⟨_, rfl, ?_⟩
    have HB := Aside0.mk hdr.below
    clear hdr
    (repeat ((fail_if_success (with_reducible refine gate_dst (N := 11) rfl ?_)); first | go_values | go_skip | go_guarded | go_step | go_upon))
    refine goesL_ (some 11) rfl rfl Try.func63 (by kernel_rfl) rfl #[.slice A0 l0.length c0] rfl (by (try simp only [List.map_toArray, List.map_cons, List.map_nil]); first | done | rfl) ?_
    refine (impl_rowsOf.calls k A0 c0 l0 q wS (Kd.C_below HR0.out HB.out) HC0.out A3.out).mono ?_
    rintro e wP ⟨v_, u_, rfl, ht_, hb_⟩
    refine ⟨_, rfl, ?_⟩
    obtain ⟨P_, Q_, h1_, h2_, _⟩ := ht_
    have HS := Aside0.mk (Kd.S_lower (Kd.S_mono h2_ (fun _ _ => trivial)) HB.out.size)
    have nB := Aside0.mk (below_step HB.out hb_)
    clear HB hb_ h1_ h2_
    go_wp2
    go_ret2
    exact ⟨_, rfl, HS.out, nB.out⟩


end Go.Proofs.Ytnfcopikfbnheaa.PFnExactTwinRowsOf
