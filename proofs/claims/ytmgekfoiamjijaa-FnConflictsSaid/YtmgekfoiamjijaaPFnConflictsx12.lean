-- laid by mkprint.py, a program of this claim's writer, over the kit's print program; parts of it are typed by hand
import Derived.Test.YtmgekfoiamjijaaPFnConflictsx0
namespace Go.Proofs.Ytmgekfoiamjijaa.PFnConflicts
open Go.RowKit Go.Proofs.YtmgekfoiamjijaaW.PrintWords Go.Proofs.YtmgekfoiamjijaaW.PrintLast Go.Proofs.YtmgekfoiamjijaaW.PrintMore
attribute [local go_sem] max2_int min2_int max_two min_two max_three min_three max_four min_four
set_option linter.unusedVariables false
set_option linter.unusedSimpArgs false
theorem plSpI : (Try.prog.info? 3).map (fun i => (i.zero, i.size, i.bytes)) = some (some (.int .i64 0), 1, 8) := by kernel_rfl
def spec_l7Pop.f (k : Nat) (s : Pl) : Option Pl := popGo k 0 s
theorem spec_l7Pop.mono : ∀ a0 k, LeO (spec_l7Pop.f k a0) (spec_l7Pop.f (k + 1) a0) := fun _ _ => popGo_mono _ _ _
set_option maxHeartbeats 8000000 in
set_option maxRecDepth 100000 in
theorem spec_l7Pop.calls (k : Nat) (gs : Nat) (c : Nat → Value) (s r : Pl) (w0 w : World) (hs : w.heap[gs]? = some (.cells (quad c) 24 (0, 0))) (hgs : w0.heap.size ≤ gs) (h5 : Five 3 w w0.heap.size 5 c s.x) (hB : Below w0.heap.size w0 w) (h : spec_l7Pop.f k s = some r) :
    Calls Try.prog 73 #[.agg (seven gs s.mv (c 4) s.d)] w fun e w' => ∃ c' : Nat → Value, e = .returned (.agg (seven gs r.mv (c' 4) r.d)) ∧ w'.heap[gs]? = some (.cells (quad c') 24 (0, 0)) ∧ Five 3 w' w0.heap.size 5 c' r.x ∧ Below w0.heap.size w0 w' ∧ KT 61 w w' := by
  have HH0 := Aside0.mk hs
  have HG0 := Aside0.mk hgs
  have H50 := Aside0.mk h5
  have HB0 := Aside0.mk hB
  have HF := Aside0.mk (show popGo k 0 s = some r from h)
  clear hs hgs h5 hB h
  go_enter Try.func73, Try.ntmps73
  (repeat ((fail_if_success (with_reducible refine gate_dst (N := 1) rfl ?_)); first | go_values | go_skip | go_guarded | go_step | go_upon))
  refine box_event ?hg (N := 1) ?hd (cs := seven gs s.mv (c 4) s.d) (t := 61) ?hr ?_
  case hd => rfl
  case hg => rfl
  case hr => first | (go_simp; done) | (go_simp; rfl)
  intro gp hgp w1 hbx1 hb1
  have Hgp := Aside0.mk hgp
  clear hgp
  (repeat ((fail_if_success (with_reducible refine gate_dst (N := 2) rfl ?_)); first | go_values | go_skip | go_guarded | go_step | go_upon))
  refine box_event ?hg (N := 2) ?hd (cs := #[.slice none 0 0, .string ⟨#[]⟩, .slice none 0 0, .int .i64 0, .int .i64 0, .int .i64 0, .int .i64 0]) (t := 61) ?hr ?_
  case hd => rfl
  case hg => rfl
  case hr => first | (go_simp; done) | (go_simp; rfl)
  intro gr hgr w2 hbx2 hb2
  have Hgr := Aside0.mk hgr
  clear hgr
  have l1_ := blk_lt hbx1
  have l0_ := blk_lt HH0.out
  have q1_ := Hgp.out
  have q2_ := Hgr.out
  have q3_ := HG0.out
  have q4_ := HB0.out.size
  have HN := Aside0.mk (show PlN 3 5 61 24 61 w0 gp gs gr from ⟨⟨by omega, by omega, by omega⟩, ⟨by omega, by omega, by omega⟩, ⟨by decide, by decide, by decide⟩, ⟨by decide, by decide, by decide⟩, by decide⟩)
  have HKP := Aside0.mk (show w.heap.size ≤ gp by omega)
  have HKR := Aside0.mk (show w.heap.size ≤ gr by omega)
  have HX := Aside0.mk (show PlY 3 5 61 24 61 w w0 w2 gp gs gr (seven gs s.mv (c 4) s.d) (quad c) #[.slice none 0 0, .string ⟨#[]⟩, .slice none 0 0, .int .i64 0, .int .i64 0, .int .i64 0, .int .i64 0] c s.x (.slice none 0 0) [] from ⟨⟨⟨blk_below hbx1 hb2, blk_below (blk_below HH0.out hb1) hb2, hbx2⟩, (H50.out.below hb1).below hb2, Kd.R_nil _ _ _ _ _, below_then (below_then HB0.out HB0.out.size hb1) (Nat.le_trans HB0.out.size hb1.size) hb2⟩, ((KT.refl _ _).below hb1).below hb2⟩)
  clear hbx1 hbx2 hb1 hb2 l1_ l0_ q1_ q2_ q3_ q4_ Hgp Hgr HH0 HG0 H50 HB0
  go_wp2
  go_loopg [3] k (fun kq v3 w' => ∃ (j : Nat) (s3 : Pl) (c3 : Nat → Value), v3 = .int .i64 (j : Int) ∧ Aside0 (j ≤ 4) ∧ Aside0 (popGo kq j s3 = some r) ∧ Aside0 (PlY 3 5 61 24 61 w w0 w' gp gs gr (seven gs s3.mv (c3 4) s3.d) (quad c3) #[.slice none 0 0, .string ⟨#[]⟩, .slice none 0 0, .int .i64 0, .int .i64 0, .int .i64 0, .int .i64 0] c3 s3.x (.slice none 0 0) []))
  case atStart => exact ⟨0, s, c, rfl, ⟨by omega⟩, HF, HX⟩
  case round =>
    clear HX HF
    obtain ⟨j, s3, c3, rfl, HJ, HQ, HX⟩ := hrel
    cases gk with
    | zero => exact absurd HQ.out (by simp [popGo])
    | succ e =>
      have hQ := HQ.out
      rw [popGo] at hQ
      clear HQ
      have e0 : wr.cell? ⟨gp, 0, none⟩ = some (.slice (some ⟨gs, 0, none⟩) 4 4) := (blk_cell HX.out.1.1.1 0).trans rfl
      by_cases hj4 : j < 4
      · skip
        rw [if_pos hj4] at hQ
        by_cases hok : s3.ok
        case neg => rw [if_neg hok] at hQ; cases hQ
        rw [if_pos hok] at hQ
        have HOK := Aside0.mk hok
        have HJ4 := Aside0.mk hj4
        have c1 : decide (j < 4) = true := decide_eq_true hj4
        have c1b : decide ((j : Int) < 4) = true := decide_eq_true (by omega)
        have p4 : (j < 4) = True := eq_true hj4
        have p4b : ((j : Int) < 4) = True := eq_true (by omega)
        clear hok hj4
        obtain ⟨As3, cs3, eS⟩ := Kd.R_slice (HX.out.1.row j (by have := HJ4.out; omega))
        have HS := Aside0.mk eS
        have xs : wr.cell? ⟨gs, j, none⟩ = some (.slice As3 (s3.x j).length cs3) := (blk_cell HX.out.1.1.2.1 j).trans ((quad_get c3 j HJ4.out).trans (congrArg some eS))
        clear eS
        rcases Nat.eq_zero_or_pos (s3.x j).length with hlen | hlen
        · skip
          rw [if_neg (show ¬ s3.hit j from fun h_ => by have := h_.1; omega)] at hQ
          have HQ := Aside0.mk hQ
          have zl : ((s3.x j).length : Int) = 0 := by omega
          have zl2 : (s3.x j).length = 0 := hlen
          have HLN := Aside0.mk hlen
          clear hQ hlen
          go_wp2
          have nX := Aside0.mk (HX.out.below (below_drew (Below.refl _ _)))
          clear HX
          have HX := nX
          clear nX
          refine start_ (n := 18) (S := fun w' => True) (ds := []) #[false, false, false, false, false, false, false, false, false, false, false, false, false, false, false, false, false, false] (by kernel_rfl) rfl rfl trivial (fun hHeld => ?_)
          generalize wr.drew = w12 at HX ⊢
          refine pure_ (i := 0) (N := some 18) (v := ?_) (a' := ?_) #[true, false, false, false, false, false, false, false, false, false, false, false, false, false, false, false, false, false] rfl rfl (by kernel_rfl) (fun _ _ _ h => h) (Or.inl ⟨by rfl, ?_⟩) ?_ ?_
          rotate_left
          · intro w'
            go_simp
            with_reducible rfl
          rotate_left
          · simp only [Act.put, List.setIfInBounds_toArray, List.set_cons_zero, List.set_cons_succ, i64_w, i32_w]
            rfl
          refine pure_ (i := 1) (N := some 19) (v := ?_) (a' := ?_) #[true, true, false, false, false, false, false, false, false, false, false, false, false, false, false, false, false, false] rfl rfl (by kernel_rfl) (fun _ _ _ h => h) (Or.inl ⟨by rfl, ?_⟩) ?_ ?_
          rotate_left
          · intro w'
            go_simp
            with_reducible rfl
          rotate_left
          · simp only [Act.put, List.setIfInBounds_toArray, List.set_cons_zero, List.set_cons_succ, i64_w, i32_w]
            rfl
          refine pure_ (i := 2) (N := some 20) (v := ?_) (a' := ?_) #[true, true, true, false, false, false, false, false, false, false, false, false, false, false, false, false, false, false] rfl rfl (by kernel_rfl) (fun _ _ _ h => h) (Or.inl ⟨by rfl, ?_⟩) ?_ ?_
          rotate_left
          · intro w'
            go_simp
            with_reducible rfl
          rotate_left
          · simp only [Act.put, List.setIfInBounds_toArray, List.set_cons_zero, List.set_cons_succ, i64_w, i32_w]
            rfl
          refine pure_ (i := 3) (N := some 21) (v := undef) (a' := ?_) #[true, true, true, true, false, false, false, false, false, false, false, false, false, false, false, false, false, false] rfl rfl (by kernel_rfl) (fun _ _ _ h => h) (Or.inr ⟨by rfl, rfl⟩) ?_ ?_
          rotate_left
          · simp only [Act.put, List.setIfInBounds_toArray, List.set_cons_zero, List.set_cons_succ, i64_w, i32_w]
            rfl
          refine pure_ (i := 4) (N := some 22) (v := undef) (a' := ?_) #[true, true, true, true, true, false, false, false, false, false, false, false, false, false, false, false, false, false] rfl rfl (by kernel_rfl) (fun _ _ _ h => h) (Or.inr ⟨by rfl, rfl⟩) ?_ ?_
          rotate_left
          · simp only [Act.put, List.setIfInBounds_toArray, List.set_cons_zero, List.set_cons_succ, i64_w, i32_w]
            rfl
          refine pure_ (i := 5) (N := some 23) (v := undef) (a' := ?_) #[true, true, true, true, true, true, false, false, false, false, false, false, false, false, false, false, false, false] rfl rfl (by kernel_rfl) (fun _ _ _ h => h) (Or.inr ⟨by rfl, rfl⟩) ?_ ?_
          rotate_left
          · simp only [Act.put, List.setIfInBounds_toArray, List.set_cons_zero, List.set_cons_succ, i64_w, i32_w]
            rfl
          refine pure_ (i := 6) (N := some 24) (v := undef) (a' := ?_) #[true, true, true, true, true, true, true, false, false, false, false, false, false, false, false, false, false, false] rfl rfl (by kernel_rfl) (fun _ _ _ h => h) (Or.inr ⟨by rfl, rfl⟩) ?_ ?_
          rotate_left
          · simp only [Act.put, List.setIfInBounds_toArray, List.set_cons_zero, List.set_cons_succ, i64_w, i32_w]
            rfl
          refine pure_ (i := 7) (N := some 25) (v := undef) (a' := ?_) #[true, true, true, true, true, true, true, true, false, false, false, false, false, false, false, false, false, false] rfl rfl (by kernel_rfl) (fun _ _ _ h => h) (Or.inr ⟨by rfl, rfl⟩) ?_ ?_
          rotate_left
          · simp only [Act.put, List.setIfInBounds_toArray, List.set_cons_zero, List.set_cons_succ, i64_w, i32_w]
            rfl
          refine pure_ (i := 8) (N := some 26) (v := undef) (a' := ?_) #[true, true, true, true, true, true, true, true, true, false, false, false, false, false, false, false, false, false] rfl rfl (by kernel_rfl) (fun _ _ _ h => h) (Or.inr ⟨by rfl, rfl⟩) ?_ ?_
          rotate_left
          · simp only [Act.put, List.setIfInBounds_toArray, List.set_cons_zero, List.set_cons_succ, i64_w, i32_w]
            rfl
          refine pure_ (i := 9) (N := some 27) (v := undef) (a' := ?_) #[true, true, true, true, true, true, true, true, true, true, false, false, false, false, false, false, false, false] rfl rfl (by kernel_rfl) (fun _ _ _ h => h) (Or.inr ⟨by rfl, rfl⟩) ?_ ?_
          rotate_left
          · simp only [Act.put, List.setIfInBounds_toArray, List.set_cons_zero, List.set_cons_succ, i64_w, i32_w]
            rfl
          refine pure_ (i := 10) (N := some 28) (v := undef) (a' := ?_) #[true, true, true, true, true, true, true, true, true, true, true, false, false, false, false, false, false, false] rfl rfl (by kernel_rfl) (fun _ _ _ h => h) (Or.inr ⟨by rfl, rfl⟩) ?_ ?_
          rotate_left
          · simp only [Act.put, List.setIfInBounds_toArray, List.set_cons_zero, List.set_cons_succ, i64_w, i32_w]
            rfl
          refine pure_ (i := 11) (N := some 29) (v := undef) (a' := ?_) #[true, true, true, true, true, true, true, true, true, true, true, true, false, false, false, false, false, false] rfl rfl (by kernel_rfl) (fun _ _ _ h => h) (Or.inr ⟨by rfl, rfl⟩) ?_ ?_
          rotate_left
          · simp only [Act.put, List.setIfInBounds_toArray, List.set_cons_zero, List.set_cons_succ, i64_w, i32_w]
            rfl
          refine pure_ (i := 12) (N := some 30) (v := undef) (a' := ?_) #[true, true, true, true, true, true, true, true, true, true, true, true, true, false, false, false, false, false] rfl rfl (by kernel_rfl) (fun _ _ _ h => h) (Or.inr ⟨by rfl, rfl⟩) ?_ ?_
          rotate_left
          · simp only [Act.put, List.setIfInBounds_toArray, List.set_cons_zero, List.set_cons_succ, i64_w, i32_w]
            rfl
          refine pure_ (i := 13) (N := some 31) (v := undef) (a' := ?_) #[true, true, true, true, true, true, true, true, true, true, true, true, true, true, false, false, false, false] rfl rfl (by kernel_rfl) (fun _ _ _ h => h) (Or.inr ⟨by rfl, rfl⟩) ?_ ?_
          rotate_left
          · simp only [Act.put, List.setIfInBounds_toArray, List.set_cons_zero, List.set_cons_succ, i64_w, i32_w]
            rfl
          refine pure_ (i := 14) (N := some 32) (v := undef) (a' := ?_) #[true, true, true, true, true, true, true, true, true, true, true, true, true, true, true, false, false, false] rfl rfl (by kernel_rfl) (fun _ _ _ h => h) (Or.inr ⟨by rfl, rfl⟩) ?_ ?_
          rotate_left
          · simp only [Act.put, List.setIfInBounds_toArray, List.set_cons_zero, List.set_cons_succ, i64_w, i32_w]
            rfl
          refine pure_ (i := 15) (N := some 33) (v := undef) (a' := ?_) #[true, true, true, true, true, true, true, true, true, true, true, true, true, true, true, true, false, false] rfl rfl (by kernel_rfl) (fun _ _ _ h => h) (Or.inr ⟨by rfl, rfl⟩) ?_ ?_
          rotate_left
          · simp only [Act.put, List.setIfInBounds_toArray, List.set_cons_zero, List.set_cons_succ, i64_w, i32_w]
            rfl
          refine pure_ (i := 16) (N := some 34) (v := undef) (a' := ?_) #[true, true, true, true, true, true, true, true, true, true, true, true, true, true, true, true, true, false] rfl rfl (by kernel_rfl) (fun _ _ _ h => h) (Or.inr ⟨by rfl, rfl⟩) ?_ ?_
          rotate_left
          · simp only [Act.put, List.setIfInBounds_toArray, List.set_cons_zero, List.set_cons_succ, i64_w, i32_w]
            rfl
          refine pure_ (i := 17) (N := some 35) (v := ?_) (a' := ?_) #[true, true, true, true, true, true, true, true, true, true, true, true, true, true, true, true, true, true] rfl rfl (by kernel_rfl) (fun _ _ _ h => h) (Or.inl ⟨by rfl, ?_⟩) ?_ ?_
          rotate_left
          · intro w'
            go_simp
            with_reducible rfl
          rotate_left
          · simp only [Act.put, List.setIfInBounds_toArray, List.set_cons_zero, List.set_cons_succ, i64_w, i32_w]
            rfl
          refine done_ (by kernel_rfl) ?_
          clear hHeld zl zl2 xs e0
          go_wp2
          have zj := wup_ j (by have := HJ4.out; omega)
          go_roundg e
          case measure => omega
          case rel => exact ⟨j + 1, s3, c3, (by first | rfl | rw [zj]), ⟨by have := HJ4.out; omega⟩, HQ, HX⟩
        · skip
          obtain ⟨ln, hln⟩ : ∃ ln : Nat, (s3.x j).length = ln + 1 := ⟨(s3.x j).length - 1, by omega⟩
          have zm : wrap64 (((s3.x j).length : Int) - 1) = (ln : Int) := by rw [hln, w64_ (by have := HOK.out.2 j HJ4.out; omega)]; omega
          obtain ⟨ad3, eA3, hcl⟩ := last_cell (HS.out ▸ HX.out.1.row j (by have := HJ4.out; omega)) hlen
          rw [hln, Nat.add_sub_cancel] at hcl
          subst eA3
          obtain ⟨lv, hlv⟩ : ∃ lv : Int, lastOf (s3.x j) = lv := ⟨_, rfl⟩
          rw [hlv] at hcl
          obtain ⟨Ao, co, eO⟩ := Kd.R_slice (HX.out.1.row 4 (by decide))
          have HO4 := Aside0.mk eO
          obtain ⟨o1, ho1⟩ : ∃ o1 : Int, ((s3.x 4).length : Int) + 1 = o1 := ⟨_, rfl⟩
          have zo : wrap64 (((s3.x 4).length : Int) + 1) = o1 := by rw [← ho1]; exact w64_ (by have := HOK.out.1.1; omega)
          have xo : wr.cell? ⟨gp, 2, none⟩ = some (.slice Ao (s3.x 4).length co) := (blk_cell HX.out.1.1.1 2).trans (congrArg some eO)
          have HLN := Aside0.mk hln
          have HLV := Aside0.mk hlv
          have HO1 := Aside0.mk ho1
          have p5 : (ln < (s3.x j).length) = True := eq_true (by omega)
          have p6 : ((ln : Int) < ((s3.x j).length : Int)) = True := eq_true (by omega)
          have p7 : (0 < (s3.x j).length) = True := eq_true hlen
          have d0 : decide (0 < (s3.x j).length) = true := decide_eq_true hlen
          have d0b : decide ((0 : Int) < ((s3.x j).length : Int)) = true := decide_eq_true (by omega)
          clear hlen hln hlv ho1 eO
          go_wp2
          have nX := Aside0.mk (HX.out.below (below_drew (Below.refl _ _)))
          clear HX
          have HX := nX
          clear nX
          refine start_ (n := 18) (S := fun w' => w'.cell? ⟨gp, 0, none⟩ = some (.slice (some ⟨gs, 0, none⟩) 4 4) ∧ w'.cell? ⟨gs, j, none⟩ = some (.slice (some ad3) (s3.x j).length cs3) ∧ w'.cell? (ad3.add ln) = some (.int .i64 lv) ∧ w'.cell? ⟨gp, 2, none⟩ = some (.slice Ao (s3.x 4).length co)) (ds := []) #[false, false, false, false, false, false, false, false, false, false, false, false, false, false, false, false, false, false] (by kernel_rfl) rfl rfl ⟨pw_cell_below (below_drew (Below.refl _ _)) e0, pw_cell_below (below_drew (Below.refl _ _)) xs, pw_cell_below (below_drew (Below.refl _ _)) hcl, pw_cell_below (below_drew (Below.refl _ _)) xo⟩ (fun hHeld => ?_)
          generalize wr.drew = w12 at HX hHeld ⊢
          refine pure_ (i := 0) (N := some 18) (v := ?_) (a' := ?_) #[true, false, false, false, false, false, false, false, false, false, false, false, false, false, false, false, false, false] rfl rfl (by kernel_rfl) (fun _ _ _ h => h) (Or.inl ⟨by rfl, ?_⟩) ?_ ?_
          rotate_left
          · intro w'
            go_simp
            with_reducible rfl
          rotate_left
          · simp only [Act.put, List.setIfInBounds_toArray, List.set_cons_zero, List.set_cons_succ, i64_w, i32_w]
            rfl
          refine pure_ (i := 1) (N := some 19) (v := ?_) (a' := ?_) #[true, true, false, false, false, false, false, false, false, false, false, false, false, false, false, false, false, false] rfl rfl (by kernel_rfl) (fun _ _ _ h => h) (Or.inl ⟨by rfl, ?_⟩) ?_ ?_
          rotate_left
          · intro w'
            go_simp
            with_reducible rfl
          rotate_left
          · simp only [Act.put, List.setIfInBounds_toArray, List.set_cons_zero, List.set_cons_succ, i64_w, i32_w]
            rfl
          refine pure_ (i := 2) (N := some 20) (v := ?_) (a' := ?_) #[true, true, true, false, false, false, false, false, false, false, false, false, false, false, false, false, false, false] rfl rfl (by kernel_rfl) (fun _ _ _ h => h) (Or.inl ⟨by rfl, ?_⟩) ?_ ?_
          rotate_left
          · intro w'
            go_simp
            with_reducible rfl
          rotate_left
          · simp only [Act.put, List.setIfInBounds_toArray, List.set_cons_zero, List.set_cons_succ, i64_w, i32_w]
            rfl
          refine pure_ (i := 3) (N := some 21) (v := ?_) (a' := ?_) #[true, true, true, true, false, false, false, false, false, false, false, false, false, false, false, false, false, false] rfl rfl (by kernel_rfl) (fun _ _ _ h => h) (Or.inl ⟨by rfl, ?_⟩) ?_ ?_
          rotate_left
          · intro w'
            go_simp
            with_reducible rfl
          rotate_left
          · simp only [Act.put, List.setIfInBounds_toArray, List.set_cons_zero, List.set_cons_succ, i64_w, i32_w]
            rfl
          refine take_ (i := 4) (N := some 22) (v := ?_) (a' := ?_) #[true, true, true, true, true, false, false, false, false, false, false, false, false, false, false, false, false, false] rfl rfl (by kernel_rfl) (fun _ _ _ h => h) (Or.inl ⟨by rfl, ?_⟩) hHeld ?_ ?_
          rotate_left
          · rintro w' ⟨s0_, s1_⟩
            go_simp
            with_reducible rfl
          rotate_left
          · simp only [Act.put, List.setIfInBounds_toArray, List.set_cons_zero, List.set_cons_succ, i64_w, i32_w]
            rfl
          refine pure_ (i := 5) (N := some 23) (v := ?_) (a' := ?_) #[true, true, true, true, true, true, false, false, false, false, false, false, false, false, false, false, false, false] rfl rfl (by kernel_rfl) (fun _ _ _ h => h) (Or.inl ⟨by rfl, ?_⟩) ?_ ?_
          rotate_left
          · intro w'
            go_simp
            with_reducible rfl
          rotate_left
          · simp only [Act.put, List.setIfInBounds_toArray, List.set_cons_zero, List.set_cons_succ, i64_w, i32_w]
            rfl
          refine pure_ (i := 6) (N := some 24) (v := ?_) (a' := ?_) #[true, true, true, true, true, true, true, false, false, false, false, false, false, false, false, false, false, false] rfl rfl (by kernel_rfl) (fun _ _ _ h => h) (Or.inl ⟨by rfl, ?_⟩) ?_ ?_
          rotate_left
          · intro w'
            go_simp
            with_reducible rfl
          rotate_left
          · simp only [Act.put, List.setIfInBounds_toArray, List.set_cons_zero, List.set_cons_succ, i64_w, i32_w]
            rfl
          refine take_ (i := 7) (N := some 25) (v := ?_) (a' := ?_) #[true, true, true, true, true, true, true, true, false, false, false, false, false, false, false, false, false, false] rfl rfl (by kernel_rfl) (fun _ _ _ h => h) (Or.inl ⟨by rfl, ?_⟩) hHeld ?_ ?_
          rotate_left
          · rintro w' ⟨s0_, s1_⟩
            go_simp
            with_reducible rfl
          rotate_left
          · simp only [Act.put, List.setIfInBounds_toArray, List.set_cons_zero, List.set_cons_succ, i64_w, i32_w]
            rfl
          refine pure_ (i := 8) (N := some 26) (v := ?_) (a' := ?_) #[true, true, true, true, true, true, true, true, true, false, false, false, false, false, false, false, false, false] rfl rfl (by kernel_rfl) (fun _ _ _ h => h) (Or.inl ⟨by rfl, ?_⟩) ?_ ?_
          rotate_left
          · intro w'
            go_simp
            with_reducible rfl
          rotate_left
          · simp only [Act.put, List.setIfInBounds_toArray, List.set_cons_zero, List.set_cons_succ, i64_w, i32_w]
            rfl
          refine pure_ (i := 9) (N := some 27) (v := ?_) (a' := ?_) #[true, true, true, true, true, true, true, true, true, true, false, false, false, false, false, false, false, false] rfl rfl (by kernel_rfl) (fun _ _ _ h => h) (Or.inl ⟨by rfl, ?_⟩) ?_ ?_
          rotate_left
          · intro w'
            go_simp
            with_reducible rfl
          rotate_left
          · simp only [Act.put, List.setIfInBounds_toArray, List.set_cons_zero, List.set_cons_succ, i64_w, i32_w]
            rfl
          refine pure_ (i := 10) (N := some 28) (v := ?_) (a' := ?_) #[true, true, true, true, true, true, true, true, true, true, true, false, false, false, false, false, false, false] rfl rfl (by kernel_rfl) (fun _ _ _ h => h) (Or.inl ⟨by rfl, ?_⟩) ?_ ?_
          rotate_left
          · intro w'
            go_simp
            with_reducible rfl
          rotate_left
          · simp only [Act.put, List.setIfInBounds_toArray, List.set_cons_zero, List.set_cons_succ, i64_w, i32_w]
            rfl
          refine take_ (i := 11) (N := some 29) (v := ?_) (a' := ?_) #[true, true, true, true, true, true, true, true, true, true, true, true, false, false, false, false, false, false] rfl rfl (by kernel_rfl) (fun _ _ _ h => h) (Or.inl ⟨by rfl, ?_⟩) hHeld ?_ ?_
          rotate_left
          · rintro w' ⟨s0_, s1_⟩
            go_simp
            with_reducible rfl
          rotate_left
          · simp only [Act.put, List.setIfInBounds_toArray, List.set_cons_zero, List.set_cons_succ, i64_w, i32_w]
            rfl
          refine pure_ (i := 12) (N := some 30) (v := ?_) (a' := ?_) #[true, true, true, true, true, true, true, true, true, true, true, true, true, false, false, false, false, false] rfl rfl (by kernel_rfl) (fun _ _ _ h => h) (Or.inl ⟨by rfl, ?_⟩) ?_ ?_
          rotate_left
          · intro w'
            go_simp
            with_reducible rfl
          rotate_left
          · simp only [Act.put, List.setIfInBounds_toArray, List.set_cons_zero, List.set_cons_succ, i64_w, i32_w]
            rfl
          refine take_ (i := 13) (N := some 31) (v := ?_) (a' := ?_) #[true, true, true, true, true, true, true, true, true, true, true, true, true, true, false, false, false, false] rfl rfl (by kernel_rfl) (fun _ _ _ h => h) (Or.inl ⟨by rfl, ?_⟩) hHeld ?_ ?_
          rotate_left
          · rintro w' ⟨s0_, s1_⟩
            go_simp
            with_reducible rfl
          rotate_left
          · simp only [Act.put, List.setIfInBounds_toArray, List.set_cons_zero, List.set_cons_succ, i64_w, i32_w]
            rfl
          refine pure_ (i := 14) (N := some 32) (v := ?_) (a' := ?_) #[true, true, true, true, true, true, true, true, true, true, true, true, true, true, true, false, false, false] rfl rfl (by kernel_rfl) (fun _ _ _ h => h) (Or.inl ⟨by rfl, ?_⟩) ?_ ?_
          rotate_left
          · intro w'
            go_simp
            with_reducible rfl
          rotate_left
          · simp only [Act.put, List.setIfInBounds_toArray, List.set_cons_zero, List.set_cons_succ, i64_w, i32_w]
            rfl
          refine pure_ (i := 15) (N := some 33) (v := ?_) (a' := ?_) #[true, true, true, true, true, true, true, true, true, true, true, true, true, true, true, true, false, false] rfl rfl (by kernel_rfl) (fun _ _ _ h => h) (Or.inl ⟨by rfl, ?_⟩) ?_ ?_
          rotate_left
          · intro w'
            go_simp
            with_reducible rfl
          rotate_left
          · simp only [Act.put, List.setIfInBounds_toArray, List.set_cons_zero, List.set_cons_succ, i64_w, i32_w]
            rfl
          refine pure_ (i := 16) (N := some 34) (v := ?_) (a' := ?_) #[true, true, true, true, true, true, true, true, true, true, true, true, true, true, true, true, true, false] rfl rfl (by kernel_rfl) (fun _ _ _ h => h) (Or.inl ⟨by rfl, ?_⟩) ?_ ?_
          rotate_left
          · intro w'
            go_simp
            with_reducible rfl
          rotate_left
          · simp only [Act.put, List.setIfInBounds_toArray, List.set_cons_zero, List.set_cons_succ, i64_w, i32_w]
            rfl
          refine pure_ (i := 17) (N := some 35) (v := ?_) (a' := ?_) #[true, true, true, true, true, true, true, true, true, true, true, true, true, true, true, true, true, true] rfl rfl (by kernel_rfl) (fun _ _ _ h => h) (Or.inl ⟨by rfl, ?_⟩) ?_ ?_
          rotate_left
          · intro w'
            go_simp
            with_reducible rfl
          rotate_left
          · simp only [Act.put, List.setIfInBounds_toArray, List.set_cons_zero, List.set_cons_succ, i64_w, i32_w]
            rfl
          refine done_ (by kernel_rfl) ?_
          have HH := Aside0.mk hHeld
          clear hHeld e0 xs zo hcl xo
          by_cases hhit : s3.hit j
          · skip
            rw [if_pos hhit] at hQ
            have HQ := Aside0.mk hQ
            have d1 : (lv == o1) = true := by rw [beq_iff_eq, ← HLV.out, ← HO1.out]; exact hhit.2
            clear hQ hhit
            go_wp2
            have nX := Aside0.mk (HX.out.below (below_drew (Below.refl _ _)))
            clear HX
            have HX := nX
            clear nX
            refine start_ (n := 15) (S := fun w' => w'.cell? ⟨gp, 0, none⟩ = some (.slice (some ⟨gs, 0, none⟩) 4 4) ∧ w'.cell? ⟨gs, j, none⟩ = some (.slice (some ad3) (s3.x j).length cs3) ∧ w'.cell? (ad3.add ln) = some (.int .i64 lv) ∧ w'.cell? ⟨gp, 2, none⟩ = some (.slice Ao (s3.x 4).length co)) (ds := [12, 14]) #[false, false, false, false, false, false, false, false, false, false, false, false, false, false, false] (by kernel_rfl) rfl rfl ⟨pw_cell_below (below_drew (Below.refl _ _)) HH.out.1, pw_cell_below (below_drew (Below.refl _ _)) HH.out.2.1, pw_cell_below (below_drew (Below.refl _ _)) HH.out.2.2.1, pw_cell_below (below_drew (Below.refl _ _)) HH.out.2.2.2⟩ (fun hHeld => ?_)
            generalize w12.drew = w13 at HX hHeld ⊢
            refine pure_ (i := 0) (N := some 36) (v := ?_) (a' := ?_) #[true, false, false, false, false, false, false, false, false, false, false, false, false, false, false] rfl rfl (by kernel_rfl) (fun _ _ _ h => h) (Or.inl ⟨by rfl, ?_⟩) ?_ ?_
            rotate_left
            · intro w'
              go_simp
              with_reducible rfl
            rotate_left
            · simp only [Act.put, List.setIfInBounds_toArray, List.set_cons_zero, List.set_cons_succ, i64_w, i32_w]
              rfl
            refine take_ (i := 1) (N := some 37) (v := ?_) (a' := ?_) #[true, true, false, false, false, false, false, false, false, false, false, false, false, false, false] rfl rfl (by kernel_rfl) (fun _ _ _ h => h) (Or.inl ⟨by rfl, ?_⟩) hHeld ?_ ?_
            rotate_left
            · rintro w' ⟨s0_, s1_⟩
              go_simp
              with_reducible rfl
            rotate_left
            · simp only [Act.put, List.setIfInBounds_toArray, List.set_cons_zero, List.set_cons_succ, i64_w, i32_w]
              rfl
            refine pure_ (i := 2) (N := some 38) (v := ?_) (a' := ?_) #[true, true, true, false, false, false, false, false, false, false, false, false, false, false, false] rfl rfl (by kernel_rfl) (fun _ _ _ h => h) (Or.inl ⟨by rfl, ?_⟩) ?_ ?_
            rotate_left
            · intro w'
              go_simp
              with_reducible rfl
            rotate_left
            · simp only [Act.put, List.setIfInBounds_toArray, List.set_cons_zero, List.set_cons_succ, i64_w, i32_w]
              rfl
            refine take_ (i := 3) (N := some 39) (v := ?_) (a' := ?_) #[true, true, true, true, false, false, false, false, false, false, false, false, false, false, false] rfl rfl (by kernel_rfl) (fun _ _ _ h => h) (Or.inl ⟨by rfl, ?_⟩) hHeld ?_ ?_
            rotate_left
            · rintro w' ⟨s0_, s1_⟩
              go_simp
              with_reducible rfl
            rotate_left
            · simp only [Act.put, List.setIfInBounds_toArray, List.set_cons_zero, List.set_cons_succ, i64_w, i32_w]
              rfl
            refine pure_ (i := 4) (N := some 40) (v := ?_) (a' := ?_) #[true, true, true, true, true, false, false, false, false, false, false, false, false, false, false] rfl rfl (by kernel_rfl) (fun _ _ _ h => h) (Or.inl ⟨by rfl, ?_⟩) ?_ ?_
            rotate_left
            · intro w'
              go_simp
              with_reducible rfl
            rotate_left
            · simp only [Act.put, List.setIfInBounds_toArray, List.set_cons_zero, List.set_cons_succ, i64_w, i32_w]
              rfl
            refine pure_ (i := 5) (N := some 41) (v := ?_) (a' := ?_) #[true, true, true, true, true, true, false, false, false, false, false, false, false, false, false] rfl rfl (by kernel_rfl) (fun _ _ _ h => h) (Or.inl ⟨by rfl, ?_⟩) ?_ ?_
            rotate_left
            · intro w'
              go_simp
              with_reducible rfl
            rotate_left
            · simp only [Act.put, List.setIfInBounds_toArray, List.set_cons_zero, List.set_cons_succ, i64_w, i32_w]
              rfl
            refine take_ (i := 6) (N := some 42) (v := ?_) (a' := ?_) #[true, true, true, true, true, true, true, false, false, false, false, false, false, false, false] rfl rfl (by kernel_rfl) (fun _ _ _ h => h) (Or.inl ⟨by rfl, ?_⟩) hHeld ?_ ?_
            rotate_left
            · rintro w' ⟨s0_, s1_⟩
              go_simp
              with_reducible rfl
            rotate_left
            · simp only [Act.put, List.setIfInBounds_toArray, List.set_cons_zero, List.set_cons_succ, i64_w, i32_w]
              rfl
            refine pure_ (i := 7) (N := some 43) (v := ?_) (a' := ?_) #[true, true, true, true, true, true, true, true, false, false, false, false, false, false, false] rfl rfl (by kernel_rfl) (fun _ _ _ h => h) (Or.inl ⟨by rfl, ?_⟩) ?_ ?_
            rotate_left
            · intro w'
              go_simp
              with_reducible rfl
            rotate_left
            · simp only [Act.put, List.setIfInBounds_toArray, List.set_cons_zero, List.set_cons_succ, i64_w, i32_w]
              rfl
            refine pure_ (i := 8) (N := some 44) (v := ?_) (a' := ?_) #[true, true, true, true, true, true, true, true, true, false, false, false, false, false, false] rfl rfl (by kernel_rfl) (fun _ _ _ h => h) (Or.inl ⟨by rfl, ?_⟩) ?_ ?_
            rotate_left
            · intro w'
              go_simp
              with_reducible rfl
            rotate_left
            · simp only [Act.put, List.setIfInBounds_toArray, List.set_cons_zero, List.set_cons_succ, i64_w, i32_w]
              rfl
            refine pure_ (i := 9) (N := some 45) (v := ?_) (a' := ?_) #[true, true, true, true, true, true, true, true, true, true, false, false, false, false, false] rfl rfl (by kernel_rfl) (fun _ _ _ h => h) (Or.inl ⟨by rfl, ?_⟩) ?_ ?_
            rotate_left
            · intro w'
              go_simp
              with_reducible rfl
            rotate_left
            · simp only [Act.put, List.setIfInBounds_toArray, List.set_cons_zero, List.set_cons_succ, i64_w, i32_w]
              rfl
            refine take_ (i := 10) (N := some 46) (v := ?_) (a' := ?_) #[true, true, true, true, true, true, true, true, true, true, true, false, false, false, false] rfl rfl (by kernel_rfl) (fun _ _ _ h => h) (Or.inl ⟨by rfl, ?_⟩) hHeld ?_ ?_
            rotate_left
            · rintro w' ⟨s0_, s1_⟩
              go_simp
              with_reducible rfl
            rotate_left
            · simp only [Act.put, List.setIfInBounds_toArray, List.set_cons_zero, List.set_cons_succ, i64_w, i32_w]
              rfl
            refine one_ (i := 11) (N := some 47) #[true, true, true, true, true, true, true, true, true, true, true, true, false, false, false] rfl rfl (by kernel_rfl) (by decide) (fun K hK => ?_)
            refine event_step (w1 := w13.alloc (.cells [.int .i64 lv].toArray 3)) (v := .slice (some ⟨w13.heap.size, 0, none⟩) 1 1) (by rfl) ?hr ?_
            case hr => first | (go_simp; done) | (go_simp; rfl)
            refine hK.out _ _ ⟨pw_cell_below (below_alloc (Below.refl _ _) _) hHeld.1, pw_cell_below (below_alloc (Below.refl _ _) _) hHeld.2.1, pw_cell_below (below_alloc (Below.refl _ _) _) hHeld.2.2.1, pw_cell_below (below_alloc (Below.refl _ _) _) hHeld.2.2.2⟩ (fun hHeld => ?_)
            clear hK K
            refine norm_ (a' := ?_) ?_ ?_
            rotate_left
            · show Act.put _ (some 47) _ = _
              simp only [Act.put, List.setIfInBounds_toArray, List.set_cons_zero, List.set_cons_succ, i64_w, i32_w]
              rfl
            refine last_ (i := 12) (N := some 48) #[true, true, true, true, true, true, true, true, true, true, true, true, true, false, false] rfl rfl (by kernel_rfl) (by decide) (fun K hK => ?_)
            refine Kd.R_append_step (Kd.int .i64) (w0 := w0) w0.heap.size (by rfl) (.tmp 37) (.tmp 47) 24 3 (.int .i64 0) 8 (by rfl) Try.underlying24 plSpI rfl (by decide) (by omega) (.slice Ao (s3.x 4).length co) (s3.x 4) lv [.int .i64 lv] (fun q_ => some q_ = (.slice Ao (s3.x 4).length co : Value).ownBlock ∨ w13.heap.size ≤ q_) (fun _ => False) (by rfl) (by rfl) ?aP (fun _ hk => hk.elim) ?aF ?aO ?aB ?aS ?aL ?_
            case aP => exact rfl
            case aF => exact (fun _ h_ => .inr h_)
            case aO => exact (by have h1_ := HX.out.1.2.1.own 4 (by decide); rw [HO4.out] at h1_; exact h1_)
            case aB => exact HX.out.1.2.2.2
            case aS => exact HX.out.1.2.2.2.size
            case aL => have h1_ := HOK.out.1.1; omega
            intro v8 w14 ho hb_ hg_ hat_
            obtain ⟨A8, c8, ev_⟩ := Kd.R_slice ho
            rw [List.length_append, List.length_singleton] at ev_
            subst ev_
            have nX := Aside0.mk (PlY.app HN.out HX.out (j := 4) (by decide) ho (by rw [HO4.out]; exact hg_) (by rw [HO4.out]; exact hat_) hb_)
            clear HX ho hb_ hg_ hat_ hHeld HH
            have HX := nX
            clear nX
            refine hK.out _ _ ?_
            clear hK K
            refine norm_ (a' := ?_) ?_ ?_
            rotate_left
            · show Act.put _ (some 48) _ = _
              simp only [Act.put, List.setIfInBounds_toArray, List.set_cons_zero, List.set_cons_succ, i64_w, i32_w]
              rfl
            refine pure_ (i := 13) (N := some 49) (v := ?_) (a' := ?_) #[true, true, true, true, true, true, true, true, true, true, true, true, true, true, false] rfl rfl (by kernel_rfl) (fun _ _ _ h => h) (Or.inl ⟨by rfl, ?_⟩) ?_ ?_
            rotate_left
            · intro w'
              go_simp
              with_reducible rfl
            rotate_left
            · simp only [Act.put, List.setIfInBounds_toArray, List.set_cons_zero, List.set_cons_succ, i64_w, i32_w]
              rfl
            refine last_ (i := 14) (N := none) #[true, true, true, true, true, true, true, true, true, true, true, true, true, true, true] rfl rfl (by kernel_rfl) (by decide) (fun K hK => ?_)
            refine put_step (by rfl) (by rfl) (t := 24) (p := .tmp 49) (v := .tmp 48) (by rfl) (g := _) (off := 2) (seven gs s3.mv (.slice A8 ((s3.x 4).length + 1) c8) s3.d) ([(.slice A8 ((s3.x 4).length + 1) c8)]) (by rfl) (by rfl) HX.out.1.1.1 (by rfl) (by first | rfl | decide) (by simp [Value.oneCell']) ?hfit ?hc ?_
            case hfit => show 2 + 1 ≤ 7; decide
            case hc => exact seven_put2 _ _ _ _ _
            intro w15 hw_ hgr_
            have nX := Aside0.mk (PlY.putP HN.out HKP.out HX.out hw_ hgr_)
            clear HX hw_ hgr_
            have HX := nX
            clear nX
            refine hK.out _ _ ?_
            clear hK K
            refine done_ (by kernel_rfl) ?_
            have e0 : w15.cell? ⟨gp, 0, none⟩ = some (.slice (some ⟨gs, 0, none⟩) 4 4) := (blk_cell HX.out.1.1.1 0).trans rfl
            have xs : w15.cell? ⟨gs, j, none⟩ = some (.slice (some ad3) (s3.x j).length cs3) := (blk_cell HX.out.1.1.2.1 j).trans ((quad_get c3 j HJ4.out).trans (congrArg some HS.out))
            obtain ⟨i0, hi0, _, hsz_, _⟩ := info_parts plSpI
            have hcut := cut_to (P := Try.prog) 24 3 .i64 Try.underlying24 hi0 (some ad3) (s3.x j).length cs3 (ln : Int) (by omega) (by have := HLN.out; omega) (Kd.R_reads' (HS.out ▸ (upd_ne c3 (.slice A8 ((s3.x 4).length + 1) c8) (show j ≠ 4 by have := HJ4.out; omega)) ▸ HX.out.1.row j (by have := HJ4.out; omega))).2.1
            clear hi0 hsz_
            go_wp2
            have nX := Aside0.mk (HX.out.below (below_drew (Below.refl _ _)))
            clear HX
            have HX := nX
            clear nX
            refine start_ (n := 13) (S := fun w' => w'.cell? ⟨gp, 0, none⟩ = some (.slice (some ⟨gs, 0, none⟩) 4 4) ∧ w'.cell? ⟨gs, j, none⟩ = some (.slice (some ad3) (s3.x j).length cs3)) (ds := [12]) #[false, false, false, false, false, false, false, false, false, false, false, false, false] (by kernel_rfl) rfl rfl ⟨pw_cell_below (below_drew (Below.refl _ _)) e0, pw_cell_below (below_drew (Below.refl _ _)) xs⟩ (fun hHeld => ?_)
            generalize w15.drew = w16 at HX hHeld ⊢
            clear e0 xs
            refine pure_ (i := 0) (N := some 50) (v := ?_) (a' := ?_) #[true, false, false, false, false, false, false, false, false, false, false, false, false] rfl rfl (by kernel_rfl) (fun _ _ _ h => h) (Or.inl ⟨by rfl, ?_⟩) ?_ ?_
            rotate_left
            · intro w'
              go_simp
              with_reducible rfl
            rotate_left
            · simp only [Act.put, List.setIfInBounds_toArray, List.set_cons_zero, List.set_cons_succ, i64_w, i32_w]
              rfl
            refine take_ (i := 1) (N := some 51) (v := ?_) (a' := ?_) #[true, true, false, false, false, false, false, false, false, false, false, false, false] rfl rfl (by kernel_rfl) (fun _ _ _ h => h) (Or.inl ⟨by rfl, ?_⟩) hHeld ?_ ?_
            rotate_left
            · rintro w' ⟨s0_, s1_⟩
              go_simp
              with_reducible rfl
            rotate_left
            · simp only [Act.put, List.setIfInBounds_toArray, List.set_cons_zero, List.set_cons_succ, i64_w, i32_w]
              rfl
            refine pure_ (i := 2) (N := some 52) (v := ?_) (a' := ?_) #[true, true, true, false, false, false, false, false, false, false, false, false, false] rfl rfl (by kernel_rfl) (fun _ _ _ h => h) (Or.inl ⟨by rfl, ?_⟩) ?_ ?_
            rotate_left
            · intro w'
              go_simp
              with_reducible rfl
            rotate_left
            · simp only [Act.put, List.setIfInBounds_toArray, List.set_cons_zero, List.set_cons_succ, i64_w, i32_w]
              rfl
            refine pure_ (i := 3) (N := some 53) (v := ?_) (a' := ?_) #[true, true, true, true, false, false, false, false, false, false, false, false, false] rfl rfl (by kernel_rfl) (fun _ _ _ h => h) (Or.inl ⟨by rfl, ?_⟩) ?_ ?_
            rotate_left
            · intro w'
              go_simp
              with_reducible rfl
            rotate_left
            · simp only [Act.put, List.setIfInBounds_toArray, List.set_cons_zero, List.set_cons_succ, i64_w, i32_w]
              rfl
            refine take_ (i := 4) (N := some 54) (v := ?_) (a' := ?_) #[true, true, true, true, true, false, false, false, false, false, false, false, false] rfl rfl (by kernel_rfl) (fun _ _ _ h => h) (Or.inl ⟨by rfl, ?_⟩) hHeld ?_ ?_
            rotate_left
            · rintro w' ⟨s0_, s1_⟩
              go_simp
              with_reducible rfl
            rotate_left
            · simp only [Act.put, List.setIfInBounds_toArray, List.set_cons_zero, List.set_cons_succ, i64_w, i32_w]
              rfl
            refine pure_ (i := 5) (N := some 55) (v := ?_) (a' := ?_) #[true, true, true, true, true, true, false, false, false, false, false, false, false] rfl rfl (by kernel_rfl) (fun _ _ _ h => h) (Or.inl ⟨by rfl, ?_⟩) ?_ ?_
            rotate_left
            · intro w'
              go_simp
              with_reducible rfl
            rotate_left
            · simp only [Act.put, List.setIfInBounds_toArray, List.set_cons_zero, List.set_cons_succ, i64_w, i32_w]
              rfl
            refine pure_ (i := 6) (N := some 56) (v := ?_) (a' := ?_) #[true, true, true, true, true, true, true, false, false, false, false, false, false] rfl rfl (by kernel_rfl) (fun _ _ _ h => h) (Or.inl ⟨by rfl, ?_⟩) ?_ ?_
            rotate_left
            · intro w'
              go_simp
              with_reducible rfl
            rotate_left
            · simp only [Act.put, List.setIfInBounds_toArray, List.set_cons_zero, List.set_cons_succ, i64_w, i32_w]
              rfl
            refine take_ (i := 7) (N := some 57) (v := ?_) (a' := ?_) #[true, true, true, true, true, true, true, true, false, false, false, false, false] rfl rfl (by kernel_rfl) (fun _ _ _ h => h) (Or.inl ⟨by rfl, ?_⟩) hHeld ?_ ?_
            rotate_left
            · rintro w' ⟨s0_, s1_⟩
              go_simp
              with_reducible rfl
            rotate_left
            · simp only [Act.put, List.setIfInBounds_toArray, List.set_cons_zero, List.set_cons_succ, i64_w, i32_w]
              rfl
            refine pure_ (i := 8) (N := some 58) (v := ?_) (a' := ?_) #[true, true, true, true, true, true, true, true, true, false, false, false, false] rfl rfl (by kernel_rfl) (fun _ _ _ h => h) (Or.inl ⟨by rfl, ?_⟩) ?_ ?_
            rotate_left
            · intro w'
              go_simp
              with_reducible rfl
            rotate_left
            · simp only [Act.put, List.setIfInBounds_toArray, List.set_cons_zero, List.set_cons_succ, i64_w, i32_w]
              rfl
            refine pure_ (i := 9) (N := some 59) (v := ?_) (a' := ?_) #[true, true, true, true, true, true, true, true, true, true, false, false, false] rfl rfl (by kernel_rfl) (fun _ _ _ h => h) (Or.inl ⟨by rfl, ?_⟩) ?_ ?_
            rotate_left
            · intro w'
              go_simp
              with_reducible rfl
            rotate_left
            · simp only [Act.put, List.setIfInBounds_toArray, List.set_cons_zero, List.set_cons_succ, i64_w, i32_w]
              rfl
            refine pure_ (i := 10) (N := some 60) (v := ?_) (a' := ?_) #[true, true, true, true, true, true, true, true, true, true, true, false, false] rfl rfl (by kernel_rfl) (fun _ _ _ h => h) (Or.inl ⟨by rfl, ?_⟩) ?_ ?_
            rotate_left
            · intro w'
              go_simp
              with_reducible rfl
            rotate_left
            · simp only [Act.put, List.setIfInBounds_toArray, List.set_cons_zero, List.set_cons_succ, i64_w, i32_w]
              rfl
            refine pure_ (i := 11) (N := some 61) (v := ?_) (a' := ?_) #[true, true, true, true, true, true, true, true, true, true, true, true, false] rfl rfl (by kernel_rfl) (fun _ _ _ h => h) (Or.inl ⟨by rfl, ?_⟩) ?_ ?_
            rotate_left
            · intro w'
              go_simp
              with_reducible rfl
            rotate_left
            · simp only [Act.put, List.setIfInBounds_toArray, List.set_cons_zero, List.set_cons_succ, i64_w, i32_w]
              rfl
            refine last_ (i := 12) (N := none) #[true, true, true, true, true, true, true, true, true, true, true, true, true] rfl rfl (by kernel_rfl) (by decide) (fun K hK => ?_)
            refine put_step (by rfl) (by rfl) (t := 24) (p := .tmp 61) (v := .tmp 60) (by rfl) (g := _) (off := j) (quad (upd (upd c3 4 (.slice A8 ((s3.x 4).length + 1) c8)) j (.slice (some ad3) ln cs3))) ([(.slice (some ad3) ln cs3)]) (by rfl) (by rfl) HX.out.1.1.2.1 (by rfl) (by first | rfl | decide) (by simp [Value.oneCell']) ?hfit ?hc ?_
            case hfit => show j + 1 ≤ 4; have := HJ4.out; omega
            case hc => exact quad_put (upd c3 4 (.slice A8 ((s3.x 4).length + 1) c8)) j _ HJ4.out
            intro w17 hw_ hgr_
            have nX := Aside0.mk (PlY.putS HN.out (by decide) HX.out hw_ hgr_)
            clear HX hw_ hgr_
            have HX := nX
            clear nX
            have nX := Aside0.mk (PlY.cut HX.out (j := j) (m := ln) (l := (s3.x j).length) (cp := cs3) (A := some ad3) (by have := HJ4.out; omega) (by rw [upd_ne _ _ (by have := HJ4.out; omega)]; exact HS.out) (by rw [upd_ne _ _ (by have := HJ4.out; omega)]; have := HLN.out; omega))
            clear HX
            have HX := nX
            clear nX
            refine hK.out _ _ ?_
            clear hK K hHeld
            refine done_ (by kernel_rfl) ?_
            clear hcut p5 p6 zm
            go_wp2
            have nX := Aside0.mk (HX.out.below (below_drew (Below.refl _ _)))
            clear HX
            have HX := nX
            clear nX
            refine start_ (n := 9) (S := fun w' => w'.cell? ⟨gp, 1, none⟩ = some (.string (strOfNums s3.mv)) ∧ True) (ds := [8]) #[false, false, false, false, false, false, false, false, false] (by kernel_rfl) rfl rfl ⟨(blk_cell HX.out.1.1.1 1).trans rfl, trivial⟩ (fun hHeld => ?_)
            generalize w17.drew = w18 at HX hHeld ⊢
            refine pure_ (i := 0) (N := some 62) (v := ?_) (a' := ?_) #[true, false, false, false, false, false, false, false, false] rfl rfl (by kernel_rfl) (fun _ _ _ h => h) (Or.inl ⟨by rfl, ?_⟩) ?_ ?_
            rotate_left
            · intro w'
              go_simp
              with_reducible rfl
            rotate_left
            · simp only [Act.put, List.setIfInBounds_toArray, List.set_cons_zero, List.set_cons_succ, i64_w, i32_w]
              rfl
            refine take_ (i := 1) (N := some 63) (v := ?_) (a' := ?_) #[true, true, false, false, false, false, false, false, false] rfl rfl (by kernel_rfl) (fun _ _ _ h => h) (Or.inl ⟨by rfl, ?_⟩) hHeld ?_ ?_
            rotate_left
            · rintro w' ⟨s0_, s1_⟩
              go_simp
              with_reducible rfl
            rotate_left
            · simp only [Act.put, List.setIfInBounds_toArray, List.set_cons_zero, List.set_cons_succ, i64_w, i32_w]
              rfl
            refine pure_ (i := 2) (N := some 64) (v := ?_) (a' := ?_) #[true, true, true, false, false, false, false, false, false] rfl rfl (by kernel_rfl) (fun _ _ _ h => h) (Or.inl ⟨by rfl, ?_⟩) ?_ ?_
            rotate_left
            · intro w'
              go_simp
              with_reducible rfl
            rotate_left
            · simp only [Act.put, List.setIfInBounds_toArray, List.set_cons_zero, List.set_cons_succ, i64_w, i32_w]
              rfl
            refine pure_ (i := 3) (N := some 65) (v := ?_) (a' := ?_) #[true, true, true, true, false, false, false, false, false] rfl rfl (by kernel_rfl) (fun _ _ _ h => h) (Or.inl ⟨by rfl, ?_⟩) ?_ ?_
            rotate_left
            · intro w'
              go_simp
              with_reducible rfl
            rotate_left
            · simp only [Act.put, List.setIfInBounds_toArray, List.set_cons_zero, List.set_cons_succ, i64_w, i32_w]
              rfl
            have zj1 : wrap64 ((j : Int) + 1) = (j : Int) + 1 := w64_ (by have := HJ4.out; omega)
            have hsl : ∀ w', Sem.run Try.prog (Instr.slice 9 (.string (⟨#[97, 98, 99, 100]⟩ : ByteArray)) (some (.int .i64 (j : Int))) (some (.int .i64 ((j : Int) + 1))) none) w' = .ok (.string (strOfNums [97 + (j : Int)])) w' := fun w' => sub_one (P := Try.prog) 9 Try.underlying9 (⟨#[97, 98, 99, 100]⟩ : ByteArray) 97 rfl low4 j HJ4.out
            have hz : (9223372036854775807 < (strOfNums s3.mv).size + (strOfNums [97 + (j : Int)]).size) = False := eq_false (by rw [strOfNums_size, strOfNums_size]; have h1_ := HOK.out.1.2; simp only [List.length_singleton]; omega)
            refine pure_ (i := 4) (N := some 66) (v := ?_) (a' := ?_) #[true, true, true, true, true, false, false, false, false] rfl rfl (by kernel_rfl) (fun _ _ _ h => h) (Or.inl ⟨by rfl, ?_⟩) ?_ ?_
            rotate_left
            · intro w'
              go_simp
              with_reducible rfl
            rotate_left
            · simp only [Act.put, List.setIfInBounds_toArray, List.set_cons_zero, List.set_cons_succ, i64_w, i32_w]
              rfl
            refine pure_ (i := 5) (N := some 67) (v := ?_) (a' := ?_) #[true, true, true, true, true, true, false, false, false] rfl rfl (by kernel_rfl) (fun _ _ _ h => h) (Or.inl ⟨by rfl, ?_⟩) ?_ ?_
            rotate_left
            · intro w'
              go_simp
              with_reducible rfl
            rotate_left
            · simp only [Act.put, List.setIfInBounds_toArray, List.set_cons_zero, List.set_cons_succ, i64_w, i32_w]
              rfl
            refine pure_ (i := 6) (N := some 68) (v := ?_) (a' := ?_) #[true, true, true, true, true, true, true, false, false] rfl rfl (by kernel_rfl) (fun _ _ _ h => h) (Or.inl ⟨by rfl, ?_⟩) ?_ ?_
            rotate_left
            · intro w'
              go_simp
              with_reducible rfl
            rotate_left
            · simp only [Act.put, List.setIfInBounds_toArray, List.set_cons_zero, List.set_cons_succ, i64_w, i32_w]
              rfl
            refine pure_ (i := 7) (N := some 69) (v := ?_) (a' := ?_) #[true, true, true, true, true, true, true, true, false] rfl rfl (by kernel_rfl) (fun _ _ _ h => h) (Or.inl ⟨by rfl, ?_⟩) ?_ ?_
            rotate_left
            · intro w'
              go_simp
              with_reducible rfl
            rotate_left
            · simp only [Act.put, List.setIfInBounds_toArray, List.set_cons_zero, List.set_cons_succ, i64_w, i32_w]
              rfl
            refine last_ (i := 8) (N := none) #[true, true, true, true, true, true, true, true, true] rfl rfl (by kernel_rfl) (by decide) (fun K hK => ?_)
            refine put_step (by rfl) (by rfl) (t := 9) (p := .tmp 69) (v := .tmp 68) (by rfl) (g := _) (off := 1) (seven gs (s3.mv ++ [97 + (j : Int)]) (.slice A8 ((s3.x 4).length + 1) c8) s3.d) ([.string (strOfNums s3.mv ++ strOfNums [97 + (j : Int)])]) (by rfl) (by rfl) HX.out.1.1.1 (by rfl) (by first | rfl | decide) (by simp [Value.oneCell']) ?hfit ?hc ?_
            case hfit => show 1 + 1 ≤ 7; decide
            case hc => rw [← strOfNums_snoc]; exact seven_put1 _ _ _ _ _
            intro w19 hw_ hgr_
            have nX := Aside0.mk (PlY.putP HN.out HKP.out HX.out hw_ hgr_)
            clear HX hw_ hgr_
            have HX := nX
            clear nX
            refine hK.out _ _ ?_
            clear hK K hHeld hsl hz zj1
            refine done_ (by kernel_rfl) ?_
            have hx_ : s3.pop j = ⟨upd (upd s3.x 4 (s3.x 4 ++ [lv])) j ((upd s3.x 4 (s3.x 4 ++ [lv]) j).take ln), s3.mv ++ [97 + (j : Int)], s3.d⟩ := by unfold Pl.pop; rw [HLV.out, upd_ne s3.x _ (show j ≠ 4 by have := HJ4.out; omega), HLN.out, Nat.add_sub_cancel]
            have hc4_ : (upd (upd c3 4 (.slice A8 ((s3.x 4).length + 1) c8)) j (.slice (some ad3) ln cs3)) 4 = (.slice A8 ((s3.x 4).length + 1) c8) := by rw [upd_ne _ _ (by have := HJ4.out; omega), upd_same]
            have NX := Aside0.mk (show PlY 3 5 61 24 61 w w0 w19 gp gs gr (seven gs (s3.pop j).mv ((upd (upd c3 4 (.slice A8 ((s3.x 4).length + 1) c8)) j (.slice (some ad3) ln cs3)) 4) (s3.pop j).d) (quad (upd (upd c3 4 (.slice A8 ((s3.x 4).length + 1) c8)) j (.slice (some ad3) ln cs3))) #[.slice none 0 0, .string ⟨#[]⟩, .slice none 0 0, .int .i64 0, .int .i64 0, .int .i64 0, .int .i64 0] (upd (upd c3 4 (.slice A8 ((s3.x 4).length + 1) c8)) j (.slice (some ad3) ln cs3)) (s3.pop j).x (.slice none 0 0) [] from by rw [hx_, hc4_]; exact HX.out)
            clear hx_ hc4_ HX
            have HX := NX
            clear NX
            go_wp2
            go_roundg e
            case measure => omega
            case rel => exact ⟨0, s3.pop j, _, (by first | rfl | (simp; done)), ⟨by omega⟩, HQ, HX⟩
          · skip
            rw [if_neg hhit] at hQ
            have HQ := Aside0.mk hQ
            have d1 : (lv == o1) = false := by rw [beq_eq_false_iff_ne, ← HLV.out, ← HO1.out]; intro h_; exact hhit ⟨by have := HLN.out; omega, h_⟩
            clear hQ hhit zm p5 p6
            go_wp2
            have zj := wup_ j (by have := HJ4.out; omega)
            go_roundg e
            case measure => omega
            case rel => exact ⟨j + 1, s3, c3, (by first | rfl | rw [zj]), ⟨by have := HJ4.out; omega⟩, HQ, HX⟩
      · skip
        rw [if_neg hj4] at hQ
        obtain rfl := Option.some.inj hQ
        have c1 : decide (j < 4) = false := decide_eq_false hj4
        have c1b : decide ((j : Int) < 4) = false := decide_eq_false (by omega)
        clear hQ hj4
        have e0 : wr.cell? ⟨gp, 0, none⟩ = some (.slice (some ⟨gs, 0, none⟩) 4 4) := (blk_cell HX.out.1.1.1 0).trans rfl
        have e1 : wr.cell? ⟨gp, 1, none⟩ = some (.string (strOfNums s3.mv)) := (blk_cell HX.out.1.1.1 1).trans rfl
        have e2 : wr.cell? ⟨gp, 2, none⟩ = some (c3 4) := (blk_cell HX.out.1.1.1 2).trans rfl
        have e3 : wr.cell? ⟨gp, 3, none⟩ = some (.int .i64 (s3.d 0)) := (blk_cell HX.out.1.1.1 3).trans rfl
        have e4 : wr.cell? ⟨gp, 4, none⟩ = some (.int .i64 (s3.d 1)) := (blk_cell HX.out.1.1.1 4).trans rfl
        have e5 : wr.cell? ⟨gp, 5, none⟩ = some (.int .i64 (s3.d 2)) := (blk_cell HX.out.1.1.1 5).trans rfl
        have e6 : wr.cell? ⟨gp, 6, none⟩ = some (.int .i64 (s3.d 3)) := (blk_cell HX.out.1.1.1 6).trans rfl
        go_wp2_with (first | ((with_reducible refine gate_store (t := 61) (p := 2) rfl ?_); refine put_event (by rfl) (by rfl) (t := 61) (p := .tmp 2) (by rfl) (g := _) (off := 0) (seven gs s3.mv (c3 4) s3.d) ([.slice (some ⟨gs, 0, none⟩) 4 4, .string (strOfNums s3.mv), c3 4, .int .i64 (s3.d 0), .int .i64 (s3.d 1), .int .i64 (s3.d 2), .int .i64 (s3.d 3)]) (by rfl) (by rfl) HX.out.1.1.2.2 (by rfl) (by first | rfl | decide) (seven_one (Kd.R_val (HX.out.1.row 4 (by decide))).2) ?hfit ?hc ?_; (case hfit => first | decide | (simp; done) | (simp [seven]; done)); (case hc => rfl); intro w6 hw_ hgr_; have nX := Aside0.mk (PlY.putR HN.out HKR.out HX.out hw_ hgr_); clear HX hw_ hgr_; have HX := nX; clear nX))
        clear e0 e1 e2 e3 e4 e5 e6
        (try simp only [Exit.inBlock, Exit.then])
        refine bodyPost_ret (results_cell_row rfl _ _ gr 61 (seven gs s3.mv (c3 4) s3.d) (0, 0) _ rfl HX.out.1.1.2.2 Try.underlying61 rfl (by kernel_rfl)) rfl ?_
        exact ⟨c3, rfl, HX.out.1.1.2.1, HX.out.1.2.1, HX.out.1.2.2.2, HX.out.2⟩
end Go.Proofs.Ytmgekfoiamjijaa.PFnConflicts
