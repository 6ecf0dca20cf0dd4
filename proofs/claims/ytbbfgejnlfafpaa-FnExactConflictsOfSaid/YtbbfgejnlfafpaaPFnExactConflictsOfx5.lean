-- laid by mkprint.py, a program of this claim's writer, over the kit's print program; parts of it are typed by hand
import Derived.Test.YtbbfgejnlfafpaaPFnExactConflictsOfx0
namespace Go.Proofs.Ytbbfgejnlfafpaa.PFnExactConflictsOf
open Go.RowKit Go.Proofs.YtbbfgejnlfafpaaW.PrintWords Go.Proofs.YtbbfgejnlfafpaaW.PrintLast Go.Proofs.YtbbfgejnlfafpaaW.PrintMore
attribute [local go_sem] max2_int min2_int max_two min_two max_three min_three max_four min_four   -- for this text's walks alone
set_option linter.unusedVariables false
set_option linter.unusedSimpArgs false

/-! ### laws_markIntA2S: function 32 -/
def laws_markIntA2S.l0 : Nat → List S63 → Int → Int → Option (Int × List S63)
  | 0, _, _, _ => none
  | k + 1, x, m, i => if i < (x.length : Int) then (if 0 ≤ i then (laws_markIntA2S.l0 k (x.set i.toNat ⟨m, wrap64 (m + 1)⟩) (wrap64 (wrap64 (m + 1) + 1)) (wrap64 (i + 1))) else none) else some (m, x)
def laws_markIntA2S.f (k : Nat) (l0 : List S63) (a1 : Int) : Option (Int × List S63) := laws_markIntA2S.l0 k l0 a1 0
theorem laws_markIntA2S.mono_l : ∀ k, (∀ y0 y1 y2, LeO (laws_markIntA2S.l0 k y0 y1 y2) (laws_markIntA2S.l0 (k + 1) y0 y1 y2))
  | 0 => fun _ _ _ r h => by simp [laws_markIntA2S.l0] at h
  | k + 1 => by
    have ih0 := laws_markIntA2S.mono_l k
    intro y0 y1 y2
    unfold laws_markIntA2S.l0
    exact LeO.ite (LeO.ite (ih0 _ _ _) (LeO.none _)) (LeO.refl _)
theorem laws_markIntA2S.mono : ∀ a0 a1 k, LeO (laws_markIntA2S.f k a0 a1) (laws_markIntA2S.f (k + 1) a0 a1) := fun _ _ k => laws_markIntA2S.mono_l k _ _ _
set_option maxHeartbeats 8000000 in
set_option maxRecDepth 100000 in
theorem laws_markIntA2S.calls (k : Nat) (P0_ : Nat → Prop) (u9000_ : Value) (l0 : List S63) (a1 : Int) (r1 : Int) (r2 : List S63) (w0 w : World) (hB : Below w0.heap.size w0 w) (ho0 : Kd.R k63 63 w w0.heap.size P0_ u9000_ l0) (h : laws_markIntA2S.f k l0 a1 = some (r1, r2)) :
    Calls Try.prog 32 #[u9000_, .int .i64 a1] w fun e w' => e = .returned (.int .i64 r1) ∧ Kd.R k63 63 w' w0.heap.size (fun k_ => (P0_ k_ ∨ w.heap.size ≤ k_)) u9000_ r2 ∧ Below w0.heap.size w0 w' ∧ Kept w w' (fun k_ => P0_ k_) := by
  have hu := Try.underlying63
  have HO := Aside0.mk ho0
  have HK := Aside0.mk (Kept.refl w (fun k_ => P0_ k_))
  have HB := Aside0.mk hB
  have H' := Aside0.mk (show laws_markIntA2S.l0 k l0 a1 0 = some (r1, r2) from h)
  clear hB ho0 h
  go_enter Try.func32, Try.ntmps32
  go_wp2
  go_loopg [1, 5] k (fun kq v1 v5 w' => ∃ (x : List S63) (m0 : Int) (i : Int), v1 = .int .i64 m0 ∧ v5 = .int .i64 i ∧ Aside0 (laws_markIntA2S.l0 kq x m0 i = some (r1, r2)) ∧ Aside0 (kq ≤ k) ∧ Aside0 (Kd.R k63 63 w' w0.heap.size P0_ u9000_ x) ∧ Aside0 (Kept w w' (fun k_ => P0_ k_)) ∧ Aside0 (Below w0.heap.size w0 w'))
  case atStart => exact ⟨l0, a1, 0, rfl, rfl, H', ⟨Nat.le_refl _⟩, HO, HK, HB⟩
  case round =>
    clear H' HO HK HB
    obtain ⟨x, m0, i, rfl, rfl, HA, HK1, HO, HK, HB⟩ := hrel
    cases gk with
    | zero => exact absurd HA.out (by simp [laws_markIntA2S.l0])
    | succ k1 =>
      have H := HA.out
      clear HA
      rw [laws_markIntA2S.l0] at H
      by_cases c3 : i < (x.length : Int)
      · rw [if_pos c3] at H
        by_cases c4 : 0 ≤ i
        · rw [if_pos c4] at H
          have c3b0 : decide (i < (x.length : Int)) = true := decide_eq_true c3
          have HI := Aside0.mk (And.intro c4 c3)
          obtain ⟨m1, hm1⟩ : ∃ m1, m1 = wrap64 (m0 + 1) := ⟨_, rfl⟩
          obtain ⟨m2, hm2⟩ : ∃ m2, m2 = wrap64 (m1 + 1) := ⟨_, rfl⟩
          obtain ⟨i1, hi1⟩ : ∃ i1, i1 = wrap64 (i + 1) := ⟨_, rfl⟩
          rw [← hm1, ← hm2, ← hi1] at H
          have z1 : wrap64 (m0 + 1) = m1 := hm1.symm
          have z2 : wrap64 (m1 + 1) = m2 := hm2.symm
          have z3 : wrap64 (i + 1) = i1 := hi1.symm
          have H' := Aside0.mk H
          clear H hm1 hm2 hi1 c4
          obtain ⟨go, co, eo, gb, gl, _⟩ := Kd.R_form HO.out (by have := HI.out; omega)
          subst eo
          have GB := Aside0.mk gb
          clear gb gl c3
          go_wp2
          go_loopg [1, 6] 2 (fun kq v1 v6 w' => ∃ (m j : Int) (y : List S63), v1 = .int .i64 m ∧ v6 = .int .i64 j ∧ Aside0 ((kq = 2 ∧ j = 0 ∧ m0 = m ∧ x = y) ∨ (kq = 1 ∧ j = 1 ∧ m1 = m ∧ x.set i.toNat ⟨m0, (rd_T63 x i).f1⟩ = y) ∨ (kq = 0 ∧ j = 2 ∧ m2 = m ∧ x.set i.toNat ⟨m0, m1⟩ = y)) ∧ Aside0 (Kd.R k63 63 w' w0.heap.size P0_ (.slice (some ⟨go, 0, none⟩) x.length co) y) ∧ Aside0 (Kept w w' (fun k_ => P0_ k_)) ∧ Aside0 (Below w0.heap.size w0 w'))
          case atStart => exact ⟨m0, 0, x, rfl, rfl, ⟨.inl ⟨rfl, rfl, rfl, rfl⟩⟩, HO, HK, HB⟩
          case round =>
            clear HO HK HB
            obtain ⟨m, j, y, rfl, rfl, HA, HO, HK, HB⟩ := hrel
            rcases HA.out with ⟨rfl, rfl, rfl, rfl⟩ | ⟨rfl, rfl, rfl, rfl⟩ | ⟨rfl, rfl, rfl, rfl⟩
            · clear HA
              have hn_ : (i : Int) < ((x.length : Nat) : Int) := HI.out.2
              obtain ⟨cs_, hcl, hM, hcc, _⟩ := Kd.R_elem HO.out z63 i HI.out.1 hn_
              obtain rfl := k63_openM hM
              have hx := hcc 0 _ rfl
              have p1 : (0 ≤ i) = True := eq_true HI.out.1
              have p2 : (i < (x.length : Int)) = True := eq_true hn_
              have GG := Aside0.mk HO.out.1
              clear hM
              (repeat ((fail_if_success (with_reducible refine gate_store (t := 3) (p := 22) rfl ?_)); first | go_values | go_skip | go_guarded | go_step | go_upon))
              refine Kd.R_store k63 (w0 := w0) (o' := i.toNat * 2) w0.heap.size rfl rfl 3 (.tmp 22) (.tmp 20) rfl 63 i 0 _ ⟨m0, (rd_T63 x i).f1⟩ (.int .i64 m0) [.int .i64 m0] _ P0_ (fun k_ => P0_ k_ ∧ k_ ≠ go) (?ha0) ?ho0 rfl rfl (by rfl) (by simp [Value.oneCell']) HO.out HI.out.1 hn_ hcl ?hc0 (show 0 + 1 ≤ 2 by decide) ?hM0 (fun _ h => h) HB.out ?_
              case ha0 => rfl
              case ho0 => rfl
              case hc0 => exact hcc
              case hM0 => exact k63_mkM _ _ _ ⟨m0, (rd_T63 x i).f1⟩
              intro w8 ho hb hg
              have n0_ := Aside0.mk (Kept.of_grown (S := (fun k_ => P0_ k_)) hg HK.out (fun k_ e_ => .inl (GG.out k_ e_)))
              clear HO HB HK hx hcc GG hcl
              have HO := Aside0.mk ho
              have HB := Aside0.mk hb
              have HK := n0_
              clear n0_ ho hb hg
              go_wp2
              go_roundg 1
              case measure => omega
              case rel => exact ⟨m1, 1, _, (by first | rfl | rw [z1]), rfl, ⟨.inr (.inl ⟨rfl, rfl, rfl, rfl⟩)⟩, HO, HK, HB⟩
            · clear HA
              have hn_ : (i : Int) < ((x.length : Nat) : Int) := HI.out.2
              obtain ⟨cs_, hcl, hM, hcc, _⟩ := Kd.R_elem HO.out z63 i HI.out.1 hn_
              obtain rfl := k63_openM hM
              have hx := hcc 1 _ rfl
              have p1 : (0 ≤ i) = True := eq_true HI.out.1
              have p2 : (i < (x.length : Int)) = True := eq_true hn_
              have GG := Aside0.mk HO.out.1
              clear hM
              (repeat ((fail_if_success (with_reducible refine gate_store (t := 3) (p := 22) rfl ?_)); first | go_values | go_skip | go_guarded | go_step | go_upon))
              refine Kd.R_store k63 (w0 := w0) (o' := i.toNat * 2 + 1) w0.heap.size rfl rfl 3 (.tmp 22) (.tmp 20) rfl 63 i 1 _ ⟨m0, m1⟩ (.int .i64 m1) [.int .i64 m1] _ P0_ (fun k_ => P0_ k_ ∧ k_ ≠ go) (?ha1) ?ho1 rfl rfl (by rfl) (by simp [Value.oneCell']) HO.out HI.out.1 hn_ hcl ?hc1 (show 1 + 1 ≤ 2 by decide) ?hM1 (fun _ h => h) HB.out ?_
              case ha1 => rfl
              case ho1 => rfl
              case hc1 => exact hcc
              case hM1 => rw [show ((x.set i.toNat ⟨m0, (rd_T63 x i).f1⟩).getD i.toNat z63) = ⟨m0, (rd_T63 x i).f1⟩ from by rw [List.getD_eq_getElem?_getD, List.getElem?_set_self (by have := HI.out; omega)]; rfl]; exact k63_mkM _ _ _ ⟨m0, m1⟩
              intro w8 ho hb hg
              have n0_ := Aside0.mk (Kept.of_grown (S := (fun k_ => P0_ k_)) hg HK.out (fun k_ e_ => .inl (GG.out k_ e_)))
              clear HO HB HK hx hcc GG hcl
              have HO := Aside0.mk ho
              have HB := Aside0.mk hb
              have HK := n0_
              clear n0_ ho hb hg
              go_wp2
              go_roundg 0
              case measure => omega
              case rel => exact ⟨m2, 2, _, (by first | rfl | rw [z2]), rfl, ⟨.inr (.inr ⟨rfl, rfl, rfl, rfl⟩)⟩, ⟨by have := HO.out; rw [List.set_set] at this; exact this⟩, HK, HB⟩
            · clear HA
              go_wp2
              go_roundg k1
              case measure => have := HK1.out; omega
              case rel => exact ⟨_, m2, i1, rfl, (by first | rfl | rw [z3]), H', ⟨by have := HK1.out; omega⟩, HO, HK, HB⟩
        · rw [if_neg c4] at H
          exact absurd H (by simp)
      · rw [if_neg c3] at H
        have c3b0 : decide (i < (x.length : Int)) = false := decide_eq_false c3
        obtain ⟨rfl, rfl⟩ := Prod.mk.inj (Option.some.inj H)
        obtain ⟨Ao, co, rfl⟩ := Kd.R_slice HO.out
        clear H c3
        go_wp2
        go_ret
        exact ⟨rfl, Kd.R_mono HO.out (fun _ h => .inl h), HB.out, HK.out⟩


/-! ### laws_heldIntA2S: function 33 -/
def laws_heldIntA2S.l0 : Nat → List S63 → Int → Int → Option Int
  | 0, _, _, _ => none
  | k + 1, x, m, i => if i < (x.length : Int) then (if 0 ≤ i then (if (rd_T63 x i).f0 = m then (if (rd_T63 x i).f1 = wrap64 (m + 1) then laws_heldIntA2S.l0 k x (wrap64 (wrap64 (m + 1) + 1)) (wrap64 (i + 1)) else some (-1)) else some (-1)) else none) else some m
def laws_heldIntA2S.f (k : Nat) (l0 : List S63) (a1 : Int) : Option Int := laws_heldIntA2S.l0 k l0 a1 0
theorem laws_heldIntA2S.mono_l : ∀ k, (∀ y0 y1 y2, LeO (laws_heldIntA2S.l0 k y0 y1 y2) (laws_heldIntA2S.l0 (k + 1) y0 y1 y2))
  | 0 => fun _ _ _ r h => by simp [laws_heldIntA2S.l0] at h
  | k + 1 => by
    have ih0 := laws_heldIntA2S.mono_l k
    intro y0 y1 y2
    unfold laws_heldIntA2S.l0
    exact LeO.ite (LeO.ite (LeO.ite (LeO.ite (ih0 _ _ _) (LeO.refl _)) (LeO.refl _)) (LeO.none _)) (LeO.refl _)
theorem laws_heldIntA2S.mono : ∀ a0 a1 k, LeO (laws_heldIntA2S.f k a0 a1) (laws_heldIntA2S.f (k + 1) a0 a1) := fun _ _ k => laws_heldIntA2S.mono_l k _ _ _
set_option maxHeartbeats 8000000 in
set_option maxRecDepth 100000 in
theorem laws_heldIntA2S.calls (k : Nat) (A0 : Option Addr) (c0 : Nat) (l0 : List S63) (a1 : Int) (r : Int) (w : World) (hr0 : Kd.C k63 w A0 l0.length l0) (hc0 : l0.length ≤ c0) (h : laws_heldIntA2S.f k l0 a1 = some r) :
    Calls Try.prog 33 #[.slice A0 l0.length c0, .int .i64 a1] w fun e w' => e = .returned (.int .i64 r) ∧ Below w.heap.size w w' := by
  have hu := Try.underlying63
  have HR := Aside0.mk hr0
  have HB := Aside0.mk (Below.refl w.heap.size w)
  have H' := Aside0.mk (show laws_heldIntA2S.l0 k l0 a1 0 = some r from h)
  clear hr0 hc0 h
  go_enter Try.func33, Try.ntmps33
  go_wp2
  go_loopg [1, 5] k (fun kq v1 v5 w' => ∃ (m0 : Int) (i : Int), v1 = .int .i64 m0 ∧ v5 = .int .i64 i ∧ Aside0 (laws_heldIntA2S.l0 kq l0 m0 i = some r) ∧ Aside0 (kq ≤ k) ∧ Aside0 (Kd.C k63 w' A0 l0.length l0) ∧ Aside0 (Below w.heap.size w w'))
  case atStart => exact ⟨a1, 0, rfl, rfl, H', ⟨Nat.le_refl _⟩, HR, HB⟩
  case round =>
    clear H' HR HB
    obtain ⟨m0, i, rfl, rfl, HA, HK1, HR, HB⟩ := hrel
    cases gk with
    | zero => exact absurd HA.out (by simp [laws_heldIntA2S.l0])
    | succ k1 =>
      have H := HA.out
      clear HA
      rw [laws_heldIntA2S.l0] at H
      by_cases c3 : i < (l0.length : Int)
      · rw [if_pos c3] at H
        by_cases c4 : 0 ≤ i
        · rw [if_pos c4] at H
          have c3b0 : decide (i < (l0.length : Int)) = true := decide_eq_true c3
          have HI := Aside0.mk (And.intro c4 c3)
          obtain ⟨m1, hm1⟩ : ∃ m1, m1 = wrap64 (m0 + 1) := ⟨_, rfl⟩
          obtain ⟨m2, hm2⟩ : ∃ m2, m2 = wrap64 (m1 + 1) := ⟨_, rfl⟩
          obtain ⟨i1, hi1⟩ : ∃ i1, i1 = wrap64 (i + 1) := ⟨_, rfl⟩
          rw [← hm1, ← hm2, ← hi1] at H
          have z1 : wrap64 (m0 + 1) = m1 := hm1.symm
          have z2 : wrap64 (m1 + 1) = m2 := hm2.symm
          have z3 : wrap64 (i + 1) = i1 := hi1.symm
          have H' := Aside0.mk H
          clear H hm1 hm2 hi1
          have p1 : (0 ≤ i) = True := eq_true c4
          have p2 : (i < (l0.length : Int)) = True := eq_true c3
          obtain ⟨ad, rfl, hx0, hx1⟩ := at_T63 HR.out i c4 c3
          clear c3 c4 hx0 hx1
          go_wp2
          go_loopg [1, 6] 2 (fun kq v1 v6 w' => ∃ (m j : Int), v1 = .int .i64 m ∧ v6 = .int .i64 j ∧ Aside0 ((kq = 2 ∧ j = 0 ∧ m0 = m) ∨ (kq = 1 ∧ j = 1 ∧ m1 = m ∧ (rd_T63 l0 i).f0 = m0) ∨ (kq = 0 ∧ j = 2 ∧ m2 = m ∧ (rd_T63 l0 i).f0 = m0 ∧ (rd_T63 l0 i).f1 = m1)) ∧ Aside0 (Kd.C k63 w' (some ad) l0.length l0) ∧ Aside0 (Below w.heap.size w w'))
          case atStart => exact ⟨m0, 0, rfl, rfl, ⟨.inl ⟨rfl, rfl, rfl⟩⟩, HR, HB⟩
          case round =>
            clear HR HB
            obtain ⟨m, j, rfl, rfl, HA, HR, HB⟩ := hrel
            rcases HA.out with ⟨rfl, rfl, rfl⟩ | ⟨rfl, rfl, rfl, hf0⟩ | ⟨rfl, rfl, rfl, hf0, hf1⟩
            · clear HA
              obtain ⟨ad2_, e_, hx0, hx1⟩ := at_T63 HR.out i HI.out.1 HI.out.2
              cases e_
              have hx2 : wr.cell? ((ad.add (i.toNat * 2)).add 0) = some (.int .i64 (rd_T63 l0 i).f0) := by first | exact hx0 | (simpa [Addr.add] using hx0)
              by_cases hf : (rd_T63 l0 i).f0 = m0
              · have d1 : ((rd_T63 l0 i).f0 != m0) = false := bne_eq_false_iff_eq.mpr hf
                go_wp2
                go_roundg 1
                case measure => omega
                case rel => exact ⟨m1, 1, (by first | rfl | rw [z1]), rfl, ⟨.inr (.inl ⟨rfl, rfl, rfl, hf⟩)⟩, HR, HB⟩
              · have d1 : ((rd_T63 l0 i).f0 != m0) = true := bne_iff_ne.mpr hf
                have H := H'.out
                rw [if_neg hf] at H
                obtain rfl := Option.some.inj H
                clear H H'
                go_wp2
                go_ret
                exact ⟨rfl, HB.out⟩
            · clear HA
              obtain ⟨ad2_, e_, hx0, hx1⟩ := at_T63 HR.out i HI.out.1 HI.out.2
              cases e_
              have hx2 : wr.cell? ((ad.add (i.toNat * 2)).add 1) = some (.int .i64 (rd_T63 l0 i).f1) := by first | exact hx1 | (simpa [Addr.add] using hx1)
              by_cases hf : (rd_T63 l0 i).f1 = m1
              · have d1 : ((rd_T63 l0 i).f1 != m1) = false := bne_eq_false_iff_eq.mpr hf
                go_wp2
                go_roundg 0
                case measure => omega
                case rel => exact ⟨m2, 2, (by first | rfl | rw [z2]), rfl, ⟨.inr (.inr ⟨rfl, rfl, rfl, hf0, hf⟩)⟩, HR, HB⟩
              · have d1 : ((rd_T63 l0 i).f1 != m1) = true := bne_iff_ne.mpr hf
                have H := H'.out
                rw [if_pos hf0, if_neg hf] at H
                obtain rfl := Option.some.inj H
                clear H H'
                go_wp2
                go_ret
                exact ⟨rfl, HB.out⟩
            · clear HA
              have H := H'.out
              rw [if_pos hf0, if_pos hf1] at H
              have H2' := Aside0.mk H
              clear H H'
              go_wp2
              go_roundg k1
              case measure => have := HK1.out; omega
              case rel => exact ⟨m2, i1, rfl, (by first | rfl | rw [z3]), H2', ⟨by have := HK1.out; omega⟩, HR, HB⟩
        · rw [if_neg c4] at H
          exact absurd H (by simp)
      · rw [if_neg c3] at H
        have c3b0 : decide (i < (l0.length : Int)) = false := decide_eq_false c3
        obtain rfl := Option.some.inj H
        clear H c3
        go_wp2
        go_ret
        exact ⟨rfl, HB.out⟩


end Go.Proofs.Ytbbfgejnlfafpaa.PFnExactConflictsOf
