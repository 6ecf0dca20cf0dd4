-- laid by mkprint.py, a program of this claim's writer, over the kit's print program; parts of it are typed by hand
import Derived.Test.YtmgekfoiamjijaaPFnStacksx0
import Derived.Test.YtmgekfoiamjijaaPFnStacksx2
import Derived.Test.YtmgekfoiamjijaaPFnStacksx5
namespace Go.Proofs.Ytmgekfoiamjijaa.PFnStacks
open Go.RowKit Go.Proofs.YtmgekfoiamjijaaW.PrintWords Go.Proofs.YtmgekfoiamjijaaW.PrintLast Go.Proofs.YtmgekfoiamjijaaW.PrintMore
attribute [local go_sem] max2_int min2_int max_two min_two max_three min_three max_four min_four
set_option linter.unusedVariables false
set_option linter.unusedSimpArgs false
mutual
def impl_sharings_1.f {σ : Type} (of_ : Nat → σ → List Int → Option (σ × Bool)) : Nat → List Int → Int → σ → List Int → Option (σ × Bool)
  | 0, _, _, _, _ => none
  | k + 1, o, n, s, d => if (d.length : Int) = (o.length : Int) then of_ k s d else impl_sharings_1.l0 of_ k o n s d 0
def impl_sharings_1.l0 {σ : Type} (of_ : Nat → σ → List Int → Option (σ × Bool)) : Nat → List Int → Int → σ → List Int → Int → Option (σ × Bool)
  | 0, _, _, _, _, _ => none
  | k + 1, o, n, s, d, i => if i < n then (if 0 ≤ i ∧ i ≤ 17592186044416 then ((impl_mayBe.f k o d (d.length : Int) i).bind fun t => if t = true then (if d.length < 17592186044415 then ((impl_sharings_1.f of_ k o n s (d ++ [i])).bind fun x => if x.2 = true then some (x.1, true) else impl_sharings_1.l0 of_ k o n x.1 d (i + 1)) else none) else impl_sharings_1.l0 of_ k o n s d (i + 1)) else none) else some (s, false)
end
theorem impl_sharings_1.mono_l {σ : Type} (of_ : Nat → σ → List Int → Option (σ × Bool)) (hm : ∀ s d k, LeO (of_ k s d) (of_ (k + 1) s d)) : ∀ k, (∀ o n s d, LeO (impl_sharings_1.f of_ k o n s d) (impl_sharings_1.f of_ (k + 1) o n s d)) ∧ (∀ o n s d i, LeO (impl_sharings_1.l0 of_ k o n s d i) (impl_sharings_1.l0 of_ (k + 1) o n s d i))
  | 0 => ⟨fun _ _ _ _ r h => by simp [impl_sharings_1.f] at h, fun _ _ _ _ _ r h => by simp [impl_sharings_1.l0] at h⟩
  | k + 1 => by
    obtain ⟨i1, i2⟩ := impl_sharings_1.mono_l of_ hm k
    refine ⟨fun o n s d => ?_, fun o n s d i => ?_⟩
    · rw [impl_sharings_1.f, impl_sharings_1.f]
      exact LeO.ite (hm _ _ _) (i2 _ _ _ _ _)
    · rw [impl_sharings_1.l0, impl_sharings_1.l0]
      exact LeO.ite (LeO.ite (LeO.bind (impl_mayBe.mono _ _ _ _ _) (fun t => LeO.ite (LeO.ite (LeO.bind (i1 _ _ _ _) (fun x => LeO.ite (LeO.refl _) (i2 _ _ _ _ _))) (LeO.none _)) (i2 _ _ _ _ _))) (LeO.none _)) (LeO.refl _)
def ShCap (A0 : Option Addr) (c0 : Nat) (l0 : List Int) (n : Int) (g_ : Nat) (lb_ : Array Value) (bO bW bS bA : Nat) (W : World) : Prop :=
  W.heap[bO]? = some (.cells #[.slice A0 l0.length c0] 24 (0, 0)) ∧ W.heap[bW]? = some (.cells #[.func (.func g_) #[] lb_] 63 (0, 0)) ∧ W.heap[bS]? = some (.cells #[.int .i64 n] 3 (0, 0)) ∧ W.heap[bA]? = some (.cells #[.func (.func 82) #[] #[.pointer (some ⟨bO, 0, none⟩), .pointer (some ⟨bW, 0, none⟩), .pointer (some ⟨bS, 0, none⟩), .pointer (some ⟨bA, 0, none⟩)]] 63 (0, 0))
theorem ShCap.kept {A0 : Option Addr} {c0 : Nat} {l0 : List Int} {n : Int} {g_ : Nat} {lb_ : Array Value} {bO bW bS bA : Nat} {W W' : World} {S : Nat → Prop} (h : ShCap A0 c0 l0 n g_ lb_ bO bW bS bA W) (hk : Kept W W' S) (h1 : ¬ S bO) (h2 : ¬ S bW) (h3 : ¬ S bS) (h4 : ¬ S bA) : ShCap A0 c0 l0 n g_ lb_ bO bW bS bA W' :=
  ⟨blk_kept h.1 hk h1, blk_kept h.2.1 hk h2, blk_kept h.2.2.1 hk h3, blk_kept h.2.2.2 hk h4⟩
theorem goesVs_ {P : Program} {ops : Array Oper} {Q : Exit → Act → World → Prop} {oi : Oper} {N : Option Tmp} {a : Act} {w : World} {K : Act → World → Prop} {f : FuncId} (eg : ∀ args w, (callFunc f args).run P w = .ok (.enter f args) w) (lb : Array Value) {x : Operand} {xs : Array Operand} {ts : Array TypeId} (args : Array Value)
    (hw : Region.wanted oi (yielded ops a.tmps) = true) (hN : oi.dst = N) (hop : oi.op = .call { callee := .value x, args := xs, argTypes := ts }) (hx : a.eval x = .func (.func f) #[] lb) (hargs : xs.map a.eval = args)
    (h : Calls P f (args ++ lb) w fun e w' => ∃ v, e = .returned v ∧ K (a.put N v) w') : if Region.wanted oi (yielded ops a.tmps) = true then Oper.wp P oi a w K Q else K (a.put N undef) w := by
  refine call_ f (args ++ lb) hw hN ?_ h
  unfold execOp
  simp [hop, resolve, Deferred.ofValue, invoke, hargs, eg, hx]
set_option maxHeartbeats 8000000 in
set_option maxRecDepth 100000 in
theorem impl_sharings_1.calls {σ : Type} (St : σ → World → Prop) (PS : Nat → Prop) (g_ : Nat) (lb_ : Array Value) (of_ : Nat → σ → List Int → Option (σ × Bool)) (eg_ : ∀ args w, (callFunc g_ args).run Try.prog w = .ok (.enter g_ args) w) (bO bW bS bA : Nat) (A0 : Option Addr) (c0 : Nat) (l0 : List Int) (n : Int) (w0 : World)
    (hr0 : Kd.C (Kd.int .i64) w0 A0 l0.length l0) (hc0 : l0.length ≤ c0) (hPS : ∀ q, PS q → w0.heap.size ≤ q ∧ q < bO) (hb0 : bO < bS ∧ bO < bW ∧ bO < bA) (hKeep : ∀ s W W', St s W → Kept W W' (fun _ => False) → St s W')
    (hWith : ∀ (k : Nat) (s : σ) (d : List Int) (s' : σ) (r : Bool) (v : Value) (W : World), St s W → Below w0.heap.size w0 W → Kd.R (Kd.int .i64) 3 W w0.heap.size (fun q_ => w0.heap.size ≤ q_ ∧ ¬ PS q_) v d → of_ k s d = some (s', r) → Calls Try.prog g_ (#[v] ++ lb_) W fun e W' => e = .returned (.bool r) ∧ St s' W' ∧ Kept W W' PS ∧ Below w0.heap.size w0 W') :
    ∀ (K : Nat) (s : σ) (d : List Int) (s' : σ) (r : Bool) (v : Value) (W : World), ShCap A0 c0 l0 n g_ lb_ bO bW bS bA W → St s W → Below w0.heap.size w0 W → Kd.R (Kd.int .i64) 3 W w0.heap.size (fun q_ => w0.heap.size ≤ q_ ∧ ¬ PS q_) v d → impl_sharings_1.f of_ K l0 n s d = some (s', r) →
    Calls Try.prog 82 (#[v] ++ #[.pointer (some ⟨bO, 0, none⟩), .pointer (some ⟨bW, 0, none⟩), .pointer (some ⟨bS, 0, none⟩), .pointer (some ⟨bA, 0, none⟩)]) W fun e W' => e = .returned (.bool r) ∧ St s' W' ∧ Kept W W' PS ∧ Below w0.heap.size w0 W' := by
  have egA := enters_of (P := Try.prog) Try.func82 (by kernel_rfl) rfl
  have hO1 : ¬ PS bO := fun h => by have := hPS _ h; omega
  have hO2 : ¬ PS bW := fun h => by have := hPS _ h; omega
  have hO3 : ¬ PS bS := fun h => by have := hPS _ h; omega
  have hO4 : ¬ PS bA := fun h => by have := hPS _ h; omega
  have HO := Aside0.mk (And.intro hO1 (And.intro hO2 (And.intro hO3 hO4)))
  have HR0 := Aside0.mk hr0
  have HC0 := Aside0.mk hc0
  have HPS := Aside0.mk hPS
  have HKEEP := Aside0.mk hKeep
  have HWITH := Aside0.mk hWith
  clear hO1 hO2 hO3 hO4 hr0 hc0 hPS hKeep hWith hb0
  intro K
  induction K using Nat.strongRecOn with
  | ind K ih =>
  intro s d s' r v W hcap hst hbel hrow hf
  cases K with
  | zero => simp [impl_sharings_1.f] at hf
  | succ k =>
  rw [impl_sharings_1.f] at hf
  obtain ⟨Ad, cd, hv⟩ := Kd.R_slice hrow
  subst hv
  have IH := Aside0.mk ih
  have HCAP := Aside0.mk hcap
  have HST := Aside0.mk hst
  have HB := Aside0.mk hbel
  have HD := Aside0.mk hrow
  have e1 : W.cell? ⟨bO, 0, none⟩ = some (.slice A0 l0.length c0) := (blk_cell hcap.1 0).trans rfl
  have e2 : W.cell? ⟨bW, 0, none⟩ = some (.func (.func g_) #[] lb_) := (blk_cell hcap.2.1 0).trans rfl
  have e3 : W.cell? ⟨bS, 0, none⟩ = some (.int .i64 n) := (blk_cell hcap.2.2.1 0).trans rfl
  clear ih hcap hst hbel hrow
  by_cases hl : (d.length : Int) = (l0.length : Int)
  · rw [if_pos hl] at hf
    have HFF := Aside0.mk hf
    have z1 : ((d.length : Int) == (l0.length : Int)) = true := beq_iff_eq.mpr hl
    have z1b : (d.length == l0.length) = true := by rw [beq_iff_eq]; omega
    clear hf hl
    go_enter Try.func82, Try.ntmps82
    (repeat ((fail_if_success (with_reducible refine gate_dst (N := 15) rfl ?_)); first | go_values | go_skip | go_guarded | go_step | go_upon))
    refine goesV_ (some 15) rfl rfl eg_ lb_ #[.slice Ad d.length cd] rfl rfl (by (try simp only [List.map_toArray, List.map_cons, List.map_nil]); first | done | rfl) ?_
    refine (HWITH.out k s d s' r _ W HST.out HB.out HD.out HFF.out).mono ?_
    rintro e W2 ⟨rfl, h1, h2, h3⟩
    refine ⟨_, rfl, ?_⟩
    have HZ := Aside0.mk (And.intro h1 (And.intro h2 h3))
    clear h1 h2 h3 e1 e2 e3 IH HCAP HST HB HD HFF
    go_wp2
    go_ret
    exact ⟨rfl, HZ.out⟩
  · rw [if_neg hl] at hf
    have HFF := Aside0.mk hf
    have z1 : ((d.length : Int) == (l0.length : Int)) = false := beq_eq_false_iff_ne.mpr hl
    have z1b : (d.length == l0.length) = false := by rw [beq_eq_false_iff_ne]; omega
    clear hf hl
    go_enter Try.func82, Try.ntmps82
    go_wp2
    go_loopg [17] k (fun kq v17 w' => ∃ (i : Int) (s1 : σ), v17 = .int .i64 i ∧ Aside0 (impl_sharings_1.l0 of_ kq l0 n s1 d i = some (s', r)) ∧ Aside0 (kq ≤ k) ∧ Aside0 (ShCap A0 c0 l0 n g_ lb_ bO bW bS bA w') ∧ Aside0 (St s1 w') ∧ Aside0 (Below w0.heap.size w0 w') ∧ Aside0 (Kd.R (Kd.int .i64) 3 w' w0.heap.size (fun q_ => w0.heap.size ≤ q_ ∧ ¬ PS q_) (.slice Ad d.length cd) d) ∧ Aside0 (Kept W w' PS))
    case atStart => exact ⟨0, s, rfl, HFF, ⟨Nat.le_refl _⟩, HCAP, HST, HB, HD, ⟨Kept.refl _ _⟩⟩
    case round =>
      clear HFF HCAP HST HB HD e1 e2 e3 z1 z1b
      obtain ⟨i, s1, rfl, HA, HK1, HCAP, HST, HB, HD, HKT⟩ := hrel
      cases gk with
      | zero => exact absurd HA.out (by simp [impl_sharings_1.l0])
      | succ k1 =>
        have H := HA.out
        clear HA
        rw [impl_sharings_1.l0] at H
        by_cases hin : i < n
        · rw [if_pos hin] at H
          have c1 : decide (i < n) = true := decide_eq_true hin
          by_cases hbd : 0 ≤ i ∧ i ≤ 17592186044416
          · rw [if_pos hbd] at H
            obtain ⟨i1, hi1⟩ : ∃ i1 : Int, i1 = i + 1 := ⟨_, rfl⟩
            have z2 : wrap64 (i + 1) = i1 := by rw [hi1]; exact IntWalk.wrap64_in _ (by omega)
            rw [← hi1] at H
            clear hi1 hin hbd
            obtain ⟨t, hm, H⟩ := Option.bind_eq_some_iff.1 H
            have HM := Aside0.mk hm
            clear hm
            have HBr := HB
            go_wp2
            have HT_ : Aside0 (Kept wr wr.drew (fun _ => False)) := ⟨Kept.drew (Kept.refl _ _)⟩
            have n0_ := Aside0.mk (below_drew1 HB.out)
            clear HB
            have HB := n0_
            clear n0_
            refine start_ (n := 15) (S := fun w' => w'.cell? ⟨bO, 0, none⟩ = some (.slice A0 l0.length c0) ∧ w'.cell? ⟨bA, 0, none⟩ = some (.func (.func 82) #[] #[.pointer (some ⟨bO, 0, none⟩), .pointer (some ⟨bW, 0, none⟩), .pointer (some ⟨bS, 0, none⟩), .pointer (some ⟨bA, 0, none⟩)])) (ds := []) #[false, false, false, false, false, false, false, false, false, false, false, false, false, false, false] (by kernel_rfl) rfl rfl ⟨(blk_cell HCAP.out.1 0).trans rfl, (blk_cell HCAP.out.2.2.2 0).trans rfl⟩ (fun hHeld => ?_)
            generalize wr.drew = w4 at HB HT_ hHeld ⊢
            refine take_ (i := 0) (N := some 20) (v := ?_) (a' := ?_) #[true, false, false, false, false, false, false, false, false, false, false, false, false, false, false] rfl rfl (by kernel_rfl) (fun _ _ _ h => h) (Or.inl ⟨by rfl, ?_⟩) hHeld ?_ ?_
            rotate_left
            · rintro w' ⟨s0_, s1_⟩
              go_simp
              with_reducible rfl
            rotate_left
            · simp only [Act.put, List.setIfInBounds_toArray, List.set_cons_zero, List.set_cons_succ, i64_w, i32_w]
              rfl
            refine pure_ (i := 1) (N := some 21) (v := ?_) (a' := ?_) #[true, true, false, false, false, false, false, false, false, false, false, false, false, false, false] rfl rfl (by kernel_rfl) (fun _ _ _ h => h) (Or.inl ⟨by rfl, ?_⟩) ?_ ?_
            rotate_left
            · intro w'
              go_simp
              with_reducible rfl
            rotate_left
            · simp only [Act.put, List.setIfInBounds_toArray, List.set_cons_zero, List.set_cons_succ, i64_w, i32_w]
              rfl
            refine pure_ (i := 2) (N := some 22) (v := ?_) (a' := ?_) #[true, true, true, false, false, false, false, false, false, false, false, false, false, false, false] rfl rfl (by kernel_rfl) (fun _ _ _ h => h) (Or.inl ⟨by rfl, ?_⟩) ?_ ?_
            rotate_left
            · intro w'
              go_simp
              with_reducible rfl
            rotate_left
            · simp only [Act.put, List.setIfInBounds_toArray, List.set_cons_zero, List.set_cons_succ, i64_w, i32_w]
              rfl
            refine pure_ (i := 3) (N := some 23) (v := ?_) (a' := ?_) #[true, true, true, true, false, false, false, false, false, false, false, false, false, false, false] rfl rfl (by kernel_rfl) (fun _ _ _ h => h) (Or.inl ⟨by rfl, ?_⟩) ?_ ?_
            rotate_left
            · intro w'
              go_simp
              with_reducible rfl
            rotate_left
            · simp only [Act.put, List.setIfInBounds_toArray, List.set_cons_zero, List.set_cons_succ, i64_w, i32_w]
              rfl
            refine pure_ (i := 4) (N := some 24) (v := ?_) (a' := ?_) #[true, true, true, true, true, false, false, false, false, false, false, false, false, false, false] rfl rfl (by kernel_rfl) (fun _ _ _ h => h) (Or.inl ⟨by rfl, ?_⟩) ?_ ?_
            rotate_left
            · intro w'
              go_simp
              with_reducible rfl
            rotate_left
            · simp only [Act.put, List.setIfInBounds_toArray, List.set_cons_zero, List.set_cons_succ, i64_w, i32_w]
              rfl
            refine one_ (i := 5) (N := some 25) #[true, true, true, true, true, true, false, false, false, false, false, false, false, false, false] rfl rfl (by kernel_rfl) (by decide) (fun K hK => ?_)
            refine goes_ Try.func40 (by kernel_rfl) rfl #[.slice A0 l0.length c0, .slice Ad d.length cd, .int .i64 (d.length : Int), .int .i64 i] (by rfl) rfl rfl (by (try simp only [List.map_toArray, List.map_cons, List.map_nil]); first | done | rfl) ?_
            have HD4 := Kd.R_reads' (Kd.R_kept HD.out HT_.out (fun _ _ h => h))
            refine (impl_mayBe.calls k1 A0 c0 l0 Ad cd d (d.length : Int) i t _ (Kd.C_below HR0.out HB.out) HC0.out HD4.2.2 HD4.2.1 HM.out).mono ?_
            rintro e w5 ⟨rfl, hb⟩
            refine ⟨_, rfl, ?_⟩
            have n0_ := Aside0.mk (below_step HB.out hb)
            have n1_ := Aside0.mk (HT_.out.below hb)
            clear HB HT_ hb HD4
            have HB := n0_
            have HT_ := n1_
            clear n0_ n1_
            have hcp_ := HCAP.out.kept HT_.out (fun h => h) (fun h => h) (fun h => h) (fun h => h)
            refine hK.out _ _ ⟨(blk_cell hcp_.1 0).trans rfl, (blk_cell hcp_.2.2.2 0).trans rfl⟩ (fun hHeld => ?_)
            clear hK K
            refine norm_ (a' := ?_) ?_ ?_
            rotate_left
            · show Act.put _ (some 25) _ = _
              simp only [Act.put, List.setIfInBounds_toArray, List.set_cons_zero, List.set_cons_succ, i64_w, i32_w]
              rfl
            clear hcp_
            cases t with
            | false =>
              rw [if_neg (by simp)] at H
              have H' := Aside0.mk H
              clear H
              refine pure_ (i := 6) (N := some 26) (v := ?_) (a' := ?_) #[true, true, true, true, true, true, true, false, false, false, false, false, false, false, false] rfl rfl (by kernel_rfl) (fun _ _ _ h => h) (Or.inl ⟨by rfl, ?_⟩) ?_ ?_
              rotate_left
              · intro w'
                go_simp
                with_reducible rfl
              rotate_left
              · simp only [Act.put, List.setIfInBounds_toArray, List.set_cons_zero, List.set_cons_succ, i64_w, i32_w]
                rfl
              refine pure_ (i := 7) (N := some 27) (v := undef) (a' := ?_) #[true, true, true, true, true, true, true, true, false, false, false, false, false, false, false] rfl rfl (by kernel_rfl) (fun _ _ _ h => h) (Or.inr ⟨by rfl, rfl⟩) ?_ ?_
              rotate_left
              · simp only [Act.put, List.setIfInBounds_toArray, List.set_cons_zero, List.set_cons_succ, i64_w, i32_w]
                rfl
              refine pure_ (i := 8) (N := some 28) (v := undef) (a' := ?_) #[true, true, true, true, true, true, true, true, true, false, false, false, false, false, false] rfl rfl (by kernel_rfl) (fun _ _ _ h => h) (Or.inr ⟨by rfl, rfl⟩) ?_ ?_
              rotate_left
              · simp only [Act.put, List.setIfInBounds_toArray, List.set_cons_zero, List.set_cons_succ, i64_w, i32_w]
                rfl
              refine pure_ (i := 9) (N := some 29) (v := undef) (a' := ?_) #[true, true, true, true, true, true, true, true, true, true, false, false, false, false, false] rfl rfl (by kernel_rfl) (fun _ _ _ h => h) (Or.inr ⟨by rfl, rfl⟩) ?_ ?_
              rotate_left
              · simp only [Act.put, List.setIfInBounds_toArray, List.set_cons_zero, List.set_cons_succ, i64_w, i32_w]
                rfl
              refine pure_ (i := 10) (N := some 30) (v := undef) (a' := ?_) #[true, true, true, true, true, true, true, true, true, true, true, false, false, false, false] rfl rfl (by kernel_rfl) (fun _ _ _ h => h) (Or.inr ⟨by rfl, rfl⟩) ?_ ?_
              rotate_left
              · simp only [Act.put, List.setIfInBounds_toArray, List.set_cons_zero, List.set_cons_succ, i64_w, i32_w]
                rfl
              refine pure_ (i := 11) (N := some 31) (v := undef) (a' := ?_) #[true, true, true, true, true, true, true, true, true, true, true, true, false, false, false] rfl rfl (by kernel_rfl) (fun _ _ _ h => h) (Or.inr ⟨by rfl, rfl⟩) ?_ ?_
              rotate_left
              · simp only [Act.put, List.setIfInBounds_toArray, List.set_cons_zero, List.set_cons_succ, i64_w, i32_w]
                rfl
              refine pure_ (i := 12) (N := some 32) (v := undef) (a' := ?_) #[true, true, true, true, true, true, true, true, true, true, true, true, true, false, false] rfl rfl (by kernel_rfl) (fun _ _ _ h => h) (Or.inr ⟨by rfl, rfl⟩) ?_ ?_
              rotate_left
              · simp only [Act.put, List.setIfInBounds_toArray, List.set_cons_zero, List.set_cons_succ, i64_w, i32_w]
                rfl
              refine pure_ (i := 13) (N := some 33) (v := undef) (a' := ?_) #[true, true, true, true, true, true, true, true, true, true, true, true, true, true, false] rfl rfl (by kernel_rfl) (fun _ _ _ h => h) (Or.inr ⟨by rfl, rfl⟩) ?_ ?_
              rotate_left
              · simp only [Act.put, List.setIfInBounds_toArray, List.set_cons_zero, List.set_cons_succ, i64_w, i32_w]
                rfl
              refine pure_ (i := 14) (N := some 34) (v := ?_) (a' := ?_) #[true, true, true, true, true, true, true, true, true, true, true, true, true, true, true] rfl rfl (by kernel_rfl) (fun _ _ _ h => h) (Or.inl ⟨by rfl, ?_⟩) ?_ ?_
              rotate_left
              · intro w'
                go_simp
                with_reducible rfl
              rotate_left
              · simp only [Act.put, List.setIfInBounds_toArray, List.set_cons_zero, List.set_cons_succ, i64_w, i32_w]
                rfl
              refine done_ (by kernel_rfl) ?_
              have HZ := Aside0.mk (show ShCap A0 c0 l0 n g_ lb_ bO bW bS bA w5 ∧ St s1 w5 ∧ Kd.R (Kd.int .i64) 3 w5 w0.heap.size (fun q_ => w0.heap.size ≤ q_ ∧ ¬ PS q_) (.slice Ad d.length cd) d ∧ Kept W w5 PS from ⟨HCAP.out.kept HT_.out (fun h => h) (fun h => h) (fun h => h) (fun h => h), HKEEP.out _ _ _ HST.out HT_.out, Kd.R_kept HD.out HT_.out (fun _ _ h => h), HKT.out.then_ HT_.out (fun _ h => h.elim)⟩)
              clear HCAP HST HD HKT HT_ hHeld
              go_wp2
              go_roundg k1
              case measure => omega
              case rel => exact ⟨i1, s1, (by first | rfl | rw [z2]), H', ⟨by have := HK1.out; omega⟩, ⟨HZ.out.1⟩, ⟨HZ.out.2.1⟩, HB, ⟨HZ.out.2.2.1⟩, ⟨HZ.out.2.2.2⟩⟩
            | true =>
              rw [if_pos rfl] at H
              by_cases hdl : d.length < 17592186044415
              case neg => rw [if_neg hdl] at H; exact absurd H (by simp)
              rw [if_pos hdl] at H
              obtain ⟨⟨s2, b2⟩, hrec, H⟩ := Option.bind_eq_some_iff.1 H
              have HREC := Aside0.mk hrec
              have HDL := Aside0.mk hdl
              clear hrec hdl
              refine pure_ (i := 6) (N := some 26) (v := ?_) (a' := ?_) #[true, true, true, true, true, true, true, false, false, false, false, false, false, false, false] rfl rfl (by kernel_rfl) (fun _ _ _ h => h) (Or.inl ⟨by rfl, ?_⟩) ?_ ?_
              rotate_left
              · intro w'
                go_simp
                with_reducible rfl
              rotate_left
              · simp only [Act.put, List.setIfInBounds_toArray, List.set_cons_zero, List.set_cons_succ, i64_w, i32_w]
                rfl
              refine take_ (i := 7) (N := some 27) (v := ?_) (a' := ?_) #[true, true, true, true, true, true, true, true, false, false, false, false, false, false, false] rfl rfl (by kernel_rfl) (fun _ _ _ h => h) (Or.inl ⟨by rfl, ?_⟩) hHeld ?_ ?_
              rotate_left
              · rintro w' ⟨s0_, s1_⟩
                go_simp
                with_reducible rfl
              rotate_left
              · simp only [Act.put, List.setIfInBounds_toArray, List.set_cons_zero, List.set_cons_succ, i64_w, i32_w]
                rfl
              refine pure_ (i := 8) (N := some 28) (v := ?_) (a' := ?_) #[true, true, true, true, true, true, true, true, true, false, false, false, false, false, false] rfl rfl (by kernel_rfl) (fun _ _ _ h => h) (Or.inl ⟨by rfl, ?_⟩) ?_ ?_
              rotate_left
              · intro w'
                go_simp
                with_reducible rfl
              rotate_left
              · simp only [Act.put, List.setIfInBounds_toArray, List.set_cons_zero, List.set_cons_succ, i64_w, i32_w]
                rfl
              refine pure_ (i := 10) (N := some 30) (v := ?_) (a' := ?_) #[true, true, true, true, true, true, true, true, true, false, true, false, false, false, false] rfl rfl (by kernel_rfl) (fun _ _ _ h => h) (Or.inl ⟨by rfl, ?_⟩) ?_ ?_
              rotate_left
              · intro w'
                go_simp
                with_reducible rfl
              rotate_left
              · simp only [Act.put, List.setIfInBounds_toArray, List.set_cons_zero, List.set_cons_succ, i64_w, i32_w]
                rfl
              have H5 := Aside0.mk HT_.out.1
              have HS5 := Aside0.mk (Nat.le_refl w5.heap.size)
              refine join_ (σ := Value × Value) 3 #[true, true, true, true, true, true, true, true, true, true, true, true, false, false, false] (fun s_ => [(29, s_.1), (31, s_.2)]) (fun s_ w' => (w'.cell? ⟨bO, 0, none⟩ = some (.slice A0 l0.length c0) ∧ w'.cell? ⟨bA, 0, none⟩ = some (.func (.func 82) #[] #[.pointer (some ⟨bO, 0, none⟩), .pointer (some ⟨bW, 0, none⟩), .pointer (some ⟨bS, 0, none⟩), .pointer (some ⟨bA, 0, none⟩)])) ∧ Kd.R (Kd.int .i64) 3 w' w0.heap.size (fun q_ => w5.heap.size ≤ q_) s_.1 d ∧ Kd.R (Kd.int .i64) 3 w' 0 (fun _ => True) s_.2 [i] ∧ Kept wr w' (fun _ => False) ∧ Below w0.heap.size w0 w' ∧ w5.heap.size ≤ w'.heap.size) ?cont ?start
              case start =>
                intro hCont
                refine two_ (i := 9) (j := 11) (Ni := some 29) (Nj := some 31) #[true, true, true, true, true, true, true, true, true, true, true, false, false, false, false] #[true, true, true, true, true, true, true, true, true, false, true, true, false, false, false] rfl rfl rfl rfl (by kernel_rfl) (by decide) (by decide) (fun K hK => ?_) (fun K hK => ?_)
                · skip
                  refine goes_ Try.func83 (by kernel_rfl) rfl #[.slice Ad d.length cd] (by rfl) rfl rfl (by (try simp only [List.map_toArray, List.map_cons, List.map_nil]); first | done | rfl) ?_
                  have HD4 := Kd.R_reads' (Kd.R_kept HD.out HT_.out (fun _ _ h => h))
                  refine (slices_Clone_int_int.calls Ad cd d d _ HD4.2.2 HD4.2.1 (by unfold slices_Clone_int_int.f; rw [if_pos (by have := HDL.out; omega)])).mono ?_
                  rintro e w6 ⟨v29, rfl, ho, hb⟩
                  refine ⟨_, rfl, ?_⟩
                  have n0_ := Aside0.mk (below_step HB.out hb)
                  have n1_ := Aside0.mk (HT_.out.below hb)
                  have HCL := Aside0.mk (Kd.R_lower (Kd.R_mono (ok' := fun q_ => w5.heap.size ≤ q_) (Kd.R_bound ho) (fun q_ h_ => Nat.le_trans HS5.out h_.2.1)) HB.out.size)
                  have n9_ := Aside0.mk (Nat.le_trans HS5.out hb.size)
                  clear HS5
                  have HS5 := n9_
                  clear n9_
                  clear HB HT_ hb ho HD4
                  have HB := n0_
                  have HT_ := n1_
                  clear n0_ n1_
                  have hcp_ := HCAP.out.kept HT_.out (fun h => h) (fun h => h) (fun h => h) (fun h => h)
                  refine hK.out _ _ ⟨(blk_cell hcp_.1 0).trans rfl, (blk_cell hcp_.2.2.2 0).trans rfl⟩ (fun hHeld => ?_)
                  clear hK K
                  refine norm_ (a' := ?_) ?_ ?_
                  rotate_left
                  · show Act.put _ (some 29) _ = _
                    simp only [Act.put, List.setIfInBounds_toArray, List.set_cons_zero, List.set_cons_succ, i64_w, i32_w]
                    rfl
                  clear hcp_
                  refine one_ (i := 11) (N := some 31) #[true, true, true, true, true, true, true, true, true, true, true, true, false, false, false] rfl rfl (by kernel_rfl) (by decide) (fun K hK => ?_)
                  refine Kd.R_lit_step (Kd.int .i64) _ 3 ?hg (N := 31) ?hd (xs := ([i] : List Int)) (inner := [.int .i64 i]) (ok := fun _ => True) (okp := fun _ => True) ?hr ?hp (fun _ hk => hk) trivial (Below.refl _ _) (Nat.le_refl _) (by simp) ?_; (case hd => rfl); (case hg => rfl); (case hr => first | (go_simp; done) | (go_simp; rfl)); (case hp => exact (Reps.one (show Kd.M (Kd.int .i64) _ _ _ i [.int .i64 i] from rfl) (Reps.none _ _)))
                  intro v31 w7 ho hb hg_ hnew_
                  clear hg_ hnew_
                  have n0_ := Aside0.mk (below_step HB.out hb)
                  have n1_ := Aside0.mk (HT_.out.below hb)
                  have HLI := Aside0.mk (show Kd.R (Kd.int .i64) 3 w7 0 (fun _ => True) v31 [i] from Kd.R_lower ho (Nat.zero_le _))
                  have n2_ := Aside0.mk (Kd.R_below HCL.out hb)
                  have n9_ := Aside0.mk (Nat.le_trans HS5.out hb.size)
                  clear HS5
                  have HS5 := n9_
                  clear n9_
                  clear HB HT_ hb ho
                  have HB := n0_
                  have HT_ := n1_
                  clear n0_ n1_
                  have hcp_ := HCAP.out.kept HT_.out (fun h => h) (fun h => h) (fun h => h) (fun h => h)
                  clear HCL
                  have HCL := n2_
                  clear n2_
                  refine hK.out _ _ ⟨(blk_cell hcp_.1 0).trans rfl, (blk_cell hcp_.2.2.2 0).trans rfl⟩ (fun hHeld => ?_)
                  clear hK K
                  refine norm_ (a' := ?_) ?_ ?_
                  rotate_left
                  · show Act.put _ (some 31) _ = _
                    simp only [Act.put, List.setIfInBounds_toArray, List.set_cons_zero, List.set_cons_succ, i64_w, i32_w]
                    rfl
                  clear hcp_
                  exact norm_ (by simp only [putAll, Act.put, List.setIfInBounds_toArray, List.set_cons_zero, List.set_cons_succ]) (hCont (v29, v31) _ ⟨hHeld, HCL.out, HLI.out, HT_.out, HB.out, HS5.out⟩)
                · skip
                  refine Kd.R_lit_step (Kd.int .i64) _ 3 ?hg (N := 31) ?hd (xs := ([i] : List Int)) (inner := [.int .i64 i]) (ok := fun _ => True) (okp := fun _ => True) ?hr ?hp (fun _ hk => hk) trivial (Below.refl _ _) (Nat.le_refl _) (by simp) ?_; (case hd => rfl); (case hg => rfl); (case hr => first | (go_simp; done) | (go_simp; rfl)); (case hp => exact (Reps.one (show Kd.M (Kd.int .i64) _ _ _ i [.int .i64 i] from rfl) (Reps.none _ _)))
                  intro v31 w6 ho hb hg_ hnew_
                  clear hg_ hnew_
                  have n0_ := Aside0.mk (below_step HB.out hb)
                  have n1_ := Aside0.mk (HT_.out.below hb)
                  have HLI := Aside0.mk (show Kd.R (Kd.int .i64) 3 w6 0 (fun _ => True) v31 [i] from Kd.R_lower ho (Nat.zero_le _))
                  have n9_ := Aside0.mk (Nat.le_trans HS5.out hb.size)
                  clear HS5
                  have HS5 := n9_
                  clear n9_
                  clear HB HT_ hb ho
                  have HB := n0_
                  have HT_ := n1_
                  clear n0_ n1_
                  have hcp_ := HCAP.out.kept HT_.out (fun h => h) (fun h => h) (fun h => h) (fun h => h)
                  refine hK.out _ _ ⟨(blk_cell hcp_.1 0).trans rfl, (blk_cell hcp_.2.2.2 0).trans rfl⟩ (fun hHeld => ?_)
                  clear hK K
                  refine norm_ (a' := ?_) ?_ ?_
                  rotate_left
                  · show Act.put _ (some 31) _ = _
                    simp only [Act.put, List.setIfInBounds_toArray, List.set_cons_zero, List.set_cons_succ, i64_w, i32_w]
                    rfl
                  skip
                  clear hcp_
                  refine one_ (i := 9) (N := some 29) #[true, true, true, true, true, true, true, true, true, true, true, true, false, false, false] rfl rfl (by kernel_rfl) (by decide) (fun K hK => ?_)
                  refine goes_ Try.func83 (by kernel_rfl) rfl #[.slice Ad d.length cd] (by rfl) rfl rfl (by (try simp only [List.map_toArray, List.map_cons, List.map_nil]); first | done | rfl) ?_
                  have HD4 := Kd.R_reads' (Kd.R_kept HD.out HT_.out (fun _ _ h => h))
                  refine (slices_Clone_int_int.calls Ad cd d d _ HD4.2.2 HD4.2.1 (by unfold slices_Clone_int_int.f; rw [if_pos (by have := HDL.out; omega)])).mono ?_
                  rintro e w7 ⟨v29, rfl, ho, hb⟩
                  refine ⟨_, rfl, ?_⟩
                  have n0_ := Aside0.mk (below_step HB.out hb)
                  have n1_ := Aside0.mk (HT_.out.below hb)
                  have HCL := Aside0.mk (Kd.R_lower (Kd.R_mono (ok' := fun q_ => w5.heap.size ≤ q_) (Kd.R_bound ho) (fun q_ h_ => Nat.le_trans HS5.out h_.2.1)) HB.out.size)
                  have n2_ := Aside0.mk (Kd.R_below HLI.out hb)
                  have n9_ := Aside0.mk (Nat.le_trans HS5.out hb.size)
                  clear HS5
                  have HS5 := n9_
                  clear n9_
                  clear HB HT_ hb ho HD4
                  have HB := n0_
                  have HT_ := n1_
                  clear n0_ n1_
                  have hcp_ := HCAP.out.kept HT_.out (fun h => h) (fun h => h) (fun h => h) (fun h => h)
                  clear HLI
                  have HLI := n2_
                  clear n2_
                  refine hK.out _ _ ⟨(blk_cell hcp_.1 0).trans rfl, (blk_cell hcp_.2.2.2 0).trans rfl⟩ (fun hHeld => ?_)
                  clear hK K
                  refine norm_ (a' := ?_) ?_ ?_
                  rotate_left
                  · show Act.put _ (some 29) _ = _
                    simp only [Act.put, List.setIfInBounds_toArray, List.set_cons_zero, List.set_cons_succ, i64_w, i32_w]
                    rfl
                  clear hcp_
                  exact norm_ (by simp only [putAll, Act.put, List.setIfInBounds_toArray, List.set_cons_zero, List.set_cons_succ]) (hCont (v29, v31) _ ⟨hHeld, HCL.out, HLI.out, HT_.out, HB.out, HS5.out⟩)
              case cont =>
                rintro ⟨v29, v31⟩ w8 ⟨hHeld, hcl, hli, hkt8, hbel8, hsz8⟩
                clear HT_ HB HS5
                have H58 := Aside0.mk hsz8
                clear hsz8
                obtain ⟨A29, c29, e29⟩ := Kd.R_slice hcl
                obtain ⟨A31, c31, e31⟩ := Kd.R_slice hli
                subst e29 e31
                have HCL := Aside0.mk hcl
                have HLI := Aside0.mk hli
                have HT_ := Aside0.mk hkt8
                have HB := Aside0.mk hbel8
                clear hcl hli hkt8 hbel8
                refine norm_ (a' := ?_) ?_ ?_
                rotate_left
                · simp only [putAll, Act.put, List.setIfInBounds_toArray, List.set_cons_zero, List.set_cons_succ]
                  rfl
                refine one_ (i := 12) (N := some 32) #[true, true, true, true, true, true, true, true, true, true, true, true, true, false, false] rfl rfl (by kernel_rfl) (by decide) (fun K hK => ?_)
                refine Kd.R_append_rows_step (Kd.int .i64) (w0 := w0) w0.heap.size (by rfl) (.tmp 29) (.tmp 31) 24 3 (.int .i64 0) 8 rfl Try.underlying24 info3 rfl (by decide) (by omega) (.slice A29 d.length c29) d [i] A31 1 c31 (fun q_ => w5.heap.size ≤ q_) (fun _ => False) rfl rfl ?aO ?aR (fun _ _ h => h) (fun _ h => h.elim) ?aF ?aB ?aS ?aL ?_
                case aR => exact (Kd.R_reads' HLI.out).2.2
                case aB => exact HB.out
                case aF => exact (fun k_ hk => Nat.le_trans H58.out hk)
                case aO => exact HCL.out
                case aS => exact HB.out.size
                case aL => have := HDL.out; omega
                intro v32 w9 ho hb hg hat
                have n1_ := Aside0.mk (show Kept wr w9 (fun _ => False) from Kept.of_grown hg HT_.out (fun q_ hq_ => .inr (Nat.le_trans H5.out (HCL.out.1 q_ hq_))))
                have HV := Aside0.mk (show Kd.R (Kd.int .i64) 3 w9 w0.heap.size (fun q_ => w0.heap.size ≤ q_ ∧ ¬ PS q_) v32 (d ++ [i]) from Kd.R_mono ho (fun q_ hq_ => ⟨Nat.le_trans HBr.out.size (Nat.le_trans H5.out hq_), fun hp_ => by have h1_ := (HPS.out q_ hp_).2; have h2_ := blk_lt HCAP.out.1; have h3_ := H5.out; omega⟩))
                clear HB HT_ HCL HLI ho hg hat
                have HB := Aside0.mk hb
                have HT_ := n1_
                clear n1_ hb
                have hcp_ := HCAP.out.kept HT_.out (fun h => h) (fun h => h) (fun h => h) (fun h => h)
                refine hK.out _ _ ⟨(blk_cell hcp_.1 0).trans rfl, (blk_cell hcp_.2.2.2 0).trans rfl⟩ (fun hHeld => ?_)
                clear hK K
                refine norm_ (a' := ?_) ?_ ?_
                rotate_left
                · show Act.put _ (some 32) _ = _
                  simp only [Act.put, List.setIfInBounds_toArray, List.set_cons_zero, List.set_cons_succ, i64_w, i32_w]
                  rfl
                clear hcp_
                refine one_ (i := 13) (N := some 33) #[true, true, true, true, true, true, true, true, true, true, true, true, true, true, false] rfl rfl (by kernel_rfl) (by decide) (fun K hK => ?_)
                refine goesVs_ egA #[.pointer (some ⟨bO, 0, none⟩), .pointer (some ⟨bW, 0, none⟩), .pointer (some ⟨bS, 0, none⟩), .pointer (some ⟨bA, 0, none⟩)] #[v32] (by rfl) rfl rfl rfl (by (try simp only [List.map_toArray, List.map_cons, List.map_nil]); first | done | rfl) ?_
                refine (IH.out k1 (by have := HK1.out; omega) s1 (d ++ [i]) s2 b2 v32 w9 (HCAP.out.kept HT_.out (fun h => h) (fun h => h) (fun h => h) (fun h => h)) (HKEEP.out _ _ _ HST.out HT_.out) HB.out HV.out HREC.out).mono ?_
                rintro e w10 ⟨rfl, h1, h2, h3⟩
                refine ⟨_, rfl, ?_⟩
                have hkr : Kept wr w10 PS := (HT_.out.mono (S' := PS) (fun _ h => h.elim)).then_ h2 (fun _ h => .inl h)
                have hcp_ := HCAP.out.kept hkr HO.out.1 HO.out.2.1 HO.out.2.2.1 HO.out.2.2.2
                refine hK.out _ _ ⟨(blk_cell hcp_.1 0).trans rfl, (blk_cell hcp_.2.2.2 0).trans rfl⟩ (fun hHeld => ?_)
                clear hK K
                refine norm_ (a' := ?_) ?_ ?_
                rotate_left
                · show Act.put _ (some 33) _ = _
                  simp only [Act.put, List.setIfInBounds_toArray, List.set_cons_zero, List.set_cons_succ, i64_w, i32_w]
                  rfl
                have HZ := Aside0.mk (show ShCap A0 c0 l0 n g_ lb_ bO bW bS bA w10 ∧ St s2 w10 ∧ Kd.R (Kd.int .i64) 3 w10 w0.heap.size (fun q_ => w0.heap.size ≤ q_ ∧ ¬ PS q_) (.slice Ad d.length cd) d ∧ Kept W w10 PS ∧ Below w0.heap.size w0 w10 from ⟨hcp_, h1, Kd.R_kept HD.out hkr (fun _ hk => hk.2), HKT.out.then_ hkr (fun _ h => .inl h), h3⟩)
                clear hcp_ h1 h2 h3 hkr HCAP HST HD HKT HT_ HB HV HREC
                refine pure_ (i := 14) (N := some 34) (v := ?_) (a' := ?_) #[true, true, true, true, true, true, true, true, true, true, true, true, true, true, true] rfl rfl (by kernel_rfl) (fun _ _ _ h => h) (Or.inl ⟨by rfl, ?_⟩) ?_ ?_
                rotate_left
                · intro w'
                  go_simp
                  with_reducible rfl
                rotate_left
                · simp only [Act.put, List.setIfInBounds_toArray, List.set_cons_zero, List.set_cons_succ, i64_w, i32_w]
                  rfl
                refine done_ (by kernel_rfl) ?_
                clear hHeld
                cases b2 with
                | false =>
                  rw [if_neg (by simp)] at H
                  have H' := Aside0.mk H
                  clear H
                  go_wp2
                  go_roundg k1
                  case measure => omega
                  case rel => exact ⟨i1, s2, (by first | rfl | rw [z2]), H', ⟨by have := HK1.out; omega⟩, ⟨HZ.out.1⟩, ⟨HZ.out.2.1⟩, ⟨HZ.out.2.2.2.2⟩, ⟨HZ.out.2.2.1⟩, ⟨HZ.out.2.2.2.1⟩⟩
                | true =>
                  rw [if_pos rfl] at H
                  obtain ⟨rfl, rfl⟩ := Prod.mk.inj (Option.some.inj H)
                  clear H
                  go_wp2
                  go_ret
                  exact ⟨rfl, HZ.out.2.1, HZ.out.2.2.2.1, HZ.out.2.2.2.2⟩
          · rw [if_neg hbd] at H
            exact absurd H (by simp)
        · rw [if_neg hin] at H
          have c1 : decide (i < n) = false := decide_eq_false hin
          obtain ⟨rfl, rfl⟩ := Prod.mk.inj (Option.some.inj H)
          clear H hin
          go_wp2
          go_ret
          exact ⟨rfl, HST.out, HKT.out, HB.out⟩
def impl_sharings.f {σ : Type} (of_ : Nat → σ → List Int → Option (σ × Bool)) (k : Nat) (o : List Int) (n : Int) (s : σ) : Option σ := (impl_sharings_1.f of_ k o n s []).bind fun x => some x.1
theorem impl_sharings.mono {σ : Type} (of_ : Nat → σ → List Int → Option (σ × Bool)) (hm : ∀ s d k, LeO (of_ k s d) (of_ (k + 1) s d)) : ∀ o n s k, LeO (impl_sharings.f of_ k o n s) (impl_sharings.f of_ (k + 1) o n s) := fun o n s k => LeO.bind ((impl_sharings_1.mono_l of_ hm k).1 o n s []) (fun _ => LeO.refl _)
set_option maxHeartbeats 8000000 in
set_option maxRecDepth 100000 in
theorem impl_sharings.calls {σ : Type} (St : σ → World → Prop) (PS : Nat → Prop) (g_ : Nat) (lb_ : Array Value) (of_ : Nat → σ → List Int → Option (σ × Bool)) (eg_ : ∀ args w, (callFunc g_ args).run Try.prog w = .ok (.enter g_ args) w) (A0 : Option Addr) (c0 : Nat) (l0 : List Int) (n : Int) (w0 w : World)
    (hr0 : Kd.C (Kd.int .i64) w0 A0 l0.length l0) (hc0 : l0.length ≤ c0) (hPS : ∀ q, PS q → w0.heap.size ≤ q ∧ q < w.heap.size) (hB : Below w0.heap.size w0 w) (hKeep : ∀ s W W', St s W → Kept W W' (fun _ => False) → St s W')
    (hWith : ∀ (k : Nat) (s : σ) (d : List Int) (s' : σ) (r : Bool) (v : Value) (W : World), St s W → Below w0.heap.size w0 W → Kd.R (Kd.int .i64) 3 W w0.heap.size (fun q_ => w0.heap.size ≤ q_ ∧ ¬ PS q_) v d → of_ k s d = some (s', r) → Calls Try.prog g_ (#[v] ++ lb_) W fun e W' => e = .returned (.bool r) ∧ St s' W' ∧ Kept W W' PS ∧ Below w0.heap.size w0 W')
    (K : Nat) (s s' : σ) (hst : St s w) (h : impl_sharings.f of_ K l0 n s = some s') :
    Calls Try.prog 59 #[.slice A0 l0.length c0, .int .i64 n, .func (.func g_) #[] lb_] w fun e W' => e = .returned (.tuple #[]) ∧ St s' W' ∧ Kept w W' PS ∧ Below w0.heap.size w0 W' := by
  obtain ⟨⟨s2, r2⟩, h1, h2⟩ := Option.bind_eq_some_iff.1 h
  obtain rfl := Option.some.inj h2
  have HF := Aside0.mk h1
  have HB := Aside0.mk hB
  have HBw := Aside0.mk hB
  have HST := Aside0.mk hst
  have HR0 := Aside0.mk hr0
  have HC0 := Aside0.mk hc0
  have HPS := Aside0.mk hPS
  have HKEEP := Aside0.mk hKeep
  have HWITH := Aside0.mk hWith
  have HK := Aside0.mk (Kept.refl w (fun _ => False))
  clear h h1 h2 hB hst hr0 hc0 hPS hKeep hWith
  go_enter Try.func59, Try.ntmps59
  (repeat ((fail_if_success (with_reducible refine gate_dst (N := 3) rfl ?_)); first | go_values | go_skip | go_guarded | go_step | go_upon))
  refine box_event ?hg (N := 3) ?hd (cs := #[.slice A0 l0.length c0]) (t := 24) ?hr ?_
  case hd => rfl
  case hg => rfl
  case hr => first | (go_simp; done) | (go_simp; rfl)
  intro bO hg w1 hbox hb
  have n0_ := Aside0.mk (below_step HB.out hb)
  have n1_ := Aside0.mk (HK.out.below hb)
  have BO := Aside0.mk hbox
  have GO := Aside0.mk hg
  clear HB HK hg hb hbox
  have HB := n0_
  have HK := n1_
  clear n0_ n1_
  have s1 := Aside0.mk (blk_lt BO.out)
  (repeat ((fail_if_success (with_reducible refine gate_dst (N := 4) rfl ?_)); first | go_values | go_skip | go_guarded | go_step | go_upon))
  refine box_event ?hg (N := 4) ?hd (cs := #[.int .i64 n]) (t := 3) ?hr ?_
  case hd => rfl
  case hg => rfl
  case hr => first | (go_simp; done) | (go_simp; rfl)
  intro bS hg w2 hbox hb
  have n0_ := Aside0.mk (below_step HB.out hb)
  have n1_ := Aside0.mk (HK.out.below hb)
  have m0_ := Aside0.mk (blk_below BO.out hb)
  have BS := Aside0.mk hbox
  have GS := Aside0.mk hg
  clear HB HK hg hb hbox BO
  have HB := n0_
  have HK := n1_
  have BO := m0_
  clear n0_ n1_ m0_
  have s2 := Aside0.mk (blk_lt BS.out)
  (repeat ((fail_if_success (with_reducible refine gate_dst (N := 5) rfl ?_)); first | go_values | go_skip | go_guarded | go_step | go_upon))
  refine box_event ?hg (N := 5) ?hd (cs := #[.func (.func g_) #[] lb_]) (t := 63) ?hr ?_
  case hd => rfl
  case hg => rfl
  case hr => first | (go_simp; done) | (go_simp; rfl)
  intro bW hg w3 hbox hb
  have n0_ := Aside0.mk (below_step HB.out hb)
  have n1_ := Aside0.mk (HK.out.below hb)
  have m0_ := Aside0.mk (blk_below BO.out hb)
  have m1_ := Aside0.mk (blk_below BS.out hb)
  have BW := Aside0.mk hbox
  have GW := Aside0.mk hg
  clear HB HK hg hb hbox BO BS
  have HB := n0_
  have HK := n1_
  have BO := m0_
  have BS := m1_
  clear n0_ n1_ m0_ m1_
  have s3 := Aside0.mk (blk_lt BW.out)
  (repeat ((fail_if_success (with_reducible refine gate_dst (N := 6) rfl ?_)); first | go_values | go_skip | go_guarded | go_step | go_upon))
  refine box_event ?hg (N := 6) ?hd (cs := #[.nilFunc]) (t := 63) ?hr ?_
  case hd => rfl
  case hg => rfl
  case hr => first | (go_simp; done) | (go_simp; rfl)
  intro bA hg w4 hbox hb
  have n0_ := Aside0.mk (below_step HB.out hb)
  have n1_ := Aside0.mk (HK.out.below hb)
  have m0_ := Aside0.mk (blk_below BO.out hb)
  have m1_ := Aside0.mk (blk_below BS.out hb)
  have m2_ := Aside0.mk (blk_below BW.out hb)
  have BA := Aside0.mk hbox
  have GA := Aside0.mk hg
  clear HB HK hg hb hbox BO BS BW
  have HB := n0_
  have HK := n1_
  have BO := m0_
  have BS := m1_
  have BW := m2_
  clear n0_ n1_ m0_ m1_ m2_
  have HLT := Aside0.mk (show w.heap.size ≤ bO ∧ bO < bS ∧ bO < bW ∧ bO < bA ∧ bS ≠ bA ∧ bW ≠ bA from by have := GO.out; have := GS.out; have := GW.out; have := GA.out; have := s1.out; have := s2.out; have := s3.out; omega)
  clear GO GS GW GA s1 s2 s3
  have ea : w4.cell? ⟨bA, 0, none⟩ = some .nilFunc := (blk_cell BA.out 0).trans rfl
  have fa : w4.frozen? ⟨bA, 0, none⟩ = false := blk_frozen BA.out 0
  (repeat ((fail_if_success (with_reducible refine gate_store (t := 63) (p := 6) rfl ?_)); first | go_values | go_skip | go_guarded | go_step | go_upon))
  refine store_event (t := 63) (p := 6) (v := ?vo) (w1 := (w4.setCell ⟨bA, 0, none⟩ (.func (.func 82) #[] #[.pointer (some ⟨bO, 0, none⟩), .pointer (some ⟨bW, 0, none⟩), .pointer (some ⟨bS, 0, none⟩), .pointer (some ⟨bA, 0, none⟩)]))) ?hg ?ho ?hn ?hr ?_
  case ho => rfl
  case hg => rfl
  case hn => rfl
  case hr => first | (go_simp; done) | (go_simp; rfl)
  intro w5 hw
  have BA2 := Aside0.mk (show w5.heap[bA]? = some (.cells #[.func (.func 82) #[] #[.pointer (some ⟨bO, 0, none⟩), .pointer (some ⟨bW, 0, none⟩), .pointer (some ⟨bS, 0, none⟩), .pointer (some ⟨bA, 0, none⟩)]] 63 (0, 0)) from by rw [hw]; exact blk_put (cs := #[.nilFunc]) BA.out 0 _ rfl)
  have hk5 : Kept w4 w5 (fun q_ => q_ = bA) := by rw [hw]; exact (Kept.refl w4 (fun q_ => q_ = bA)).setCell (p := ⟨bA, 0, none⟩) (.inl rfl) _
  have n0_ := Aside0.mk (show Below w0.heap.size w0 w5 from by rw [hw]; exact below_set HB.out (by have := HLT.out; have := HB.out.size; have h1_ := HBw.out.size; omega))
  have n1_ := Aside0.mk (show Kept w w5 (fun _ => False) from HK.out.then_ hk5 (fun q_ h_ => .inr (by have := HLT.out; omega)))
  have HCAP := Aside0.mk (show ShCap A0 c0 l0 n g_ lb_ bO bW bS bA w5 from ⟨blk_kept BO.out hk5 (by have := HLT.out; omega), blk_kept BW.out hk5 (by have := HLT.out; omega), blk_kept BS.out hk5 (by have := HLT.out; omega), BA2.out⟩)
  clear HB HK BO BS BW BA BA2 hk5 hw ea fa
  have HB := n0_
  have HK := n1_
  clear n0_ n1_
  have ea : w5.cell? ⟨bA, 0, none⟩ = some (.func (.func 82) #[] #[.pointer (some ⟨bO, 0, none⟩), .pointer (some ⟨bW, 0, none⟩), .pointer (some ⟨bS, 0, none⟩), .pointer (some ⟨bA, 0, none⟩)]) := (blk_cell HCAP.out.2.2.2 0).trans rfl
  (repeat ((fail_if_success (with_reducible refine gate_dst (N := 9) rfl ?_)); first | go_values | go_skip | go_guarded | go_step | go_upon))
  refine Kd.R_lit (Kd.int .i64) _ 3 ?hg (N := 9) ?hd (xs := ([] : List Int)) (inner := []) (ok := fun _ => True) (okp := fun _ => True) ?hr ?hp (fun _ hk => hk) trivial (Below.refl _ _) (Nat.le_refl _) (by simp) ?_
  case hd => rfl
  case hg => rfl
  case hr => first | (go_simp; done) | (go_simp; rfl)
  case hp => exact (Reps.none _ _)
  intro v9 w6 ho hb hg_ hnew_
  clear hg_ hnew_
  have HV := Aside0.mk (show Kd.R (Kd.int .i64) 3 w6 w0.heap.size (fun q_ => w0.heap.size ≤ q_ ∧ ¬ PS q_) v9 [] from Kd.R_lower (Kd.R_mono (Kd.R_bound ho) (fun q_ h_ => ⟨Nat.le_trans HB.out.size h_.2.1, fun hp_ => by have h1_ := (HPS.out q_ hp_).2; have h2_ := h_.2.1; have h3_ := HK.out.1; omega⟩)) HB.out.size)
  have n0_ := Aside0.mk (below_step HB.out hb)
  have n1_ := Aside0.mk (HK.out.below hb)
  have n2_ := Aside0.mk (HCAP.out.kept (Kept.of_below hb (fun _ => False)) (fun h => h) (fun h => h) (fun h => h) (fun h => h))
  clear HB HK HCAP ho hb ea
  have HB := n0_
  have HK := n1_
  have HCAP := n2_
  clear n0_ n1_ n2_
  (repeat ((fail_if_success (with_reducible refine gate_dst (N := 10) rfl ?_)); first | go_values | go_skip | go_guarded | go_step | go_upon))
  refine goesV_ (some 10) rfl rfl (enters_of Try.func82 (by kernel_rfl) rfl) #[.pointer (some ⟨bO, 0, none⟩), .pointer (some ⟨bW, 0, none⟩), .pointer (some ⟨bS, 0, none⟩), .pointer (some ⟨bA, 0, none⟩)] #[v9] rfl rfl (by (try simp only [List.map_toArray, List.map_cons, List.map_nil]); first | done | rfl) ?_
  refine (impl_sharings_1.calls St PS g_ lb_ of_ eg_ bO bW bS bA A0 c0 l0 n w0 HR0.out HC0.out (fun q hq => ⟨(HPS.out q hq).1, by have := (HPS.out q hq).2; have := HLT.out; omega⟩) ⟨HLT.out.2.1, HLT.out.2.2.1, HLT.out.2.2.2.1⟩ HKEEP.out HWITH.out K s [] _ r2 v9 w6 HCAP.out (HKEEP.out _ _ _ HST.out HK.out) HB.out HV.out HF.out).mono ?_
  rintro e w7 ⟨rfl, h1, h2, h3⟩
  refine ⟨_, rfl, ?_⟩
  have HZ := Aside0.mk (And.intro h1 (And.intro ((HK.out.mono (S' := PS) (fun _ h => h.elim)).then_ h2 (fun _ h => .inl h)) h3))
  clear h1 h2 h3 HB HK HCAP HV HST HF
  go_wp2
  go_end0
  exact ⟨rfl, HZ.out⟩
end Go.Proofs.Ytmgekfoiamjijaa.PFnStacks
