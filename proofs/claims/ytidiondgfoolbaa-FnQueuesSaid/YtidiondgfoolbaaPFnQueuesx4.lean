-- laid by mkprint.py, a program of this claim's writer, over the kit's print program; parts of it are typed by hand
import Derived.Test.YtidiondgfoolbaaPFnQueuesx0
import Derived.Test.YtidiondgfoolbaaPFnQueuesx3
namespace Go.Proofs.Ytidiondgfoolbaa.PFnQueues
open Go.RowKit Go.Proofs.YtidiondgfoolbaaW.PrintWords Go.Proofs.YtidiondgfoolbaaW.PrintLast Go.Proofs.YtidiondgfoolbaaW.PrintMore
attribute [local go_sem] max2_int min2_int max_two min_two max_three min_three max_four min_four
set_option linter.unusedVariables false
set_option linter.unusedSimpArgs false
mutual
def impl_choose_1.f {σ : Type} (of_ : Nat → σ → List Int → Option (σ × Bool)) : Nat → Int → Int → σ → List Int → Int → Option (σ × Bool)
  | 0, _, _, _, _, _ => none
  | k + 1, n, m, s, d, fr => if (d.length : Int) = m then of_ k s d else impl_choose_1.l0 of_ k n m s d fr
def impl_choose_1.l0 {σ : Type} (of_ : Nat → σ → List Int → Option (σ × Bool)) : Nat → Int → Int → σ → List Int → Int → Option (σ × Bool)
  | 0, _, _, _, _, _ => none
  | k + 1, n, m, s, d, i => if i < n then (if d.length < 17592186044415 then ((impl_choose_1.f of_ k n m s (d ++ [i]) (wrap64 (i + 1))).bind fun x => if x.2 = true then some (x.1, true) else impl_choose_1.l0 of_ k n m x.1 d (wrap64 (i + 1))) else none) else some (s, false)
end
theorem impl_choose_1.mono_l {σ : Type} (of_ : Nat → σ → List Int → Option (σ × Bool)) (hm : ∀ s d k, LeO (of_ k s d) (of_ (k + 1) s d)) : ∀ k, (∀ n m s d fr, LeO (impl_choose_1.f of_ k n m s d fr) (impl_choose_1.f of_ (k + 1) n m s d fr)) ∧ (∀ n m s d i, LeO (impl_choose_1.l0 of_ k n m s d i) (impl_choose_1.l0 of_ (k + 1) n m s d i))
  | 0 => ⟨fun _ _ _ _ _ r h => by simp [impl_choose_1.f] at h, fun _ _ _ _ _ r h => by simp [impl_choose_1.l0] at h⟩
  | k + 1 => by
    obtain ⟨i1, i2⟩ := impl_choose_1.mono_l of_ hm k
    refine ⟨fun n m s d fr => ?_, fun n m s d i => ?_⟩
    · rw [impl_choose_1.f, impl_choose_1.f]
      exact LeO.ite (hm _ _ _) (i2 _ _ _ _ _)
    · rw [impl_choose_1.l0, impl_choose_1.l0]
      exact LeO.ite (LeO.ite (LeO.bind (i1 _ _ _ _ _) (fun x => LeO.ite (LeO.refl _) (i2 _ _ _ _ _))) (LeO.none _)) (LeO.refl _)
def ChCap (m n : Int) (g_ : Nat) (lb_ : Array Value) (bM bW bS bA : Nat) (W : World) : Prop :=
  W.heap[bM]? = some (.cells #[.int .i64 m] 3 (0, 0)) ∧ W.heap[bW]? = some (.cells #[.func (.func g_) #[] lb_] 49 (0, 0)) ∧ W.heap[bS]? = some (.cells #[.int .i64 n] 3 (0, 0)) ∧ W.heap[bA]? = some (.cells #[.func (.func 66) #[] #[.pointer (some ⟨bM, 0, none⟩), .pointer (some ⟨bW, 0, none⟩), .pointer (some ⟨bS, 0, none⟩), .pointer (some ⟨bA, 0, none⟩)]] 60 (0, 0))
theorem ChCap.kept {m n : Int} {g_ : Nat} {lb_ : Array Value} {bM bW bS bA : Nat} {W W' : World} {S : Nat → Prop} (h : ChCap m n g_ lb_ bM bW bS bA W) (hk : Kept W W' S) (hn : ¬ S bM ∧ ¬ S bW ∧ ¬ S bS ∧ ¬ S bA) : ChCap m n g_ lb_ bM bW bS bA W' :=
  ⟨blk_kept h.1 hk hn.1, blk_kept h.2.1 hk hn.2.1, blk_kept h.2.2.1 hk hn.2.2.1, blk_kept h.2.2.2 hk hn.2.2.2⟩
theorem ChCap.far {m n : Int} {g_ : Nat} {lb_ : Array Value} {bM bW bS bA N : Nat} {W : World} {F F' : Nat → Prop} (h : ChCap m n g_ lb_ bM bW bS bA W) (hs : W.heap.size ≤ N) (hn : ¬ F bM ∧ ¬ F bW ∧ ¬ F bS ∧ ¬ F bA) (hf : ∀ q, F' q → F q ∨ N ≤ q) : ¬ F' bM ∧ ¬ F' bW ∧ ¬ F' bS ∧ ¬ F' bA := by
  have h1 := blk_lt h.1; have h2 := blk_lt h.2.1; have h3 := blk_lt h.2.2.1; have h4 := blk_lt h.2.2.2
  exact ⟨fun k => (hf _ k).elim hn.1 (fun _ => by omega), fun k => (hf _ k).elim hn.2.1 (fun _ => by omega), fun k => (hf _ k).elim hn.2.2.1 (fun _ => by omega), fun k => (hf _ k).elim hn.2.2.2 (fun _ => by omega)⟩
theorem goesVs_ {P : Program} {ops : Array Oper} {Q : Exit → Act → World → Prop} {oi : Oper} {N : Option Tmp} {a : Act} {w : World} {K : Act → World → Prop} {f : FuncId} (eg : ∀ args w, (callFunc f args).run P w = .ok (.enter f args) w) (lb : Array Value) {x : Operand} {xs : Array Operand} {ts : Array TypeId} (args : Array Value)
    (hw : Region.wanted oi (yielded ops a.tmps) = true) (hN : oi.dst = N) (hop : oi.op = .call { callee := .value x, args := xs, argTypes := ts }) (hx : a.eval x = .func (.func f) #[] lb) (hargs : xs.map a.eval = args)
    (h : Calls P f (args ++ lb) w fun e w' => ∃ v, e = .returned v ∧ K (a.put N v) w') : if Region.wanted oi (yielded ops a.tmps) = true then Oper.wp P oi a w K Q else K (a.put N undef) w := by
  refine call_ f (args ++ lb) hw hN ?_ h
  unfold execOp
  simp [hop, resolve, Deferred.ofValue, invoke, hargs, eg, hx]
set_option maxHeartbeats 8000000 in
set_option maxRecDepth 100000 in
theorem impl_choose_1.calls {σ : Type} (St : σ → (Nat → Prop) → World → Prop) (g_ : Nat) (lb_ : Array Value) (of_ : Nat → σ → List Int → Option (σ × Bool)) (eg_ : ∀ args w, (callFunc g_ args).run Try.prog w = .ok (.enter g_ args) w) (bM bW bS bA : Nat) (n m : Int) (w0 : World)
    (hKeep : ∀ s F W W', St s F W → Kept W W' (fun _ => False) → St s F W') (hFB : ∀ s F W, St s F W → ∀ q, F q → q < W.heap.size)
    (hWith : ∀ (k : Nat) (s : σ) (F : Nat → Prop) (d : List Int) (s' : σ) (r : Bool) (v : Value) (W : World), St s F W → Below w0.heap.size w0 W → Kd.R (Kd.int .i64) 3 W w0.heap.size (fun q_ => ¬ F q_) v d → of_ k s d = some (s', r) → Calls Try.prog g_ (#[v] ++ lb_) W fun e W' => e = .returned (.bool r) ∧ ∃ F' : Nat → Prop, St s' F' W' ∧ Kept W W' F ∧ Below w0.heap.size w0 W' ∧ ∀ q, F' q → F q ∨ W.heap.size ≤ q) :
    ∀ (K : Nat) (s : σ) (F : Nat → Prop) (d : List Int) (fr : Int) (s' : σ) (r : Bool) (v : Value) (W : World), ChCap m n g_ lb_ bM bW bS bA W → (¬ F bM ∧ ¬ F bW ∧ ¬ F bS ∧ ¬ F bA) → St s F W → Below w0.heap.size w0 W → Kd.R (Kd.int .i64) 3 W w0.heap.size (fun q_ => ¬ F q_) v d → impl_choose_1.f of_ K n m s d fr = some (s', r) →
    Calls Try.prog 66 (#[v, .int .i64 fr] ++ #[.pointer (some ⟨bM, 0, none⟩), .pointer (some ⟨bW, 0, none⟩), .pointer (some ⟨bS, 0, none⟩), .pointer (some ⟨bA, 0, none⟩)]) W fun e W' => e = .returned (.bool r) ∧ ∃ F' : Nat → Prop, St s' F' W' ∧ Kept W W' F ∧ Below w0.heap.size w0 W' ∧ ∀ q, F' q → F q ∨ W.heap.size ≤ q := by
  have egA := enters_of (P := Try.prog) Try.func66 (by kernel_rfl) rfl
  have HKEEP := Aside0.mk hKeep
  have HWITH := Aside0.mk hWith
  have HFB := Aside0.mk hFB
  clear hKeep hWith hFB
  intro K
  induction K using Nat.strongRecOn with
  | ind K ih =>
  intro s F d fr s' r v W hcap hnf hst hbel hrow hf
  cases K with
  | zero => simp [impl_choose_1.f] at hf
  | succ k =>
  rw [impl_choose_1.f] at hf
  obtain ⟨Ad, cd, hv⟩ := Kd.R_slice hrow
  subst hv
  have IH := Aside0.mk ih
  have HCAP := Aside0.mk hcap
  have HNF := Aside0.mk hnf
  have HST := Aside0.mk hst
  have HB := Aside0.mk hbel
  have HD := Aside0.mk hrow
  have e1 : W.cell? ⟨bM, 0, none⟩ = some (.int .i64 m) := (blk_cell hcap.1 0).trans rfl
  have e2 : W.cell? ⟨bW, 0, none⟩ = some (.func (.func g_) #[] lb_) := (blk_cell hcap.2.1 0).trans rfl
  clear ih hcap hst hbel hrow hnf
  by_cases hl : (d.length : Int) = m
  · rw [if_pos hl] at hf
    have HFF := Aside0.mk hf
    have z1 : ((d.length : Int) == m) = true := beq_iff_eq.mpr hl
    clear hf hl
    go_enter Try.func66, Try.ntmps66
    (repeat ((fail_if_success (with_reducible refine gate_dst (N := 16) rfl ?_)); first | go_values | go_skip | go_guarded | go_step | go_upon))
    refine goesV_ (some 16) rfl rfl eg_ lb_ #[.slice Ad d.length cd] rfl rfl (by (try simp only [List.map_toArray, List.map_cons, List.map_nil]); first | done | rfl) ?_
    refine (HWITH.out k s F d s' r _ W HST.out HB.out HD.out HFF.out).mono ?_
    rintro e W2 ⟨rfl, h1⟩
    refine ⟨_, rfl, ?_⟩
    have HZ := Aside0.mk h1
    clear h1 e1 e2 IH HCAP HST HB HD HFF HNF
    go_wp2
    go_ret
    exact ⟨rfl, HZ.out⟩
  · rw [if_neg hl] at hf
    have HFF := Aside0.mk hf
    have z1 : ((d.length : Int) == m) = false := beq_eq_false_iff_ne.mpr hl
    clear hf hl
    go_enter Try.func66, Try.ntmps66
    go_wp2
    go_loopg [9] k (fun kq v9 w' => ∃ (i : Int) (s1 : σ) (F1 : Nat → Prop), v9 = .int .i64 i ∧ Aside0 (impl_choose_1.l0 of_ kq n m s1 d i = some (s', r)) ∧ Aside0 (kq ≤ k) ∧ Aside0 (ChCap m n g_ lb_ bM bW bS bA w') ∧ Aside0 (¬ F1 bM ∧ ¬ F1 bW ∧ ¬ F1 bS ∧ ¬ F1 bA) ∧ Aside0 (St s1 F1 w') ∧ Aside0 (Below w0.heap.size w0 w') ∧ Aside0 (Kd.R (Kd.int .i64) 3 w' w0.heap.size (fun q_ => ¬ F1 q_) (.slice Ad d.length cd) d) ∧ Aside0 (Kept W w' F) ∧ Aside0 (∀ q, F1 q → F q ∨ W.heap.size ≤ q))
    case atStart => exact ⟨fr, s, F, rfl, HFF, ⟨Nat.le_refl _⟩, HCAP, HNF, HST, HB, HD, ⟨Kept.refl _ _⟩, ⟨fun _ h => .inl h⟩⟩
    case round =>
      clear HFF HCAP HST HB HD HNF e1 e2 z1
      obtain ⟨i, s1, F1, rfl, HA, HK1, HCAP, HNF, HST, HB, HD, HKT, HFG⟩ := hrel
      cases gk with
      | zero => exact absurd HA.out (by simp [impl_choose_1.l0])
      | succ k1 =>
        have H := HA.out
        clear HA
        rw [impl_choose_1.l0] at H
        have e3 : wr.cell? ⟨bS, 0, none⟩ = some (.int .i64 n) := (blk_cell HCAP.out.2.2.1 0).trans rfl
        by_cases hin : i < n
        · rw [if_pos hin] at H
          have c1 : decide (i < n) = true := decide_eq_true hin
          clear hin
          by_cases hdl : d.length < 17592186044415
          case neg => rw [if_neg hdl] at H; exact absurd H (by simp)
          rw [if_pos hdl] at H
          obtain ⟨⟨s2, b2⟩, hrec, H⟩ := Option.bind_eq_some_iff.1 H
          have HREC := Aside0.mk hrec
          have HDL := Aside0.mk hdl
          clear hrec hdl
          go_wp2
          have HT_ : Aside0 (Kept wr wr.drew (fun _ => False)) := ⟨Kept.drew (Kept.refl _ _)⟩
          have n0_ := Aside0.mk (below_drew1 HB.out)
          clear HB
          have HB := n0_
          clear n0_
          refine start_ (n := 9) (S := fun w' => w'.cell? ⟨bA, 0, none⟩ = some (.func (.func 66) #[] #[.pointer (some ⟨bM, 0, none⟩), .pointer (some ⟨bW, 0, none⟩), .pointer (some ⟨bS, 0, none⟩), .pointer (some ⟨bA, 0, none⟩)])) (ds := []) #[false, false, false, false, false, false, false, false, false] (by kernel_rfl) rfl rfl ((blk_cell HCAP.out.2.2.2 0).trans rfl) (fun hHeld => ?_)
          generalize wr.drew = w5 at HB HT_ hHeld ⊢
          refine take_ (i := 0) (N := some 23) (v := ?_) (a' := ?_) #[true, false, false, false, false, false, false, false, false] rfl rfl (by kernel_rfl) (fun _ _ _ h => h) (Or.inl ⟨by rfl, ?_⟩) hHeld ?_ ?_
          rotate_left
          · rintro w' s0_
            go_simp
            with_reducible rfl
          rotate_left
          · simp only [Act.put, List.setIfInBounds_toArray, List.set_cons_zero, List.set_cons_succ, i64_w, i32_w]
            rfl
          refine pure_ (i := 1) (N := some 24) (v := ?_) (a' := ?_) #[true, true, false, false, false, false, false, false, false] rfl rfl (by kernel_rfl) (fun _ _ _ h => h) (Or.inl ⟨by rfl, ?_⟩) ?_ ?_
          rotate_left
          · intro w'
            go_simp
            with_reducible rfl
          rotate_left
          · simp only [Act.put, List.setIfInBounds_toArray, List.set_cons_zero, List.set_cons_succ, i64_w, i32_w]
            rfl
          refine pure_ (i := 3) (N := some 26) (v := ?_) (a' := ?_) #[true, true, false, true, false, false, false, false, false] rfl rfl (by kernel_rfl) (fun _ _ _ h => h) (Or.inl ⟨by rfl, ?_⟩) ?_ ?_
          rotate_left
          · intro w'
            go_simp
            with_reducible rfl
          rotate_left
          · simp only [Act.put, List.setIfInBounds_toArray, List.set_cons_zero, List.set_cons_succ, i64_w, i32_w]
            rfl
          refine pure_ (i := 6) (N := some 29) (v := ?_) (a' := ?_) #[true, true, false, true, false, false, true, false, false] rfl rfl (by kernel_rfl) (fun _ _ _ h => h) (Or.inl ⟨by rfl, ?_⟩) ?_ ?_
          rotate_left
          · intro w'
            go_simp
            with_reducible rfl
          rotate_left
          · simp only [Act.put, List.setIfInBounds_toArray, List.set_cons_zero, List.set_cons_succ, i64_w, i32_w]
            rfl
          refine pure_ (i := 7) (N := some 30) (v := ?_) (a' := ?_) #[true, true, false, true, false, false, true, true, false] rfl rfl (by kernel_rfl) (fun _ _ _ h => h) (Or.inl ⟨by rfl, ?_⟩) ?_ ?_
          rotate_left
          · intro w'
            go_simp
            with_reducible rfl
          rotate_left
          · simp only [Act.put, List.setIfInBounds_toArray, List.set_cons_zero, List.set_cons_succ, i64_w, i32_w]
            rfl
          have H5 := Aside0.mk HT_.out.1
          have HS5 := Aside0.mk (Nat.le_refl w5.heap.size)
          refine join_ (σ := Value × Value) 2 #[true, true, true, true, true, false, true, true, false] (fun s_ => [(25, s_.1), (27, s_.2)]) (fun s_ w' => (w'.cell? ⟨bA, 0, none⟩ = some (.func (.func 66) #[] #[.pointer (some ⟨bM, 0, none⟩), .pointer (some ⟨bW, 0, none⟩), .pointer (some ⟨bS, 0, none⟩), .pointer (some ⟨bA, 0, none⟩)])) ∧ Kd.R (Kd.int .i64) 3 w' w0.heap.size (fun q_ => w5.heap.size ≤ q_) s_.1 d ∧ Kd.R (Kd.int .i64) 3 w' 0 (fun _ => True) s_.2 [i] ∧ Kept wr w' (fun _ => False) ∧ Below w0.heap.size w0 w' ∧ w5.heap.size ≤ w'.heap.size) ?cont ?start
          case start =>
            intro hCont
            refine two_ (i := 2) (j := 4) (Ni := some 25) (Nj := some 27) #[true, true, true, true, false, false, true, true, false] #[true, true, false, true, true, false, true, true, false] rfl rfl rfl rfl (by kernel_rfl) (by decide) (by decide) (fun K hK => ?_) (fun K hK => ?_)
            · skip
              refine goes_ Try.func59 (by kernel_rfl) rfl #[.slice Ad d.length cd] (by rfl) rfl rfl (by (try simp only [List.map_toArray, List.map_cons, List.map_nil]); first | done | rfl) ?_
              have HD4 := Kd.R_reads' (Kd.R_kept HD.out HT_.out (fun _ _ h => h))
              refine (slices_Clone_int_int.calls Ad cd d d _ HD4.2.2 HD4.2.1 (by unfold slices_Clone_int_int.f; rw [if_pos (by have := HDL.out; omega)])).mono ?_
              rintro e w6 ⟨v29, rfl, ho, hb⟩
              refine ⟨_, rfl, ?_⟩
              have n0_ := Aside0.mk (below_step HB.out hb)
              have n1_ := Aside0.mk (HT_.out.below hb)
              have HCL := Aside0.mk (Kd.R_lower (Kd.R_mono (ok' := fun q_ => w5.heap.size ≤ q_) (Kd.R_bound ho) (fun q_ h_ => Nat.le_trans HS5.out h_.2.1)) HB.out.size)
              have n9_ := Aside0.mk (Nat.le_trans HS5.out hb.size)
              clear HS5
              have HS5 := n9_
              clear n9_
              clear HB HT_ hb ho HD4
              have HB := n0_
              have HT_ := n1_
              clear n0_ n1_
              have hcp_ := HCAP.out.kept HT_.out ⟨fun h => h, fun h => h, fun h => h, fun h => h⟩
              refine hK.out _ _ ((blk_cell hcp_.2.2.2 0).trans rfl) (fun hHeld => ?_)
              clear hK K
              refine norm_ (a' := ?_) ?_ ?_
              rotate_left
              · show Act.put _ (some 25) _ = _
                simp only [Act.put, List.setIfInBounds_toArray, List.set_cons_zero, List.set_cons_succ, i64_w, i32_w]
                rfl
              clear hcp_
              refine one_ (i := 4) (N := some 27) #[true, true, true, true, true, false, true, true, false] rfl rfl (by kernel_rfl) (by decide) (fun K hK => ?_)
              refine Kd.R_lit_step (Kd.int .i64) _ 3 ?hg (N := 27) ?hd (xs := ([i] : List Int)) (inner := [.int .i64 i]) (ok := fun _ => True) (okp := fun _ => True) ?hr ?hp (fun _ hk => hk) trivial (Below.refl _ _) (Nat.le_refl _) (by simp) ?_; (case hd => rfl); (case hg => rfl); (case hr => first | (go_simp; done) | (go_simp; rfl)); (case hp => exact (Reps.one (show Kd.M (Kd.int .i64) _ _ _ i [.int .i64 i] from rfl) (Reps.none _ _)))
              intro v31 w7 ho hb hg_ hnew_
              clear hg_ hnew_
              have n0_ := Aside0.mk (below_step HB.out hb)
              have n1_ := Aside0.mk (HT_.out.below hb)
              have HLI := Aside0.mk (show Kd.R (Kd.int .i64) 3 w7 0 (fun _ => True) v31 [i] from Kd.R_lower ho (Nat.zero_le _))
              have n2_ := Aside0.mk (Kd.R_below HCL.out hb)
              have n9_ := Aside0.mk (Nat.le_trans HS5.out hb.size)
              clear HS5
              have HS5 := n9_
              clear n9_
              clear HB HT_ hb ho
              have HB := n0_
              have HT_ := n1_
              clear n0_ n1_
              have hcp_ := HCAP.out.kept HT_.out ⟨fun h => h, fun h => h, fun h => h, fun h => h⟩
              clear HCL
              have HCL := n2_
              clear n2_
              refine hK.out _ _ ((blk_cell hcp_.2.2.2 0).trans rfl) (fun hHeld => ?_)
              clear hK K
              refine norm_ (a' := ?_) ?_ ?_
              rotate_left
              · show Act.put _ (some 27) _ = _
                simp only [Act.put, List.setIfInBounds_toArray, List.set_cons_zero, List.set_cons_succ, i64_w, i32_w]
                rfl
              clear hcp_
              exact norm_ (by simp only [putAll, Act.put, List.setIfInBounds_toArray, List.set_cons_zero, List.set_cons_succ]) (hCont (v29, v31) _ ⟨hHeld, HCL.out, HLI.out, HT_.out, HB.out, HS5.out⟩)
            · skip
              refine Kd.R_lit_step (Kd.int .i64) _ 3 ?hg (N := 27) ?hd (xs := ([i] : List Int)) (inner := [.int .i64 i]) (ok := fun _ => True) (okp := fun _ => True) ?hr ?hp (fun _ hk => hk) trivial (Below.refl _ _) (Nat.le_refl _) (by simp) ?_; (case hd => rfl); (case hg => rfl); (case hr => first | (go_simp; done) | (go_simp; rfl)); (case hp => exact (Reps.one (show Kd.M (Kd.int .i64) _ _ _ i [.int .i64 i] from rfl) (Reps.none _ _)))
              intro v31 w6 ho hb hg_ hnew_
              clear hg_ hnew_
              have n0_ := Aside0.mk (below_step HB.out hb)
              have n1_ := Aside0.mk (HT_.out.below hb)
              have HLI := Aside0.mk (show Kd.R (Kd.int .i64) 3 w6 0 (fun _ => True) v31 [i] from Kd.R_lower ho (Nat.zero_le _))
              have n9_ := Aside0.mk (Nat.le_trans HS5.out hb.size)
              clear HS5
              have HS5 := n9_
              clear n9_
              clear HB HT_ hb ho
              have HB := n0_
              have HT_ := n1_
              clear n0_ n1_
              have hcp_ := HCAP.out.kept HT_.out ⟨fun h => h, fun h => h, fun h => h, fun h => h⟩
              refine hK.out _ _ ((blk_cell hcp_.2.2.2 0).trans rfl) (fun hHeld => ?_)
              clear hK K
              refine norm_ (a' := ?_) ?_ ?_
              rotate_left
              · show Act.put _ (some 27) _ = _
                simp only [Act.put, List.setIfInBounds_toArray, List.set_cons_zero, List.set_cons_succ, i64_w, i32_w]
                rfl
              clear hcp_
              refine one_ (i := 2) (N := some 25) #[true, true, true, true, true, false, true, true, false] rfl rfl (by kernel_rfl) (by decide) (fun K hK => ?_)
              refine goes_ Try.func59 (by kernel_rfl) rfl #[.slice Ad d.length cd] (by rfl) rfl rfl (by (try simp only [List.map_toArray, List.map_cons, List.map_nil]); first | done | rfl) ?_
              have HD4 := Kd.R_reads' (Kd.R_kept HD.out HT_.out (fun _ _ h => h))
              refine (slices_Clone_int_int.calls Ad cd d d _ HD4.2.2 HD4.2.1 (by unfold slices_Clone_int_int.f; rw [if_pos (by have := HDL.out; omega)])).mono ?_
              rintro e w7 ⟨v29, rfl, ho, hb⟩
              refine ⟨_, rfl, ?_⟩
              have n0_ := Aside0.mk (below_step HB.out hb)
              have n1_ := Aside0.mk (HT_.out.below hb)
              have HCL := Aside0.mk (Kd.R_lower (Kd.R_mono (ok' := fun q_ => w5.heap.size ≤ q_) (Kd.R_bound ho) (fun q_ h_ => Nat.le_trans HS5.out h_.2.1)) HB.out.size)
              have n2_ := Aside0.mk (Kd.R_below HLI.out hb)
              have n9_ := Aside0.mk (Nat.le_trans HS5.out hb.size)
              clear HS5
              have HS5 := n9_
              clear n9_
              clear HB HT_ hb ho HD4
              have HB := n0_
              have HT_ := n1_
              clear n0_ n1_
              have hcp_ := HCAP.out.kept HT_.out ⟨fun h => h, fun h => h, fun h => h, fun h => h⟩
              clear HLI
              have HLI := n2_
              clear n2_
              refine hK.out _ _ ((blk_cell hcp_.2.2.2 0).trans rfl) (fun hHeld => ?_)
              clear hK K
              refine norm_ (a' := ?_) ?_ ?_
              rotate_left
              · show Act.put _ (some 25) _ = _
                simp only [Act.put, List.setIfInBounds_toArray, List.set_cons_zero, List.set_cons_succ, i64_w, i32_w]
                rfl
              clear hcp_
              exact norm_ (by simp only [putAll, Act.put, List.setIfInBounds_toArray, List.set_cons_zero, List.set_cons_succ]) (hCont (v29, v31) _ ⟨hHeld, HCL.out, HLI.out, HT_.out, HB.out, HS5.out⟩)
          case cont =>
            rintro ⟨v29, v31⟩ w8 ⟨hHeld, hcl, hli, hkt8, hbel8, hsz8⟩
            clear HT_ HB HS5
            have H58 := Aside0.mk hsz8
            clear hsz8
            obtain ⟨A29, c29, e29⟩ := Kd.R_slice hcl
            obtain ⟨A31, c31, e31⟩ := Kd.R_slice hli
            subst e29 e31
            have HCL := Aside0.mk hcl
            have HLI := Aside0.mk hli
            have HT_ := Aside0.mk hkt8
            have HB := Aside0.mk hbel8
            clear hcl hli hkt8 hbel8
            refine norm_ (a' := ?_) ?_ ?_
            rotate_left
            · simp only [putAll, Act.put, List.setIfInBounds_toArray, List.set_cons_zero, List.set_cons_succ]
              rfl
            refine one_ (i := 5) (N := some 28) #[true, true, true, true, true, true, true, true, false] rfl rfl (by kernel_rfl) (by decide) (fun K hK => ?_)
            refine Kd.R_append_rows_step (Kd.int .i64) (w0 := w0) w0.heap.size (by rfl) (.tmp 25) (.tmp 27) 24 3 (.int .i64 0) 8 rfl Try.underlying24 info3 rfl (by decide) (by omega) (.slice A29 d.length c29) d [i] A31 1 c31 (fun q_ => w5.heap.size ≤ q_) (fun _ => False) rfl rfl ?aO ?aR (fun _ _ h => h) (fun _ h => h.elim) ?aF ?aB ?aS ?aL ?_
            case aR => exact (Kd.R_reads' HLI.out).2.2
            case aB => exact HB.out
            case aF => exact (fun k_ hk => Nat.le_trans H58.out hk)
            case aO => exact HCL.out
            case aS => exact HB.out.size
            case aL => have := HDL.out; omega
            intro v32 w9 ho hb hg hat
            have n1_ := Aside0.mk (show Kept wr w9 (fun _ => False) from Kept.of_grown hg HT_.out (fun q_ hq_ => .inr (Nat.le_trans H5.out (HCL.out.1 q_ hq_))))
            have HV := Aside0.mk (show Kd.R (Kd.int .i64) 3 w9 w0.heap.size (fun q_ => ¬ F1 q_) v32 (d ++ [i]) from Kd.R_mono ho (fun q_ hq_ hF_ => by have h1_ := HFB.out _ _ _ HST.out q_ hF_; have h2_ := H5.out; omega))
            clear HB HT_ HCL HLI ho hg hat
            have HB := Aside0.mk hb
            have HT_ := n1_
            clear n1_ hb
            have hcp_ := HCAP.out.kept HT_.out ⟨fun h => h, fun h => h, fun h => h, fun h => h⟩
            refine hK.out _ _ ((blk_cell hcp_.2.2.2 0).trans rfl) (fun hHeld => ?_)
            clear hK K
            refine norm_ (a' := ?_) ?_ ?_
            rotate_left
            · show Act.put _ (some 28) _ = _
              simp only [Act.put, List.setIfInBounds_toArray, List.set_cons_zero, List.set_cons_succ, i64_w, i32_w]
              rfl
            clear hcp_
            refine one_ (i := 8) (N := some 31) #[true, true, true, true, true, true, true, true, true] rfl rfl (by kernel_rfl) (by decide) (fun K hK => ?_)
            refine goesVs_ egA #[.pointer (some ⟨bM, 0, none⟩), .pointer (some ⟨bW, 0, none⟩), .pointer (some ⟨bS, 0, none⟩), .pointer (some ⟨bA, 0, none⟩)] #[v32, .int .i64 (wrap64 (i + 1))] (by rfl) rfl rfl rfl (by (try simp only [List.map_toArray, List.map_cons, List.map_nil]); first | done | rfl) ?_
            refine (IH.out k1 (by have := HK1.out; omega) s1 F1 (d ++ [i]) (wrap64 (i + 1)) s2 b2 v32 w9 (HCAP.out.kept HT_.out ⟨fun h => h, fun h => h, fun h => h, fun h => h⟩) HNF.out (HKEEP.out _ _ _ _ HST.out HT_.out) HB.out HV.out HREC.out).mono ?_
            rintro e w10 ⟨rfl, F2, h1, h2, h3, h4⟩
            refine ⟨_, rfl, ?_⟩
            have hkr : Kept wr w10 F1 := (HT_.out.mono (S' := F1) (fun _ h => h.elim)).then_ h2 (fun _ h => .inl h)
            have hcp_ := HCAP.out.kept hkr HNF.out
            refine hK.out _ _ ((blk_cell hcp_.2.2.2 0).trans rfl) (fun hHeld => ?_)
            clear hK K
            refine norm_ (a' := ?_) ?_ ?_
            rotate_left
            · show Act.put _ (some 31) _ = _
              simp only [Act.put, List.setIfInBounds_toArray, List.set_cons_zero, List.set_cons_succ, i64_w, i32_w]
              rfl
            have HZ := Aside0.mk (show ChCap m n g_ lb_ bM bW bS bA w10 ∧ (¬ F2 bM ∧ ¬ F2 bW ∧ ¬ F2 bS ∧ ¬ F2 bA) ∧ St s2 F2 w10 ∧ Kd.R (Kd.int .i64) 3 w10 w0.heap.size (fun q_ => ¬ F2 q_) (.slice Ad d.length cd) d ∧ Kept W w10 F ∧ Below w0.heap.size w0 w10 ∧ (∀ q, F2 q → F q ∨ W.heap.size ≤ q) from ⟨hcp_, HCAP.out.far HT_.out.1 HNF.out h4, h1, Kd.R_mono (Kd.R_kept (Kd.R_bound HD.out) hkr (fun _ hk => hk.1)) (fun q_ hq_ hF_ => (h4 q_ hF_).elim hq_.1 (fun hge_ => by have h5_ := hq_.2.2.1; have h6_ := HT_.out.1; omega)), HKT.out.then_ hkr HFG.out, h3, fun q_ hq_ => (h4 q_ hq_).elim (HFG.out q_) (fun hge_ => .inr (Nat.le_trans HKT.out.1 (Nat.le_trans HT_.out.1 hge_)))⟩)
            clear hcp_ h1 h2 h3 h4 hkr HCAP HST HD HKT HT_ HB HV HREC HNF HFG
            refine done_ (by kernel_rfl) ?_
            clear hHeld
            cases b2 with
            | false =>
              rw [if_neg (by simp)] at H
              have H' := Aside0.mk H
              clear H
              go_wp2
              go_roundg k1
              case measure => omega
              case rel => exact ⟨_, s2, F2, rfl, H', ⟨by have := HK1.out; omega⟩, ⟨HZ.out.1⟩, ⟨HZ.out.2.1⟩, ⟨HZ.out.2.2.1⟩, ⟨HZ.out.2.2.2.2.2.1⟩, ⟨HZ.out.2.2.2.1⟩, ⟨HZ.out.2.2.2.2.1⟩, ⟨HZ.out.2.2.2.2.2.2⟩⟩
            | true =>
              rw [if_pos rfl] at H
              obtain ⟨rfl, rfl⟩ := Prod.mk.inj (Option.some.inj H)
              clear H
              go_wp2
              go_ret
              exact ⟨rfl, F2, HZ.out.2.2.1, HZ.out.2.2.2.2.1, HZ.out.2.2.2.2.2.1, HZ.out.2.2.2.2.2.2⟩
        · rw [if_neg hin] at H
          have c1 : decide (i < n) = false := decide_eq_false hin
          obtain ⟨rfl, rfl⟩ := Prod.mk.inj (Option.some.inj H)
          clear H hin
          go_wp2
          go_ret
          exact ⟨rfl, F1, HST.out, HKT.out, HB.out, HFG.out⟩
def impl_choose.f {σ : Type} (of_ : Nat → σ → List Int → Option (σ × Bool)) (k : Nat) (n m : Int) (s : σ) : Option σ := (impl_choose_1.f of_ k n m s [] 0).bind fun x => some x.1
theorem impl_choose.mono {σ : Type} (of_ : Nat → σ → List Int → Option (σ × Bool)) (hm : ∀ s d k, LeO (of_ k s d) (of_ (k + 1) s d)) : ∀ n m s k, LeO (impl_choose.f of_ k n m s) (impl_choose.f of_ (k + 1) n m s) := fun n m s k => LeO.bind ((impl_choose_1.mono_l of_ hm k).1 n m s [] 0) (fun _ => LeO.refl _)
set_option maxHeartbeats 8000000 in
set_option maxRecDepth 100000 in
theorem impl_choose.calls {σ : Type} (St : σ → (Nat → Prop) → World → Prop) (g_ : Nat) (lb_ : Array Value) (of_ : Nat → σ → List Int → Option (σ × Bool)) (eg_ : ∀ args w, (callFunc g_ args).run Try.prog w = .ok (.enter g_ args) w) (n m : Int) (w0 w : World)
    (hB : Below w0.heap.size w0 w) (hKeep : ∀ s F W W', St s F W → Kept W W' (fun _ => False) → St s F W') (hFB : ∀ s F W, St s F W → ∀ q, F q → q < W.heap.size)
    (hWith : ∀ (k : Nat) (s : σ) (F : Nat → Prop) (d : List Int) (s' : σ) (r : Bool) (v : Value) (W : World), St s F W → Below w0.heap.size w0 W → Kd.R (Kd.int .i64) 3 W w0.heap.size (fun q_ => ¬ F q_) v d → of_ k s d = some (s', r) → Calls Try.prog g_ (#[v] ++ lb_) W fun e W' => e = .returned (.bool r) ∧ ∃ F' : Nat → Prop, St s' F' W' ∧ Kept W W' F ∧ Below w0.heap.size w0 W' ∧ ∀ q, F' q → F q ∨ W.heap.size ≤ q)
    (K : Nat) (s s' : σ) (F : Nat → Prop) (hst : St s F w) (h : impl_choose.f of_ K n m s = some s') :
    Calls Try.prog 48 #[.int .i64 n, .int .i64 m, .func (.func g_) #[] lb_] w fun e W' => e = .returned (.tuple #[]) ∧ ∃ F' : Nat → Prop, St s' F' W' ∧ Kept w W' F ∧ Below w0.heap.size w0 W' ∧ ∀ q, F' q → F q ∨ w.heap.size ≤ q := by
  obtain ⟨⟨s2, r2⟩, h1, h2⟩ := Option.bind_eq_some_iff.1 h
  obtain rfl := Option.some.inj h2
  have HF := Aside0.mk h1
  have HBw := Aside0.mk hB
  have HB := Aside0.mk hB
  have HST := Aside0.mk hst
  have HKEEP := Aside0.mk hKeep
  have HWITH := Aside0.mk hWith
  have HFB := Aside0.mk (hFB _ _ _ hst)
  have HK := Aside0.mk (Kept.refl w (fun _ => False))
  clear h h1 h2 hB hst hKeep hWith
  go_enter Try.func48, Try.ntmps48
  (repeat ((fail_if_success (with_reducible refine gate_dst (N := 3) rfl ?_)); first | go_values | go_skip | go_guarded | go_step | go_upon))
  refine box_event ?hg (N := 3) ?hd (cs := #[.int .i64 n]) (t := 3) ?hr ?_
  case hd => rfl
  case hg => rfl
  case hr => first | (go_simp; done) | (go_simp; rfl)
  intro bS hg w1 hbox hb
  have n0_ := Aside0.mk (below_step HB.out hb)
  have n1_ := Aside0.mk (HK.out.below hb)
  have BS := Aside0.mk hbox
  have GS := Aside0.mk hg
  clear HB HK hg hb hbox
  have HB := n0_
  have HK := n1_
  clear n0_ n1_
  have s1 := Aside0.mk (blk_lt BS.out)
  (repeat ((fail_if_success (with_reducible refine gate_dst (N := 4) rfl ?_)); first | go_values | go_skip | go_guarded | go_step | go_upon))
  refine box_event ?hg (N := 4) ?hd (cs := #[.int .i64 m]) (t := 3) ?hr ?_
  case hd => rfl
  case hg => rfl
  case hr => first | (go_simp; done) | (go_simp; rfl)
  intro bM hg w2 hbox hb
  have n0_ := Aside0.mk (below_step HB.out hb)
  have n1_ := Aside0.mk (HK.out.below hb)
  have m0_ := Aside0.mk (blk_below BS.out hb)
  have BM := Aside0.mk hbox
  have GM := Aside0.mk hg
  clear HB HK hg hb hbox BS
  have HB := n0_
  have HK := n1_
  have BS := m0_
  clear n0_ n1_ m0_
  have s2 := Aside0.mk (blk_lt BM.out)
  (repeat ((fail_if_success (with_reducible refine gate_dst (N := 5) rfl ?_)); first | go_values | go_skip | go_guarded | go_step | go_upon))
  refine box_event ?hg (N := 5) ?hd (cs := #[.func (.func g_) #[] lb_]) (t := 49) ?hr ?_
  case hd => rfl
  case hg => rfl
  case hr => first | (go_simp; done) | (go_simp; rfl)
  intro bW hg w3 hbox hb
  have n0_ := Aside0.mk (below_step HB.out hb)
  have n1_ := Aside0.mk (HK.out.below hb)
  have m0_ := Aside0.mk (blk_below BS.out hb)
  have m1_ := Aside0.mk (blk_below BM.out hb)
  have BW := Aside0.mk hbox
  have GW := Aside0.mk hg
  clear HB HK hg hb hbox BS BM
  have HB := n0_
  have HK := n1_
  have BS := m0_
  have BM := m1_
  clear n0_ n1_ m0_ m1_
  have s3 := Aside0.mk (blk_lt BW.out)
  (repeat ((fail_if_success (with_reducible refine gate_dst (N := 6) rfl ?_)); first | go_values | go_skip | go_guarded | go_step | go_upon))
  refine box_event ?hg (N := 6) ?hd (cs := #[.nilFunc]) (t := 60) ?hr ?_
  case hd => rfl
  case hg => rfl
  case hr => first | (go_simp; done) | (go_simp; rfl)
  intro bA hg w4 hbox hb
  have n0_ := Aside0.mk (below_step HB.out hb)
  have n1_ := Aside0.mk (HK.out.below hb)
  have m0_ := Aside0.mk (blk_below BS.out hb)
  have m1_ := Aside0.mk (blk_below BM.out hb)
  have m2_ := Aside0.mk (blk_below BW.out hb)
  have BA := Aside0.mk hbox
  have GA := Aside0.mk hg
  clear HB HK hg hb hbox BS BM BW
  have HB := n0_
  have HK := n1_
  have BS := m0_
  have BM := m1_
  have BW := m2_
  clear n0_ n1_ m0_ m1_ m2_
  have HLT := Aside0.mk (show w.heap.size ≤ bS ∧ bS < bM ∧ bM < bW ∧ bW < bA from by have := GS.out; have := GM.out; have := GW.out; have := GA.out; have := s1.out; have := s2.out; have := s3.out; omega)
  clear GS GM GW GA s1 s2 s3
  have ea : w4.cell? ⟨bA, 0, none⟩ = some .nilFunc := (blk_cell BA.out 0).trans rfl
  have fa : w4.frozen? ⟨bA, 0, none⟩ = false := blk_frozen BA.out 0
  (repeat ((fail_if_success (with_reducible refine gate_store (t := 60) (p := 6) rfl ?_)); first | go_values | go_skip | go_guarded | go_step | go_upon))
  refine store_event (t := 60) (p := 6) (v := ?vo) (w1 := (w4.setCell ⟨bA, 0, none⟩ (.func (.func 66) #[] #[.pointer (some ⟨bM, 0, none⟩), .pointer (some ⟨bW, 0, none⟩), .pointer (some ⟨bS, 0, none⟩), .pointer (some ⟨bA, 0, none⟩)]))) ?hg ?ho ?hn ?hr ?_
  case ho => rfl
  case hg => rfl
  case hn => rfl
  case hr => first | (go_simp; done) | (go_simp; rfl)
  intro w5 hw
  have BA2 := Aside0.mk (show w5.heap[bA]? = some (.cells #[.func (.func 66) #[] #[.pointer (some ⟨bM, 0, none⟩), .pointer (some ⟨bW, 0, none⟩), .pointer (some ⟨bS, 0, none⟩), .pointer (some ⟨bA, 0, none⟩)]] 60 (0, 0)) from by rw [hw]; exact blk_put (cs := #[.nilFunc]) BA.out 0 _ rfl)
  have hk5 : Kept w4 w5 (fun q_ => q_ = bA) := by rw [hw]; exact (Kept.refl w4 (fun q_ => q_ = bA)).setCell (p := ⟨bA, 0, none⟩) (.inl rfl) _
  have n0_ := Aside0.mk (show Below w0.heap.size w0 w5 from by rw [hw]; exact below_set HB.out (by have := HLT.out; have := HB.out.size; have h1_ := HBw.out.size; omega))
  have n1_ := Aside0.mk (show Kept w w5 (fun _ => False) from HK.out.then_ hk5 (fun q_ h_ => .inr (by have := HLT.out; omega)))
  have HCAP := Aside0.mk (show ChCap m n g_ lb_ bM bW bS bA w5 from ⟨blk_kept BM.out hk5 (by have := HLT.out; omega), blk_kept BW.out hk5 (by have := HLT.out; omega), blk_kept BS.out hk5 (by have := HLT.out; omega), BA2.out⟩)
  clear HB HK BS BM BW BA BA2 hk5 hw ea fa
  have HB := n0_
  have HK := n1_
  clear n0_ n1_
  have ea : w5.cell? ⟨bA, 0, none⟩ = some (.func (.func 66) #[] #[.pointer (some ⟨bM, 0, none⟩), .pointer (some ⟨bW, 0, none⟩), .pointer (some ⟨bS, 0, none⟩), .pointer (some ⟨bA, 0, none⟩)]) := (blk_cell HCAP.out.2.2.2 0).trans rfl
  (repeat ((fail_if_success (with_reducible refine gate_dst (N := 9) rfl ?_)); first | go_values | go_skip | go_guarded | go_step | go_upon))
  refine Kd.R_lit (Kd.int .i64) _ 3 ?hg (N := 9) ?hd (xs := ([] : List Int)) (inner := []) (ok := fun _ => True) (okp := fun _ => True) ?hr ?hp (fun _ hk => hk) trivial (Below.refl _ _) (Nat.le_refl _) (by simp) ?_
  case hd => rfl
  case hg => rfl
  case hr => first | (go_simp; done) | (go_simp; rfl)
  case hp => exact (Reps.none _ _)
  intro v9 w6 ho hb hg_ hnew_
  clear hg_ hnew_
  have HV := Aside0.mk (show Kd.R (Kd.int .i64) 3 w6 w0.heap.size (fun q_ => ¬ F q_) v9 [] from Kd.R_lower (Kd.R_mono (Kd.R_bound ho) (fun q_ h_ hF_ => by have h1_ := HFB.out q_ hF_; have h2_ := h_.2.1; have h3_ := HK.out.1; omega)) HB.out.size)
  have n0_ := Aside0.mk (below_step HB.out hb)
  have n1_ := Aside0.mk (HK.out.below hb)
  have n2_ := Aside0.mk (HCAP.out.kept (Kept.of_below hb (fun _ => False)) ⟨fun h => h, fun h => h, fun h => h, fun h => h⟩)
  clear HB HK HCAP ho hb ea
  have HB := n0_
  have HK := n1_
  have HCAP := n2_
  clear n0_ n1_ n2_
  (repeat ((fail_if_success (with_reducible refine gate_dst (N := 10) rfl ?_)); first | go_values | go_skip | go_guarded | go_step | go_upon))
  refine goesV_ (some 10) rfl rfl (enters_of Try.func66 (by kernel_rfl) rfl) #[.pointer (some ⟨bM, 0, none⟩), .pointer (some ⟨bW, 0, none⟩), .pointer (some ⟨bS, 0, none⟩), .pointer (some ⟨bA, 0, none⟩)] #[v9, .int .i64 0] rfl rfl (by (try simp only [List.map_toArray, List.map_cons, List.map_nil]); first | done | rfl) ?_
  refine (impl_choose_1.calls St g_ lb_ of_ eg_ bM bW bS bA n m w0 HKEEP.out hFB HWITH.out K s F [] 0 _ r2 v9 w6 HCAP.out ⟨fun h_ => by have := HFB.out _ h_; have := HLT.out; omega, fun h_ => by have := HFB.out _ h_; have := HLT.out; omega, fun h_ => by have := HFB.out _ h_; have := HLT.out; omega, fun h_ => by have := HFB.out _ h_; have := HLT.out; omega⟩ (HKEEP.out _ _ _ _ HST.out HK.out) HB.out HV.out HF.out).mono ?_
  rintro e w7 ⟨rfl, F', h1, h2, h3, h4⟩
  refine ⟨_, rfl, ?_⟩
  have HZ := Aside0.mk (And.intro h1 (And.intro ((HK.out.mono (S' := F) (fun _ h => h.elim)).then_ h2 (fun _ h => .inl h)) (And.intro h3 (fun q_ (hq_ : F' q_) => (h4 q_ hq_).imp id (fun h_ => Nat.le_trans HK.out.1 h_)))))
  clear h1 h2 h3 h4 HB HK HCAP HV HST HF
  go_wp2
  go_end0
  exact ⟨rfl, F', HZ.out⟩
def impl_at.l0 : Nat → List Int → List Int → List Int → Int → Int → Option (List Int)
  | 0, _, _, _, _, _ => none
  | k + 1, x0, x5, x9, x10, x11 => if x11 < x10 then (if 0 ≤ x11 then (if x11 < (x9.length : Int) then (if 0 ≤ (rd x9 x11) then (if (rd x9 x11) < (x0.length : Int) then (if x5.length < 17592186044416 then (impl_at.l0 k x0 (x5 ++ [rd x0 (rd x9 x11)]) x9 x10 (wrap64 (x11 + 1))) else (none)) else (none)) else (none)) else (none)) else (none)) else (some x5)
def impl_at.f (k : Nat) (l0 : List Int) (l1 : List Int) : Option (List Int) := impl_at.l0 k l0 (([] : List Int)) l1 (l1.length : Int) 0
theorem impl_at.mono_l : ∀ k, (∀ y0 y1 y2 y3 y4, LeO (impl_at.l0 k y0 y1 y2 y3 y4) (impl_at.l0 (k + 1) y0 y1 y2 y3 y4))
  | 0 => fun _ _ _ _ _ r h => by simp [impl_at.l0] at h
  | k + 1 => by
    have ih0 := impl_at.mono_l k
    · intro y0 y1 y2 y3 y4
      unfold impl_at.l0
      repeat' first
      | (with_reducible exact ih0 _ _ _ _ _)
      | (with_reducible exact LeO.refl _)
      | (with_reducible exact LeO.none _)
      | (with_reducible refine LeO.ite ?_ ?_)
      | (with_reducible refine LeO.bind ?_ (fun _ => ?_))
      | exact ih0 _ _ _ _ _
      | exact LeO.none _
      | refine LeO.ite ?_ ?_
      | refine LeO.bind ?_ (fun _ => ?_)
theorem impl_at.mono : ∀ a0 a1 k, LeO (impl_at.f k a0 a1) (impl_at.f (k + 1) a0 a1) := by
  intro a0 a1 k
  have ih0 := impl_at.mono_l k
  unfold impl_at.f
  repeat' first
      | (with_reducible exact ih0 _ _ _ _ _)
      | (with_reducible exact LeO.refl _)
      | (with_reducible exact LeO.none _)
      | (with_reducible refine LeO.ite ?_ ?_)
      | (with_reducible refine LeO.bind ?_ (fun _ => ?_))
      | exact ih0 _ _ _ _ _
      | exact LeO.none _
      | refine LeO.ite ?_ ?_
      | refine LeO.bind ?_ (fun _ => ?_)
set_option maxHeartbeats 8000000 in
set_option maxRecDepth 100000 in
theorem impl_at.calls (k : Nat) (A0 : Option Addr) (c0 : Nat) (l0 : List Int) (A1 : Option Addr) (c1 : Nat) (l1 : List Int) (r : List Int) (w : World) (hr0 : Kd.C (Kd.int .i64) w A0 l0.length l0) (hc0 : l0.length ≤ c0) (hr1 : Kd.C (Kd.int .i64) w A1 l1.length l1) (hc1 : l1.length ≤ c1) (h : impl_at.f k l0 l1 = some r) :
    Calls Try.prog 50 #[.slice A0 l0.length c0, .slice A1 l1.length c1] w fun e w' => ∃ v0_ : Value, e = .returned (v0_) ∧ Kd.R (Kd.int .i64) 3 w' w.heap.size (fun _ => True) v0_ r ∧ Below w.heap.size w w' := by
  have HR0 := Aside0.mk hr0
  have HC0 := Aside0.mk hc0
  clear hr0 hc0
  have HR1 := Aside0.mk hr1
  have HC1 := Aside0.mk hc1
  clear hr1 hc1
  have HB := Aside0.mk (Below.refl w.heap.size w)
  have H : (impl_at.l0 k l0 (([] : List Int)) l1 (l1.length : Int) 0) = some r := h
  clear h
  obtain ⟨y123, hy123⟩ : ∃ y_ : List Int, y_ = (([] : List Int)) := ⟨_, rfl⟩
  replace H : (impl_at.l0 k l0 y123 l1 (l1.length : Int) 0) = some r := by first | (rw [hy123]; with_reducible exact H) | (have H2_ := (Option.bind_some _ _).symm.trans H; rw [hy123]; with_reducible exact H2_) | (have H2_ := (Option.bind_some _ _).symm.trans H; with_reducible exact H2_) | with_reducible exact H | (rw [hy123]; exact H) | exact H
  have Ny123 := Aside0.mk hy123
  clear hy123
  have H' := Aside0.mk H
  clear H
  go_enter Try.func50, Try.ntmps50
  go_wp2_with (first | ((with_reducible refine gate_dst (N := 8) rfl ?_); refine Kd.R_lit (Kd.int .i64) _ 3 ?hg (N := 8) ?hd (xs := ([] : List Int)) (inner := []) (ok := fun _ => True) (okp := fun _ => True) ?hr ?hp (fun _ hk => hk) trivial (Below.refl _ _) (Nat.le_refl _) (by simp) ?_; (case hd => rfl); (case hg => rfl); (case hr => first | (go_simp; done) | (go_simp; rfl)); (case hp => exact (Reps.none _ _)); intro v124 w3 ho4 hb hg_ hnew_; clear hg_ hnew_; (first | rw [← Ny123.out] at ho4 | (simp only [Int.reduceToNat] at ho4; rw [← Ny123.out] at ho4)); have n0_ := Aside0.mk (Kd.R_lower ho4 (below_size (by repeat (first | (with_reducible first | exact HB.out | apply below_alloc | apply pw_below_drewN | apply below_drew1) | exact HB.out)))); have n1_ := Aside0.mk (below_step (by repeat (first | (with_reducible first | exact HB.out | apply below_alloc | apply pw_below_drewN | apply below_drew1) | exact HB.out)) hb); clear HB; have HO125 := n0_; have HB := n1_; clear n0_ n1_; clear hb ho4))
  go_loopg [5, 11] k (fun kq v5 v11 w' => ∃ (x5_1 : List Int) (x11_1 : Int), v11 = .int .i64 x11_1 ∧ Aside0 (impl_at.l0 kq l0 x5_1 l1 (l1.length : Int) x11_1 = some r) ∧ Aside0 (kq ≤ k) ∧ Aside0 (Kd.R (Kd.int .i64) 3 w' w.heap.size (fun _ => True) v5 x5_1) ∧ Aside0 (Below w.heap.size w w'))
  case atStart => exact ⟨(y123), (0), (by first | rfl | (simp; done) | (simp [*]; done)), H', ⟨Nat.le_refl _⟩, ⟨by (with_reducible repeat (first | apply Kd.R_alloc | apply Kd.R_drewN | apply Kd.R_drew)); exact HO125.out⟩, ⟨by repeat (first | (with_reducible first | exact HB.out | apply below_alloc | apply pw_below_drewN | apply below_drew1) | exact HB.out)⟩⟩
  case round =>
    clear H'
    try clear c1
    try clear p2
    obtain ⟨x5_1, x11_1, rfl, HA, HK1, HO_5, HB⟩ := hrel
    cases gk with
    | zero => exact absurd HA.out (by simp [impl_at.l0])
    | succ k1 =>
      have H := HA.out
      clear HA
      simp only [impl_at.l0] at H
      by_cases c5 : x11_1 < (l1.length : Int)
      · rw [if_pos c5] at H
        have c5b0 : decide (x11_1 < (l1.length : Int)) = true := decide_eq_true c5
        clear c5
        by_cases c6 : 0 ≤ x11_1
        · rw [if_pos c6] at H
          have c6b0 : decide (0 ≤ x11_1) = true := decide_eq_true c6
          clear c6
          by_cases c7 : x11_1 < (l1.length : Int)
          · rw [if_pos c7] at H
            have c7b0 : decide (x11_1 < (l1.length : Int)) = true := decide_eq_true c7
            clear c7
            by_cases c8 : 0 ≤ (rd l1 x11_1)
            · rw [if_pos c8] at H
              have c8b0 : decide (0 ≤ (rd l1 x11_1)) = true := decide_eq_true c8
              clear c8
              by_cases c9 : (rd l1 x11_1) < (l0.length : Int)
              · rw [if_pos c9] at H
                have c9b0 : decide ((rd l1 x11_1) < (l0.length : Int)) = true := decide_eq_true c9
                clear c9
                by_cases c10 : x5_1.length < 17592186044416
                · rw [if_pos c10] at H
                  have LMc10 := Aside0.mk c10
                  clear c10
                  obtain ⟨y128, hy128⟩ : ∃ y_ : List Int, y_ = (x5_1 ++ [rd l0 (rd l1 x11_1)]) := ⟨_, rfl⟩
                  replace H : (impl_at.l0 k1 l0 y128 l1 (l1.length : Int) (wrap64 (x11_1 + 1))) = some r := by first | (rw [hy128]; with_reducible exact H) | (have H2_ := (Option.bind_some _ _).symm.trans H; rw [hy128]; with_reducible exact H2_) | (have H2_ := (Option.bind_some _ _).symm.trans H; with_reducible exact H2_) | with_reducible exact H | (rw [hy128]; exact H) | exact H
                  have Ny128 := Aside0.mk hy128
                  clear hy128
                  have H' := Aside0.mk H
                  clear H
                  have p126 : 0 ≤ (x11_1 : Int) := of_decide_eq_true (by first | (with_reducible assumption) | assumption)
                  have q126 : x11_1 < (l1.length : Int) := of_decide_eq_true (by first | (with_reducible assumption) | assumption)
                  obtain ⟨ad126, e126, hx126_0⟩ := Kd.at_int HR1.out x11_1 p126 q126
                  cases e126
                  replace hx126_0 := (HB.out.cell (World.block_lt_of_cell? w _ hx126_0)).trans hx126_0
                  replace p126 := eq_true p126
                  replace q126 := eq_true q126
                  have p127 : 0 ≤ ((rd l1 x11_1) : Int) := of_decide_eq_true (by first | (with_reducible assumption) | assumption)
                  have q127 : (rd l1 x11_1) < (l0.length : Int) := of_decide_eq_true (by first | (with_reducible assumption) | assumption)
                  obtain ⟨ad127, e127, hx127_0⟩ := Kd.at_int HR0.out (rd l1 x11_1) p127 q127
                  cases e127
                  replace hx127_0 := (HB.out.cell (World.block_lt_of_cell? w _ hx127_0)).trans hx127_0
                  replace p127 := eq_true p127
                  replace q127 := eq_true q127
                  go_wp2_with (first | ((with_reducible refine gate_builtin (b := .append) (xs := #[.tmp 15, .tmp 20]) rfl ?_); at_builtin; refine Kd.R_append (Kd.int .i64) (w0 := w) w.heap.size rfl (.tmp 15) (.tmp 20) 24 3 (.int .i64 0) 8 rfl Try.underlying24 info3 rfl (by decide) (by omega) u5 x5_1 (rd l0 (rd l1 x11_1)) [.int .i64 (rd l0 (rd l1 x11_1))] (fun _ => True) (fun _ => False) rfl rfl ?aP (fun _ hk => hk.elim) ?aF ?aO ?aB ?aS ?aL ?_; (case aP => exact rfl); (case aB => exact (by repeat (first | (with_reducible first | exact HB.out | apply below_alloc | apply pw_below_drewN | apply below_drew1) | exact HB.out))); (case aF => exact (fun _ _ => trivial)); (case aO => exact (by (with_reducible repeat (first | apply Kd.R_alloc | apply Kd.R_drewN | apply Kd.R_drew)); exact HO_5.out)); (case aS => exact (below_size (by repeat (first | (with_reducible first | exact HB.out | apply below_alloc | apply pw_below_drewN | apply below_drew1) | exact HB.out)))); (case aL => have := LMc10.out; omega); intro v129 w11 ho hb hg hat; rw [← Ny128.out] at ho; have n0_ := Aside0.mk (hb); have n1_ := Aside0.mk (ho); clear HB; clear HO_5; have HB := n0_; have HO130 := n1_; clear n0_ n1_; clear ho hb hg hat))
                  go_roundg k1
                  case measure => have := HK1.out; omega
                  case rel => exact ⟨(y128), (wrap64 (x11_1 + 1)), (by first | rfl | (simp; done) | (simp [*]; done)), H', ⟨by have := HK1.out; omega⟩, ⟨by (with_reducible repeat (first | apply Kd.R_alloc | apply Kd.R_drewN | apply Kd.R_drew)); exact HO130.out⟩, ⟨by repeat (first | (with_reducible first | exact HB.out | apply below_alloc | apply pw_below_drewN | apply below_drew1) | exact HB.out)⟩⟩
                · rw [if_neg c10] at H
                  exact absurd H (by simp)
              · rw [if_neg c9] at H
                exact absurd H (by simp)
            · rw [if_neg c8] at H
              exact absurd H (by simp)
          · rw [if_neg c7] at H
            exact absurd H (by simp)
        · rw [if_neg c6] at H
          exact absurd H (by simp)
      · rw [if_neg c5] at H
        have c5b0 : decide (x11_1 < (l1.length : Int)) = false := decide_eq_false c5
        clear c5
        obtain rfl := Option.some.inj H
        go_wp2
        go_ret
        exact ⟨_, by first | rfl | (simp [errW_none, errW_some] <;> rfl) | (simp [*, errW_none, errW_some] <;> rfl), by (with_reducible repeat (first | apply Kd.R_alloc | apply Kd.R_drewN | apply Kd.R_drew)); exact HO_5.out, by repeat (first | (with_reducible first | exact HB.out | apply below_alloc | apply pw_below_drewN | apply below_drew1) | exact HB.out)⟩
end Go.Proofs.Ytidiondgfoolbaa.PFnQueues
