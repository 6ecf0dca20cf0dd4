-- laid by mkprint.py, a program of this claim's writer, over the kit's print program; parts of it are typed by hand
import Derived.Test.YtfjbgmemjjjjoaaPFnEndsCountsx0
namespace Go.Proofs.Ytfjbgmemjjjjoaa.PFnEndsCounts
open Go.RowKit Go.Proofs.YtfjbgmemjjjjoaaW.PrintWords Go.Proofs.YtfjbgmemjjjjoaaW.PrintLast Go.Proofs.YtfjbgmemjjjjoaaW.PrintMore
attribute [local go_sem] max2_int min2_int max_two min_two max_three min_three max_four min_four
set_option linter.unusedVariables false
set_option linter.unusedSimpArgs false
def slices_IndexFunc_int_int.l0 (of_ : Nat → (List Int) → Option Bool) : Nat → List (List Int) → Int → Int → Option (Int)
 | 0, _, _, _ => none
 | k + 1, x0, x7, x8 => if x8 < x7 then (if 0 ≤ x8 then (if x8 < (x0.length : Int) then ((of_ k (rd_L5 x0 x8)).bind fun t130 => (if t130 = true then (some x8) else (slices_IndexFunc_int_int.l0 of_ k x0 x7 (wrap64 (x8 + 1))))) else (none)) else (none)) else (some (-1))
def slices_IndexFunc_int_int.f (of_ : Nat → (List Int) → Option Bool) (k : Nat) (l0 : List (List Int)) (a1 : ByteArray) : Option (Int) := slices_IndexFunc_int_int.l0 of_ k l0 (l0.length : Int) 0
theorem slices_IndexFunc_int_int.mono_l (of_ : Nat → (List Int) → Option Bool) (hmono_ : ∀ (x0_ : (List Int)) k, LeO (of_ k x0_) (of_ (k + 1) x0_)) : ∀ k, (∀ y0 y1 y2, LeO (slices_IndexFunc_int_int.l0 of_ k y0 y1 y2) (slices_IndexFunc_int_int.l0 of_ (k + 1) y0 y1 y2))
 | 0 => fun _ _ _ r h => by simp [slices_IndexFunc_int_int.l0] at h
 | k + 1 => by
  have ih0 := slices_IndexFunc_int_int.mono_l of_ hmono_ k
  ·
   intro y0 y1 y2
   unfold slices_IndexFunc_int_int.l0
   repeat' with_reducible first | exact ih0 _ _ _ | exact hmono_ _ _ | exact LeO.refl _ | exact LeO.none _ | refine LeO.ite ?_ ?_ | refine LeO.bind ?_ (fun _ => ?_)
theorem slices_IndexFunc_int_int.mono (of_ : Nat → (List Int) → Option Bool) (hmono_ : ∀ (x0_ : (List Int)) k, LeO (of_ k x0_) (of_ (k + 1) x0_)) : ∀ a0 a1 k, LeO (slices_IndexFunc_int_int.f of_ k a0 a1) (slices_IndexFunc_int_int.f of_ (k + 1) a0 a1) := by
 intro a0 a1 k
 have ih0 := slices_IndexFunc_int_int.mono_l of_ hmono_ k
 unfold slices_IndexFunc_int_int.f
 repeat' with_reducible first | exact ih0 _ _ _ | exact hmono_ _ _ | exact LeO.refl _ | exact LeO.none _ | refine LeO.ite ?_ ?_ | refine LeO.bind ?_ (fun _ => ?_)
set_option maxHeartbeats 8000000 in
set_option maxRecDepth 100000 in
theorem slices_IndexFunc_int_int.calls (g_ : Nat) (lb_ : Array Value) (of_ : Nat → (List Int) → Option Bool) (eg_ : ∀ args w, (callFunc g_ args).run Try.prog w = .ok (.enter g_ args) w) (k : Nat) (A0 : Option Addr) (c0 : Nat) (l0 : List (List Int)) (a1 : ByteArray) (r : Int) (w : World) (hof_ : ∀ (k : Nat) (Ax0_ : Option Addr) (cx0_ : Nat) (x0_ : (List Int)) (r : Bool) (W : World), Below w.heap.size w W → (Kd.C (Kd.int .i64) W Ax0_ x0_.length x0_) → (x0_.length ≤ cx0_) → of_ k x0_ = some r → Calls Try.prog g_ (#[.slice Ax0_ x0_.length cx0_] ++ lb_) W fun e w' => e = .returned (.bool r) ∧ Below W.heap.size W w') (hr0 : Kd.C (Kd.slice 3 (Kd.int .i64)) w A0 l0.length l0) (hc0 : l0.length ≤ c0) (h : slices_IndexFunc_int_int.f of_ k l0 a1 = some r) :
  Calls Try.prog 74 #[.slice A0 l0.length c0, .func (.func g_) #[] lb_] w fun e w' => e = .returned (.int .i64 r) ∧ Below w.heap.size w w' := by
 have HR0 := Aside0.mk hr0
 have HC0 := Aside0.mk hc0
 clear hr0 hc0
 have HB := Aside0.mk (Below.refl w.heap.size w)
 have H : (slices_IndexFunc_int_int.l0 of_ k l0 (l0.length : Int) 0) = some r := h
 clear h
 have H' := Aside0.mk H
 clear H
 go_enter Try.func74, Try.ntmps74
 go_wp2
 go_loopg [8] k (fun kq v8 w' => ∃ (x8_1 : Int), v8 = .int .i64 x8_1 ∧ Aside0 (slices_IndexFunc_int_int.l0 of_ kq l0 (l0.length : Int) x8_1 = some r) ∧ Aside0 (kq ≤ k) ∧ Aside0 (Below w.heap.size w w'))
 case atStart => exact ⟨(0), (by first | rfl | (simp; done) | (simp [*]; done)), H', ⟨Nat.le_refl _⟩, ⟨by repeat (first | (with_reducible first | exact HB.out | apply below_alloc | apply pw_below_drewN | apply below_drew1) | exact HB.out)⟩⟩
 case round =>
  clear H'
  try clear p2
  obtain ⟨x8_1, rfl, HA, HK1, HB⟩ := hrel
  cases gk with
  | zero => exact absurd HA.out (by simp [slices_IndexFunc_int_int.l0])
  | succ k1 =>
   have H := HA.out
   clear HA
   simp only [slices_IndexFunc_int_int.l0] at H
   by_cases c3 : x8_1 < (l0.length : Int)
   ·
    rw [if_pos c3] at H
    have c3b0 : decide (x8_1 < (l0.length : Int)) = true := decide_eq_true c3
    clear c3
    by_cases c4 : 0 ≤ x8_1
    ·
     rw [if_pos c4] at H
     have c4b0 : decide (0 ≤ x8_1) = true := decide_eq_true c4
     clear c4
     by_cases c5 : x8_1 < (l0.length : Int)
     ·
      rw [if_pos c5] at H
      have c5b0 : decide (x8_1 < (l0.length : Int)) = true := decide_eq_true c5
      clear c5
      replace H := Option.bind_eq_some_iff.mp H
      obtain ⟨t130, A60, H⟩ := H
      (try dsimp only at H)
      have A6 := Aside0.mk A60
      clear A60
      by_cases c7 : t130 = true
      ·
       subst c7
       rw [if_pos rfl] at H
       obtain rfl := Option.some.inj H
       have p129 : 0 ≤ (x8_1 : Int) := of_decide_eq_true (by first | (with_reducible assumption) | assumption)
       have q129 : x8_1 < (l0.length : Int) := of_decide_eq_true (by first | (with_reducible assumption) | assumption)
       obtain ⟨ad129, A129_0, c129_0, e129, hx129_0, hl129_0, hi129_0⟩ := at_L5 HR0.out x8_1 p129 q129
       cases e129
       replace hx129_0 := (HB.out.cell (World.block_lt_of_cell? w _ hx129_0)).trans hx129_0
       have HR129_0 := Aside0.mk hi129_0
       have HC129_0 := Aside0.mk hl129_0
       clear hi129_0 hl129_0
       replace p129 := eq_true p129
       replace q129 := eq_true q129
       go_wp2_with (first | ((with_reducible refine gate_value rfl ?_); refine goesV_ (some 16) rfl rfl eg_ lb_ #[.slice A129_0 (rd_L5 l0 x8_1).length c129_0] rfl rfl (by (try simp only [List.map_toArray, List.map_cons, List.map_nil]); first | done | rfl | (simp only [List.length_drop, List.length_take]; rfl)) ?_; (refine (hof_ k1 _ _ (rd_L5 l0 x8_1) true _ (by repeat (first | (with_reducible first | exact HB.out | apply below_alloc | apply pw_below_drewN | apply below_drew1) | exact HB.out)) ?side1 ?side2 A6.out).mono ?_); (case side1 => repeat (first | exact (Kd.C_below HR129_0.out HB.out) | (with_reducible refine Kd.C_alloc ?_ _) | (with_reducible refine Kd.C_drewN ?_ _) | (with_reducible refine Kd.C_drew ?_))); (case side2 => exact HC129_0.out); rintro e w8 ⟨rfl, hb⟩; refine ⟨_, rfl, ?_⟩; have n0_ := Aside0.mk (below_step (by repeat (first | (with_reducible first | exact HB.out | apply below_alloc | apply pw_below_drewN | apply below_drew1) | exact HB.out)) hb); clear HB; have HB := n0_; clear n0_; (try clear hb); (try clear hb2); (try clear hk); (try clear hi)))
       go_ret
       exact ⟨by first | rfl | (simp [errW_none, errW_some] <;> rfl) | (simp [*, errW_none, errW_some] <;> rfl), by repeat (first | (with_reducible first | exact HB.out | apply below_alloc | apply pw_below_drewN | apply below_drew1) | exact HB.out)⟩
      ·
       replace c7 := Bool.eq_false_iff.mpr c7
       subst c7
       rw [if_neg (show ¬ (false = true) by decide)] at H
       have H' := Aside0.mk H
       clear H
       have p129 : 0 ≤ (x8_1 : Int) := of_decide_eq_true (by first | (with_reducible assumption) | assumption)
       have q129 : x8_1 < (l0.length : Int) := of_decide_eq_true (by first | (with_reducible assumption) | assumption)
       obtain ⟨ad129, A129_0, c129_0, e129, hx129_0, hl129_0, hi129_0⟩ := at_L5 HR0.out x8_1 p129 q129
       cases e129
       replace hx129_0 := (HB.out.cell (World.block_lt_of_cell? w _ hx129_0)).trans hx129_0
       have HR129_0 := Aside0.mk hi129_0
       have HC129_0 := Aside0.mk hl129_0
       clear hi129_0 hl129_0
       replace p129 := eq_true p129
       replace q129 := eq_true q129
       go_wp2_with (first | ((with_reducible refine gate_value rfl ?_); refine goesV_ (some 16) rfl rfl eg_ lb_ #[.slice A129_0 (rd_L5 l0 x8_1).length c129_0] rfl rfl (by (try simp only [List.map_toArray, List.map_cons, List.map_nil]); first | done | rfl | (simp only [List.length_drop, List.length_take]; rfl)) ?_; (refine (hof_ k1 _ _ (rd_L5 l0 x8_1) false _ (by repeat (first | (with_reducible first | exact HB.out | apply below_alloc | apply pw_below_drewN | apply below_drew1) | exact HB.out)) ?side1 ?side2 A6.out).mono ?_); (case side1 => repeat (first | exact (Kd.C_below HR129_0.out HB.out) | (with_reducible refine Kd.C_alloc ?_ _) | (with_reducible refine Kd.C_drewN ?_ _) | (with_reducible refine Kd.C_drew ?_))); (case side2 => exact HC129_0.out); rintro e w9 ⟨rfl, hb⟩; refine ⟨_, rfl, ?_⟩; have n0_ := Aside0.mk (below_step (by repeat (first | (with_reducible first | exact HB.out | apply below_alloc | apply pw_below_drewN | apply below_drew1) | exact HB.out)) hb); clear HB; have HB := n0_; clear n0_; (try clear hb); (try clear hb2); (try clear hk); (try clear hi)))
       go_roundg k1
       case measure => have := HK1.out; omega
       case rel => exact ⟨(wrap64 (x8_1 + 1)), (by first | rfl | (simp; done) | (simp [*]; done)), H', ⟨by have := HK1.out; omega⟩, ⟨by repeat (first | (with_reducible first | exact HB.out | apply below_alloc | apply pw_below_drewN | apply below_drew1) | exact HB.out)⟩⟩
     ·
      rw [if_neg c5] at H
      exact absurd H (by simp)
    ·
     rw [if_neg c4] at H
     exact absurd H (by simp)
   ·
    rw [if_neg c3] at H
    have c3b0 : decide (x8_1 < (l0.length : Int)) = false := decide_eq_false c3
    clear c3
    obtain rfl := Option.some.inj H
    go_wp2
    go_ret
    exact ⟨by first | rfl | (simp [errW_none, errW_some] <;> rfl) | (simp [*, errW_none, errW_some] <;> rfl), by repeat (first | (with_reducible first | exact HB.out | apply below_alloc | apply pw_below_drewN | apply below_drew1) | exact HB.out)⟩
def FindOk (p : List Int → Bool) (l : List (List Int)) (R : Int) : Prop := (R = -1 ∧ ∀ j : Nat, j < l.length → p (l.getD j []) = false) ∨ ∃ i : Nat, R = i ∧ i < l.length ∧ p (l.getD i []) = true ∧ ∀ j : Nat, j < i → p (l.getD j []) = false
theorem getD_memR {xs : List (List Int)} {i : Nat} (h : i < xs.length) : xs.getD i [] ∈ xs := by
 rw [List.getD_eq_getElem?_getD, List.getElem?_eq_getElem h]; exact List.getElem_mem h
theorem slices_IndexFunc_find (of_ : List Int → Option Bool) (p : List Int → Bool) (l : List (List Int)) (hof : ∀ x ∈ l, of_ x = some (p x)) (hl : l.length ≤ 9223372036854775807) : ∀ (d i : Nat), l.length = i + d → (∀ j : Nat, j < i → p (l.getD j []) = false) → ∃ R, slices_IndexFunc_int_int.l0 (fun _ x => of_ x) (d + 1) l (l.length : Int) (i : Int) = some R ∧ FindOk p l R
 | 0, i, h, hp => ⟨-1, by rw [slices_IndexFunc_int_int.l0, if_neg (by omega)], .inl ⟨rfl, fun j hj => hp j (by omega)⟩⟩
 | d + 1, i, h, hp => by
  rw [slices_IndexFunc_int_int.l0, if_pos (by omega), if_pos (by omega), if_pos (by omega)]
  have ho := hof _ (getD_memR (xs := l) (i := i) (by omega))
  have e2 : of_ (rd_L5 l (i : Int)) = some (p (l.getD i [])) := ho
  rw [e2, Option.bind_some]
  cases hi : p (l.getD i []) with
  | true => exact ⟨i, if_pos rfl, .inr ⟨i, rfl, by omega, hi, hp⟩⟩
  | false =>
   obtain ⟨R, h1, h2⟩ := slices_IndexFunc_find of_ p l hof hl d (i + 1) (by omega) (fun j hj => by
    by_cases e : j = i
    ·
     rw [e]; exact hi
    ·
     exact hp j (by omega))
   refine ⟨R, ?_, h2⟩
   rw [if_neg (by simp), show wrap64 ((i : Int) + 1) = ((i + 1 : Nat) : Int) by rw [IntWalk.wrap64_in _ (by omega)]; omega]
   exact h1
def slices_DeleteFunc_int_int.f (of_ : Nat → List Int → Option Bool) (k : Nat) (l0 : List (List Int)) : Option (List (List Int)) := keepO (of_ k) l0
theorem slices_DeleteFunc_int_int.mono (of_ : Nat → List Int → Option Bool) (hmono_ : ∀ (x0_ : (List Int)) k, LeO (of_ k x0_) (of_ (k + 1) x0_)) : ∀ l k, LeO (slices_DeleteFunc_int_int.f of_ k l) (slices_DeleteFunc_int_int.f of_ (k + 1) l) := fun l k => keepO_mono (fun x => hmono_ x k) l
def DelInv (e' : Nat) (p : List Int → Bool) (l : List (List Int)) (g cap : Nat) (cur : Array Value) (w0 w w' : World) (i j : Int) : Prop :=
 0 ≤ i ∧ i < j ∧ j ≤ l.length ∧ i = (keptAt p l j.toNat).length ∧ Kept w w' (fun k => k = g) ∧ Below w0.heap.size w0 w' ∧
  ∃ cur' : Array Value, w'.heap[g]? = some (.cells cur' e' (0, 0)) ∧ cur'.size = cap ∧ (∀ m t : Nat, (keptAt p l j.toNat)[m]? = some t → cur'[m]? = cur[t]?) ∧ ∀ t : Nat, j.toNat ≤ t → cur'[t]? = cur[t]?
set_option maxHeartbeats 8000000 in
set_option maxRecDepth 100000 in
theorem slices_DeleteFunc_int_int.calls (g_ : Nat) (lb_ : Array Value) (of_ : Nat → List Int → Option Bool) (eg_ : ∀ args w, (callFunc g_ args).run Try.prog w = .ok (.enter g_ args) w) (k : Nat) (P0_ : Nat → Prop) (u9000_ : Value) (l0 : List (List Int)) (r : List (List Int)) (w0 w : World) (hB : Below w0.heap.size w0 w) (ho0 : Kd.S (Kd.slice 3 (Kd.int .i64)) 24 w w0.heap.size P0_ u9000_ l0)
  (hof_ : ∀ (A : Option Addr) (c : Nat) (x : List Int) (r : Bool) (W : World), Kept w W P0_ → Kd.C (Kd.int .i64) W A x.length x → x.length ≤ c → of_ k x = some r → Calls Try.prog g_ (#[.slice A x.length c] ++ lb_) W fun e w' => e = .returned (.bool r) ∧ Below W.heap.size W w') (h : slices_DeleteFunc_int_int.f of_ k l0 = some r) :
  Calls Try.prog 55 #[u9000_, .func (.func g_) #[] lb_] w fun e w' => ∃ v0_ : Value, e = .returned (v0_) ∧ Kd.S (Kd.slice 3 (Kd.int .i64)) 24 w' w0.heap.size (fun k_ => (P0_ k_ ∨ w.heap.size ≤ k_)) v0_ r ∧ Below w0.heap.size w0 w' ∧ Kept w w' (fun k_ => P0_ k_) := by
 obtain ⟨hp, hr⟩ := keepO_some h
 clear h
 obtain ⟨p, hpd⟩ : ∃ p : List Int → Bool, p = fun x => (of_ k x).getD false := ⟨_, rfl⟩
 have hp2 : ∀ x ∈ l0, of_ k x = some (p x) := fun x hx => by rw [hpd]; exact hp x hx
 have hr2 : r = l0.filter fun x => !p x := by rw [hpd]; exact hr
 clear hp hr hpd
 subst hr2
 obtain ⟨A0, c0, hv⟩ := Kd.S_slice ho0
 subst hv
 obtain ⟨_, hlc, hC⟩ := Kd.R_reads' (Kd.S_R ho0)
 have hlen : l0.length ≤ 9223372036854775807 := hC.2.1
 obtain ⟨R, hR1, hR2⟩ := slices_IndexFunc_find (of_ k) p l0 hp2 hlen l0.length 0 (by omega) (fun j hj => by omega)
 have FR := Aside0.mk (show slices_IndexFunc_int_int.f (fun _ x => of_ k x) (l0.length + 1) l0 ⟨#[]⟩ = some R from hR1)
 have FC := Aside0.mk hC
 have FL := Aside0.mk hlc
 have HB := Aside0.mk hB
 have HO := Aside0.mk ho0
 have HF := Aside0.mk hof_
 have HP := Aside0.mk hp2
 have HR := Aside0.mk hR2
 have HN := Aside0.mk hlen
 clear hR1 hC hlc hB ho0 hof_ hp2 hR2 hlen
 go_enter Try.func55, Try.ntmps55
 (repeat ((fail_if_success (with_reducible refine gate_dst (N := 10) rfl ?_)); first | go_values | go_skip | go_guarded | go_step | go_upon))
 refine goesL_ (some 10) rfl rfl Try.func74 (by kernel_rfl) rfl #[.slice A0 l0.length c0, .func (.func g_) #[] lb_] rfl (by (try simp only [List.map_toArray, List.map_cons, List.map_nil]); first | done | rfl) ?_
 refine (slices_IndexFunc_int_int.calls g_ lb_ (fun _ x => of_ k x) eg_ (l0.length + 1) A0 c0 l0 ⟨#[]⟩ R w ?hof FC.out FL.out ?hf).mono ?_
 case hf => exact FR.out
 case hof =>
  intro k_ A_ c_ x_ r_ W_ hW_ px_ qx_ h_
  exact HF.out A_ c_ x_ r_ W_ (Kept.of_below hW_ _) px_ qx_ h_
 rintro e w1 ⟨rfl, hb⟩
 refine ⟨_, rfl, ?_⟩
 have BI := Aside0.mk hb
 clear hb FR
 rcases HR.out with ⟨hRm, hall⟩ | ⟨i0, hRi, hi0, hpi, hbef⟩
 ·
  subst hRm
  clear HR HF HP
  go_wp2
  go_ret
  refine ⟨_, rfl, ?_, below_step HB.out BI.out, Kept.of_below BI.out _⟩
  have hf : l0.filter (fun x => !p x) = l0 := by
   apply List.filter_eq_self.2
   intro x hx
   obtain ⟨j, hj, rfl⟩ := List.getElem_of_mem hx
   have := hall j hj
   rw [List.getD_eq_getElem?_getD, List.getElem?_eq_getElem hj] at this
   simpa using this
  rw [hf]
  exact Kd.S_mono (Kd.S_below HO.out BI.out) (fun _ hk => .inl hk)
 ·
  subst hRi
  clear HR FC FL
  obtain ⟨ad, rfl⟩ : ∃ ad, A0 = some ad := by
   cases A0 with
   | none =>
    exfalso
    obtain ⟨f, hf⟩ := HO.out
    obtain ⟨_, inner, ho, _⟩ := hf
    rcases ho.2 with ⟨hv, hn⟩ | ⟨_, _, _, hv, _⟩
    ·
     rw [List.length_zipIdx] at hn; omega
    ·
     cases hv
   | some ad => exact ⟨ad, rfl⟩
  obtain ⟨G0, rfl⟩ := Kd.R_head (Kd.S_R HO.out)
  obtain ⟨_, hokG, hbG, hnc, hcm, cur, f, hcur, hcs, hrows⟩ := Kd.S_open HO.out
  have hm1 : 9223372036854775807 = maxLen := by decide
  obtain ⟨iz, hiz⟩ : ∃ iz : Int, iz = (i0 : Int) := ⟨_, rfl⟩
  rw [← hiz]
  have hz1 : (iz == -1) = false := by simp; omega
  obtain ⟨jz, hjz⟩ : ∃ jz : Int, jz = iz + 1 := ⟨_, rfl⟩
  have hz2 : IntKind.i64.wrap (iz + 1) = jz := by rw [hjz]; exact (i64_w _).trans (IntWalk.wrap64_in _ (by have := HN.out; omega))
  have K0 : keptAt p l0 jz.toNat = List.range i0 := by
   rw [show jz.toNat = i0 + 1 by omega, keptAt_succ, hpi, if_pos rfl]
   exact keptAt_none p l0 i0 (by omega) hbef
  have INV := Aside0.mk (show DelInv 24 p l0 G0 c0 cur w0 w w1 iz jz from ⟨by omega, by omega, by omega, by rw [K0, List.length_range]; omega, Kept.of_below BI.out _, below_step HB.out BI.out, cur, (BI.out.block G0 (blk_lt hcur)).trans hcur, hcs, fun m t ht => by
   rw [K0] at ht
   obtain ⟨hm, he⟩ := List.getElem?_eq_some_iff.1 ht
   rw [List.getElem_range] at he
   rw [he], fun _ _ => rfl⟩)
  have HRW := Aside0.mk hrows
  have HG := Aside0.mk (show P0_ G0 ∧ w0.heap.size ≤ G0 ∧ l0.length ≤ c0 ∧ c0 ≤ maxLen ∧ cur.size = c0 from ⟨hokG, hbG, hnc, hcm, hcs⟩)
  have HCU := Aside0.mk hcur
  clear hrows hokG hbG hnc hcm hcs hcur K0 hjz hbef hpi hi0 hiz hm1 HO HB BI
  go_wp2
  go_loopg [5, 6] (l0.length + 1) (fun kq v5 v6 w' => ∃ (i j : Int), v5 = .int .i64 i ∧ v6 = .int .i64 j ∧ Aside0 (kq + j.toNat = l0.length + 1 + jz.toNat) ∧ Aside0 (DelInv 24 p l0 G0 c0 cur w0 w w' i j))
  case atStart => exact ⟨iz, jz, rfl, rfl, ⟨rfl⟩, INV⟩
  case round =>
   clear INV hz1 hz2
   obtain ⟨i, j, rfl, rfl, HK, HI⟩ := hrel
   obtain ⟨hi0, hij, hjl, hik, hkept, hbel, cur2, hc2, hs2, hk2, ht2⟩ := HI.out
   obtain ⟨hokG, hbG, hnc, hcm, hcs⟩ := HG.out
   have hn63 := HN.out
   by_cases hj : j < (l0.length : Int)
   ·
    obtain ⟨jn, hjn⟩ : ∃ jn : Nat, j.toNat = jn := ⟨_, rfl⟩
    have hjl2 : jn < l0.length := by omega
    obtain ⟨x, hx⟩ : ∃ x, l0.getD jn [] = x := ⟨_, rfl⟩
    have hxj : l0[jn]? = some x := by rw [← hx, List.getD_eq_getElem?_getD, List.getElem?_eq_getElem hjl2]; rfl
    obtain ⟨vj, hvj, hRj⟩ := HRW.out jn x hxj
    obtain ⟨Aj, cj, hvs⟩ := Kd.R_slice hRj
    subst hvs
    have hRW := Kd.R_kept hRj hkept (fun k hk => hk.1.2)
    have hcx := Kd.R_reads' hRW
    have e1 : wr.cell? ⟨G0, j.toNat, none⟩ = some (.slice Aj x.length cj) := (blk_cell hc2 _).trans ((ht2 _ (Nat.le_refl _)).trans (by rw [hjn]; exact hvj))
    have p1 : (0 ≤ j) = True := eq_true (by omega)
    have q1 : (j < (l0.length : Int)) = True := eq_true hj
    have q1b : decide (j < (l0.length : Int)) = true := decide_eq_true hj
    obtain ⟨j1, hj1⟩ : ∃ j1 : Int, j1 = j + 1 := ⟨_, rfl⟩
    have z1 : IntKind.i64.wrap (j + 1) = j1 := by rw [hj1]; exact (i64_w _).trans (IntWalk.wrap64_in _ (by omega))
    obtain ⟨i1, hi1⟩ : ∃ i1 : Int, i1 = i + 1 := ⟨_, rfl⟩
    have z2 : IntKind.i64.wrap (i + 1) = i1 := by rw [hi1]; exact (i64_w _).trans (IntWalk.wrap64_in _ (by omega))
    have p2 : (0 ≤ i) = True := eq_true hi0
    have q2 : (i < (l0.length : Int)) = True := eq_true (by omega)
    have HX := Aside0.mk (And.intro hx (And.intro hjn (And.intro hj1 (And.intro hi1 hj))))
    have HXm := Aside0.mk (show of_ k x = some (p x) from HP.out x (List.mem_of_getElem? hxj))
    have HCx := Aside0.mk hcx
    have HVJ := Aside0.mk hvj
    clear hi0 hij hjl hik hkept hbel hc2 hs2 hk2 ht2 hokG hbG hnc hcm hcs hn63 hj hjn hjl2 hx hxj hvj hRj hRW hcx hj1 hi1
    (repeat ((fail_if_success (with_reducible refine gate_dst (N := 28) rfl ?_)); first | go_values | go_skip | go_guarded | go_step | go_upon))
    refine goesV_ (some 28) rfl rfl eg_ lb_ #[.slice Aj x.length cj] rfl rfl (by (try simp only [List.map_toArray, List.map_cons, List.map_nil]); first | done | rfl) ?_
    refine (HF.out Aj cj x (p x) wr ?hk HCx.out.2.2 HCx.out.2.1 HXm.out).mono ?_
    case hk =>
     obtain ⟨hi0, hij, hjl, hik, hkept, hbel, _⟩ := HI.out
     exact hkept.mono (fun k hk => by subst hk; exact HG.out.1)
    rintro e w2 ⟨rfl, hb⟩
    refine ⟨_, rfl, ?_⟩
    have HB2 := Aside0.mk hb
    clear hb e1 HCx HXm
    obtain ⟨hi0, hij, hjl, hik, hkept, hbel, cur2, hc2, hs2, hk2, ht2⟩ := HI.out
    obtain ⟨hokG, hbG, hnc, hcm, hcs⟩ := HG.out
    obtain ⟨hx, hjn, hj1, hi1, hj⟩ := HX.out
    have hc3 : w2.heap[G0]? = some (.cells cur2 24 (0, 0)) := (HB2.out.block G0 (blk_lt hc2)).trans hc2
    have hkept3 : Kept w w2 (fun k => k = G0) := hkept.below HB2.out
    have hbel3 : Below w0.heap.size w0 w2 := below_step hbel HB2.out
    have hjn1 : j1.toNat = jn + 1 := by omega
    cases hpx : p x with
    | true =>
     have INV2 := Aside0.mk (show DelInv 24 p l0 G0 c0 cur w0 w w2 i j1 from by
      have hke : keptAt p l0 j1.toNat = keptAt p l0 j.toNat := by rw [hjn1, hjn, keptAt_succ, hx, hpx, if_pos rfl]
      refine ⟨hi0, by omega, by omega, by rw [hke]; exact hik, hkept3, hbel3, cur2, hc3, hs2, by rw [hke]; exact hk2, fun t ht => ht2 t (by omega)⟩)
     have HM := Aside0.mk (show gk - 1 + j1.toNat = l0.length + 1 + jz.toNat ∧ gk - 1 < gk from by have := HK.out; have := HN.out; omega)
     clear hi0 hij hjl hik hkept hbel hc2 hs2 hk2 ht2 hokG hbG hnc hcm hcs hx hjn hj1 hi1 hj hc3 hkept3 hbel3 hjn1 hpx HI HK HX HVJ
     go_wp2
     go_roundg (gk - 1)
     case measure => exact HM.out.2
     case rel => exact ⟨i, j1, rfl, rfl, ⟨HM.out.1⟩, INV2⟩
    | false =>
     obtain ⟨vi, hvi⟩ : ∃ vi, cur2[i.toNat]? = some vi := ⟨_, Array.getElem?_eq_getElem (by omega)⟩
     have e2 : w2.cell? ⟨G0, i.toNat, none⟩ = some vi := (blk_cell hc3 _).trans hvi
     have f2 : w2.frozen? ⟨G0, i.toNat, none⟩ = false := blk_frozen hc3 _
     have INV2 := Aside0.mk (show DelInv 24 p l0 G0 c0 cur w0 w (w2.setCell ⟨G0, i.toNat, none⟩ (.slice Aj x.length cj)) i1 j1 from by
      have hke : keptAt p l0 j1.toNat = keptAt p l0 j.toNat ++ [jn] := by rw [hjn1, hjn, keptAt_succ, hx, hpx, if_neg (by simp)]
      refine ⟨by omega, by omega, by omega, by rw [hke, List.length_append, List.length_singleton]; omega, hkept3.setCell (.inl rfl) _, hbel3.setCell hbG _, cur2.setIfInBounds i.toNat (.slice Aj x.length cj), blk_put hc3 i.toNat _ rfl, by simpa using hs2, fun m t hmt => ?_, fun t ht => ?_⟩
      ·
       rw [hke] at hmt
       rw [Array.getElem?_setIfInBounds]
       by_cases hmi : i.toNat = m
       ·
        rw [if_pos hmi, if_pos (by omega)]
        have : t = jn := by
         rw [← hmi, hik, Int.toNat_natCast, List.getElem?_append_right (Nat.le_refl _), Nat.sub_self] at hmt
         simpa using hmt.symm
        rw [this]
        exact HVJ.out.symm
       ·
        rw [if_neg hmi]
        refine hk2 m t ?_
        rw [List.getElem?_append_left] at hmt
        ·
         exact hmt
        ·
         have := (List.getElem?_eq_some_iff.1 hmt).1
         rw [List.length_append, List.length_singleton] at this
         omega
      ·
       rw [Array.getElem?_setIfInBounds, if_neg (by omega)]
       exact ht2 t (by omega))
     have HM := Aside0.mk (show gk - 1 + j1.toNat = l0.length + 1 + jz.toNat ∧ gk - 1 < gk from by have := HK.out; have := HN.out; omega)
     clear hi0 hij hjl hik hkept hbel hc2 hs2 hk2 ht2 hokG hbG hnc hcm hcs hx hjn hj1 hi1 hj hc3 hkept3 hbel3 hjn1 hpx HI HK HX HVJ hvi
     go_wp2
     go_roundg (gk - 1)
     case measure => exact HM.out.2
     case rel => exact ⟨i1, j1, rfl, rfl, ⟨HM.out.1⟩, INV2⟩
   ·
    have q1b : decide (j < (l0.length : Int)) = false := decide_eq_false hj
    have hje : j.toNat = l0.length := by omega
    obtain ⟨m, hm⟩ : ∃ m : Nat, i = m := ⟨i.toNat, by omega⟩
    subst hm
    have hml : m < l0.length := by omega
    have hmc : ¬ c0 = m := by omega
    have hmc2 : m ≤ c0 := by omega
    have hmk : m = (keptAt p l0 l0.length).length := by rw [hje] at hik; omega
    have hcl : ∀ ty, (Builtin.clear_ #[26] ty #[.slice (some ⟨G0, m, none⟩) (l0.length - m) (c0 - m)]).run Try.prog wr = .ok (.tuple #[]) (wr.setCells G0 m (List.replicate (l0.length - m) (.slice none 0 0))) :=
     fun ty => Go.Lib.run_clear_slice wr 26 24 ty (.slice none 0 0) Try.underlying26 Try.zeroValue24 rfl rfl G0 m _ _ (by omega) (fun t ht => by rw [blk_cell hc2, Array.getElem?_eq_getElem (by omega)]; rfl) (fun t ht => blk_frozen hc2 _)
    rw [hje] at hk2
    have HZ := Aside0.mk (And.intro hkept (And.intro hbel (And.intro hc2 (And.intro hs2 (And.intro hk2 hmk)))))
    clear HK hi0 hij hjl hik hkept hbel hc2 hs2 hk2 ht2 hokG hbG hnc hcm hcs hn63 hje hmk HI HP HF
    go_wp2
    go_ret
    obtain ⟨hkept, hbel, hc2, hs2, hk2, hmk⟩ := HZ.out
    obtain ⟨hokG, hbG, hnc, hcm, hcs⟩ := HG.out
    have hrl : (List.replicate (l0.length - m) (Value.slice none 0 0)).length = l0.length - m := List.length_replicate
    obtain ⟨cur3, hc3, hs3, h3⟩ : ∃ cur3 : Array Value, (wr.setCells G0 m (List.replicate (l0.length - m) (.slice none 0 0))).heap[G0]? = some (.cells cur3 24 (0, 0)) ∧ cur3.size = c0 ∧ ∀ t : Nat, t < m → cur3[t]? = cur2[t]? := by
     obtain ⟨c3, h1, h2, h3⟩ := setCells_row (List.replicate (l0.length - m) (.slice none 0 0)) m wr cur2 hc2 (by rw [hrl]; omega)
     refine ⟨c3, h1, h2.trans hs2, fun t ht => ?_⟩
     rw [← Array.getElem?_toList, ← Array.getElem?_toList, h3, List.append_assoc, List.getElem?_append_left (by rw [List.length_take, Array.length_toList]; omega), List.getElem?_take, if_pos ht]
    have hkept3 : Kept w (wr.setCells G0 m (List.replicate (l0.length - m) (.slice none 0 0))) (fun k => k = G0) := hkept.then_ (S2 := fun k => k = G0) ⟨by rw [(setCells_same _ _ _ _).2.2.2]; exact Nat.le_refl _, fun i _ hn => setCells_far _ _ i hn⟩ (fun k hk => .inl hk)
    refine ⟨_, rfl, ?_, ?_, hkept3.mono (fun k hk => by subst hk; exact hokG)⟩
    ·
     have hS := Kd.S_pick (z := []) (keptAt_nodup p l0 l0.length) hokG hbG hcm HRW.out hkept3 hc3 hs3 (by omega) (fun m2 t hmt => ⟨keptAt_lt (List.mem_of_getElem? hmt), (h3 m2 (by rw [hmk]; exact (List.getElem?_eq_some_iff.1 hmt).1)).trans (hk2 m2 t hmt)⟩)
     rw [keptAt_all, ← hmk] at hS
     exact Kd.S_mono hS (fun _ hk => .inl hk)
    ·
     obtain ⟨s1, s2, s3, s4⟩ := setCells_same G0 (List.replicate (l0.length - m) (.slice none 0 0)) m wr
     exact ⟨s1.trans hbel.os, s2.trans hbel.tape, s3.trans hbel.output, by rw [s4]; exact hbel.size, fun k hk => (setCells_far _ _ k (by omega)).trans (hbel.block k hk)⟩
def impl_factorial.l0 : Nat → Int → Int → Int → Option (Int)
 | 0, _, _, _ => none
 | k + 1, x0, x3, x4 => if x4 ≤ x0 then (impl_factorial.l0 k x0 (wrap64 (x3 * x4)) (wrap64 (x4 + 1))) else (some x3)
def impl_factorial.f (k : Nat) (a0 : Int) : Option (Int) := impl_factorial.l0 k a0 1 2
theorem impl_factorial.mono_l : ∀ k, (∀ y0 y1 y2, LeO (impl_factorial.l0 k y0 y1 y2) (impl_factorial.l0 (k + 1) y0 y1 y2))
 | 0 => fun _ _ _ r h => by simp [impl_factorial.l0] at h
 | k + 1 => by
  have ih0 := impl_factorial.mono_l k
  ·
   intro y0 y1 y2
   unfold impl_factorial.l0
   repeat' with_reducible first | exact ih0 _ _ _ | exact LeO.refl _ | exact LeO.none _ | refine LeO.ite ?_ ?_ | refine LeO.bind ?_ (fun _ => ?_)
theorem impl_factorial.mono : ∀ a0 k, LeO (impl_factorial.f k a0) (impl_factorial.f (k + 1) a0) := by
 intro a0 k
 have ih0 := impl_factorial.mono_l k
 unfold impl_factorial.f
 repeat' with_reducible first | exact ih0 _ _ _ | exact LeO.refl _ | exact LeO.none _ | refine LeO.ite ?_ ?_ | refine LeO.bind ?_ (fun _ => ?_)
set_option maxHeartbeats 8000000 in
set_option maxRecDepth 100000 in
theorem impl_factorial.calls (k : Nat) (a0 : Int) (r : Int) (w : World) (h : impl_factorial.f k a0 = some r) :
  Calls Try.prog 75 #[.int .i64 a0] w fun e w' => e = .returned (.int .i64 r) ∧ Drawn0 w w' := by
 have H : (impl_factorial.l0 k a0 1 2) = some r := h
 clear h
 have H' := Aside0.mk H
 clear H
 go_enter Try.func75, Try.ntmps75
 go_wp2
 go_loopg [3, 4] k (fun kq v3 v4 w' => ∃ (x3_1 : Int) (x4_1 : Int), v3 = .int .i64 x3_1 ∧ v4 = .int .i64 x4_1 ∧ Aside0 (impl_factorial.l0 kq a0 x3_1 x4_1 = some r) ∧ Aside0 (kq ≤ k) ∧ Drawn0 w w')
 case atStart => exact ⟨(1), (2), (by first | rfl | (simp; done) | (simp [*]; done)), (by first | rfl | (simp; done) | (simp [*]; done)), H', ⟨Nat.le_refl _⟩, by repeat (first | exact Drawn0.refl _ | apply Drawn0.step)⟩
 case round =>
  clear H'
  obtain ⟨x3_1, x4_1, rfl, rfl, HA, HK1, ⟨m1, rfl⟩⟩ := hrel
  cases gk with
  | zero => exact absurd HA.out (by simp [impl_factorial.l0])
  | succ k1 =>
   have H := HA.out
   clear HA
   simp only [impl_factorial.l0] at H
   by_cases c2 : x4_1 ≤ a0
   ·
    rw [if_pos c2] at H
    have c2b0 : decide (x4_1 ≤ a0) = true := decide_eq_true c2
    clear c2
    have H' := Aside0.mk H
    clear H
    go_wp2
    go_roundg k1
    case measure => have := HK1.out; omega
    case rel => exact ⟨(wrap64 (x3_1 * x4_1)), (wrap64 (x4_1 + 1)), (by first | rfl | (simp; done) | (simp [*]; done)), (by first | rfl | (simp; done) | (simp [*]; done)), H', ⟨by have := HK1.out; omega⟩, by repeat (first | exact Drawn0.refl _ | apply Drawn0.step)⟩
   ·
    rw [if_neg c2] at H
    have c2b0 : decide (x4_1 ≤ a0) = false := decide_eq_false c2
    clear c2
    obtain rfl := Option.some.inj H
    go_wp2
    go_ret
    exact ⟨by first | rfl | (simp; done) | (simp [*]; done), by repeat (first | exact Drawn0.refl _ | apply Drawn0.step)⟩
def impl_sorted.l0 : Nat → List Int → Int → Int → Option (List Int)
 | 0, _, _, _ => none
 | k + 1, x3, x6, x7 => if x7 < x6 then (if x3.length < 17592186044416 then (impl_sorted.l0 k (x3 ++ [wrap64 (x7 + 1)]) x6 (wrap64 (x7 + 1))) else (none)) else (some x3)
def impl_sorted.f (k : Nat) (a0 : Int) : Option (List Int) := impl_sorted.l0 k (([] : List Int)) a0 0
theorem impl_sorted.mono_l : ∀ k, (∀ y0 y1 y2, LeO (impl_sorted.l0 k y0 y1 y2) (impl_sorted.l0 (k + 1) y0 y1 y2))
 | 0 => fun _ _ _ r h => by simp [impl_sorted.l0] at h
 | k + 1 => by
  have ih0 := impl_sorted.mono_l k
  ·
   intro y0 y1 y2
   unfold impl_sorted.l0
   repeat' with_reducible first | exact ih0 _ _ _ | exact LeO.refl _ | exact LeO.none _ | refine LeO.ite ?_ ?_ | refine LeO.bind ?_ (fun _ => ?_)
theorem impl_sorted.mono : ∀ a0 k, LeO (impl_sorted.f k a0) (impl_sorted.f (k + 1) a0) := by
 intro a0 k
 have ih0 := impl_sorted.mono_l k
 unfold impl_sorted.f
 repeat' with_reducible first | exact ih0 _ _ _ | exact LeO.refl _ | exact LeO.none _ | refine LeO.ite ?_ ?_ | refine LeO.bind ?_ (fun _ => ?_)
set_option maxHeartbeats 8000000 in
set_option maxRecDepth 100000 in
theorem impl_sorted.calls (k : Nat) (a0 : Int) (r : List Int) (w : World) (h : impl_sorted.f k a0 = some r) :
  Calls Try.prog 39 #[.int .i64 a0] w fun e w' => ∃ v0_ : Value, e = .returned (v0_) ∧ Kd.R (Kd.int .i64) 3 w' w.heap.size (fun _ => True) v0_ r ∧ Below w.heap.size w w' := by
 have HB := Aside0.mk (Below.refl w.heap.size w)
 have H : (impl_sorted.l0 k (([] : List Int)) a0 0) = some r := h
 clear h
 obtain ⟨y131, hy131⟩ : ∃ y_ : List Int, y_ = (([] : List Int)) := ⟨_, rfl⟩
 replace H : (impl_sorted.l0 k y131 a0 0) = some r := by first | (rw [hy131]; with_reducible exact H) | (have H2_ := (Option.bind_some _ _).symm.trans H; rw [hy131]; with_reducible exact H2_) | (have H2_ := (Option.bind_some _ _).symm.trans H; with_reducible exact H2_) | with_reducible exact H | (rw [hy131]; exact H) | exact H
 have Ny131 := Aside0.mk hy131
 clear hy131
 have H' := Aside0.mk H
 clear H
 go_enter Try.func39, Try.ntmps39
 go_wp2_with (first | ((with_reducible refine gate_dst (N := 5) rfl ?_); refine Kd.R_lit (Kd.int .i64) _ 3 ?hg (N := 5) ?hd (xs := ([] : List Int)) (inner := []) (ok := fun _ => True) (okp := fun _ => True) ?hr ?hp (fun _ hk => hk) trivial (Below.refl _ _) (Nat.le_refl _) (by simp) ?_; (case hd => rfl); (case hg => rfl); (case hr => first | (go_simp; done) | (go_simp; rfl)); (case hp => exact (Reps.none _ _)); intro v132 w2 ho3 hb hg_ hnew_; clear hg_ hnew_; (first | rw [← Ny131.out] at ho3 | (simp only [Int.reduceToNat] at ho3; rw [← Ny131.out] at ho3)); have n0_ := Aside0.mk (Kd.R_lower ho3 (below_size (by repeat (first | (with_reducible first | exact HB.out | apply below_alloc | apply pw_below_drewN | apply below_drew1) | exact HB.out)))); have n1_ := Aside0.mk (below_step (by repeat (first | (with_reducible first | exact HB.out | apply below_alloc | apply pw_below_drewN | apply below_drew1) | exact HB.out)) hb); clear HB; have HO133 := n0_; have HB := n1_; clear n0_ n1_; clear hb ho3))
 go_loopg [3, 7] k (fun kq v3 v7 w' => ∃ (x3_1 : List Int) (x7_1 : Int), v7 = .int .i64 x7_1 ∧ Aside0 (impl_sorted.l0 kq x3_1 a0 x7_1 = some r) ∧ Aside0 (kq ≤ k) ∧ Aside0 (Kd.R (Kd.int .i64) 3 w' w.heap.size (fun _ => True) v3 x3_1) ∧ Aside0 (Below w.heap.size w w'))
 case atStart => exact ⟨(y131), (0), (by first | rfl | (simp; done) | (simp [*]; done)), H', ⟨Nat.le_refl _⟩, ⟨by (with_reducible repeat (first | apply Kd.R_alloc | apply Kd.R_drewN | apply Kd.R_drew)); exact HO133.out⟩, ⟨by repeat (first | (with_reducible first | exact HB.out | apply below_alloc | apply pw_below_drewN | apply below_drew1) | exact HB.out)⟩⟩
 case round =>
  clear H'
  (try clear p2); (try clear c3)
  obtain ⟨x3_1, x7_1, rfl, HA, HK1, HO_3, HB⟩ := hrel
  cases gk with
  | zero => exact absurd HA.out (by simp [impl_sorted.l0])
  | succ k1 =>
   have H := HA.out
   clear HA
   simp only [impl_sorted.l0] at H
   by_cases c4 : x7_1 < a0
   ·
    rw [if_pos c4] at H
    have c4b0 : decide (x7_1 < a0) = true := decide_eq_true c4
    clear c4
    by_cases c5 : x3_1.length < 17592186044416
    ·
     rw [if_pos c5] at H
     have LMc5 := Aside0.mk c5
     clear c5
     obtain ⟨y134, hy134⟩ : ∃ y_ : List Int, y_ = (x3_1 ++ [wrap64 (x7_1 + 1)]) := ⟨_, rfl⟩
     replace H : (impl_sorted.l0 k1 y134 a0 (wrap64 (x7_1 + 1))) = some r := by first | (rw [hy134]; with_reducible exact H) | (have H2_ := (Option.bind_some _ _).symm.trans H; rw [hy134]; with_reducible exact H2_) | (have H2_ := (Option.bind_some _ _).symm.trans H; with_reducible exact H2_) | with_reducible exact H | (rw [hy134]; exact H) | exact H
     have Ny134 := Aside0.mk hy134
     clear hy134
     have H' := Aside0.mk H
     clear H
     go_wp2_with (first | ((with_reducible refine gate_builtin (b := .append) (xs := #[.tmp 10, .tmp 13]) rfl ?_); at_builtin; refine Kd.R_append (Kd.int .i64) (w0 := w) w.heap.size rfl (.tmp 10) (.tmp 13) 24 3 (.int .i64 0) 8 rfl Try.underlying24 info3 rfl (by decide) (by omega) u3 x3_1 (wrap64 (x7_1 + 1)) [.int .i64 (wrap64 (x7_1 + 1))] (fun _ => True) (fun _ => False) rfl rfl ?aP (fun _ hk => hk.elim) ?aF ?aO ?aB ?aS ?aL ?_; (case aP => exact rfl); (case aB => exact (by repeat (first | (with_reducible first | exact HB.out | apply below_alloc | apply pw_below_drewN | apply below_drew1) | exact HB.out))); (case aF => exact (fun _ _ => trivial)); (case aO => exact (by (with_reducible repeat (first | apply Kd.R_alloc | apply Kd.R_drewN | apply Kd.R_drew)); exact HO_3.out)); (case aS => exact (below_size (by repeat (first | (with_reducible first | exact HB.out | apply below_alloc | apply pw_below_drewN | apply below_drew1) | exact HB.out)))); (case aL => have := LMc5.out; omega); intro v135 w6 ho hb hg hat; rw [← Ny134.out] at ho; have n0_ := Aside0.mk (hb); have n1_ := Aside0.mk (ho); clear HB; clear HO_3; have HB := n0_; have HO136 := n1_; clear n0_ n1_; clear ho hb hg hat))
     go_roundg k1
     case measure => have := HK1.out; omega
     case rel => exact ⟨(y134), (wrap64 (x7_1 + 1)), (by first | rfl | (simp; done) | (simp [*]; done)), H', ⟨by have := HK1.out; omega⟩, ⟨by (with_reducible repeat (first | apply Kd.R_alloc | apply Kd.R_drewN | apply Kd.R_drew)); exact HO136.out⟩, ⟨by repeat (first | (with_reducible first | exact HB.out | apply below_alloc | apply pw_below_drewN | apply below_drew1) | exact HB.out)⟩⟩
    ·
     rw [if_neg c5] at H
     exact absurd H (by simp)
   ·
    rw [if_neg c4] at H
    have c4b0 : decide (x7_1 < a0) = false := decide_eq_false c4
    clear c4
    obtain rfl := Option.some.inj H
    go_wp2
    go_ret
    exact ⟨_, by first | rfl | (simp [errW_none, errW_some] <;> rfl) | (simp [*, errW_none, errW_some] <;> rfl), by (with_reducible repeat (first | apply Kd.R_alloc | apply Kd.R_drewN | apply Kd.R_drew)); exact HO_3.out, by repeat (first | (with_reducible first | exact HB.out | apply below_alloc | apply pw_below_drewN | apply below_drew1) | exact HB.out)⟩
def slices_Delete_int_int.f (l0 : List Int) (a1 a2 : Int) : Option (List Int) := if 0 ≤ a1 ∧ a1 < a2 ∧ a2 ≤ (l0.length : Int) then some (l0.take a1.toNat ++ l0.drop a2.toNat) else none
def slices_Delete_int_int.ren : Go.Shelf.Ren := { f := fun x => if x = 23 then 86 else x, t := fun x => if x = 3 then 3 else if x = 4 then 4 else if x = 22 then 24 else x, g := fun x => x }
theorem slices_Delete_int_int.lays : Go.Proofs.Lays2.n23 Try.prog slices_Delete_int_int.ren := { mixed := by kernel_rfl, f23 := Try.func86.trans (congrArg some (by kernel_rfl)), t0 := Try.underlying0, a0 := Try.isAgg0, z0 := Try.sizeOf0, v0 := Try.zeroValue0, t3 := Try.underlying3, a3 := Try.isAgg3, z3 := Try.sizeOf3, v3 := Try.zeroValue3, t4 := Try.underlying4, a4 := Try.isAgg4, z4 := Try.sizeOf4, v4 := Try.zeroValue4, t22 := Try.underlying24, a22 := Try.isAgg24, z22 := Try.sizeOf24, v22 := Try.zeroValue24, i3 := by kernel_rfl }
theorem slices_Delete_int_int.calls (P0_ : Nat → Prop) (u9000_ : Value) (l0 : List Int) (a1 : Int) (a2 : Int) (r : List Int) (w0 w : World) (hB : Below w0.heap.size w0 w) (ho0 : Kd.R (Kd.int .i64) 3 w w0.heap.size P0_ u9000_ l0) (h : slices_Delete_int_int.f l0 a1 a2 = some r) :
  Calls Try.prog 86 #[u9000_, .int .i64 a1, .int .i64 a2] w fun e w' => ∃ v0_ : Value, e = .returned (v0_) ∧ Kd.R (Kd.int .i64) 3 w' w0.heap.size (fun k_ => (P0_ k_ ∨ w.heap.size ≤ k_)) v0_ r ∧ Below w0.heap.size w0 w' ∧ Kept w w' (fun k_ => P0_ k_) := by
 unfold slices_Delete_int_int.f at h
 by_cases hc : 0 ≤ a1 ∧ a1 < a2 ∧ a2 ≤ (l0.length : Int)
 case neg => rw [if_neg hc] at h; cases h
 rw [if_pos hc] at h
 obtain rfl := Option.some.inj h
 clear h
 obtain ⟨c1, c2, c3⟩ := hc
 obtain ⟨i, rfl⟩ : ∃ i : Nat, a1 = i := ⟨a1.toNat, by omega⟩
 obtain ⟨j, rfl⟩ : ∃ j : Nat, a2 = j := ⟨a2.toNat, by omega⟩
 simp only [Int.toNat_natCast]
 have own := Kd.own_of_R (enc := Value.int .i64) (h1 := fun _ => rfl) ho0
 rw [show encs (Value.int .i64) l0 = l0.map (Value.int .i64) by simp [encs]] at own
 have hne : u9000_ ≠ .slice none 0 0 := by
  intro e
  rcases own.2 with ⟨_, e2⟩ | ⟨g, cap, cur, e2, _⟩
  ·
   omega
  ·
   rw [e] at e2; cases e2
 obtain ⟨g, cap, rfl, hb, hlt, hn, hm, hl, hH⟩ := Lib.holds_of_ownsRow own hne
 have L := slices_Delete_int_int.lays
 have hm' : cap ≤ 9223372036854775807 := by unfold maxLen at hm; omega
 refine (Any.slices_Delete_int L g 0 cap i j l0 w hH hn hm' (by omega) (by omega)).mono ?_
 rintro e w' ⟨rfl, q, rfl⟩
 have hP : P0_ g := ho0.1 g rfl
 have hy : (l0.take i ++ l0.drop j ++ List.replicate (j - i) (0 : Int)).length = l0.length := by simp; omega
 have hk : l0.length - (j - i) ≤ l0.length := by omega
 have own2 := Lib.ownsRow_putRow (q := q) (k := l0.length - (j - i)) own hy hk
 have ht : (l0.take i ++ l0.drop j ++ List.replicate (j - i) (0 : Int)).take (l0.length - (j - i)) = l0.take i ++ l0.drop j := by
  rw [List.take_append_of_le_length (by simp; omega)]
  exact List.take_of_length_le (by simp; omega)
 rw [ht] at own2
 have hlen : l0.length - (j - i) = (l0.take i ++ l0.drop j).length := by simp; omega
 refine ⟨_, rfl, ?_, Lib.below_putRow hB hb, ?_⟩
 ·
  refine Kd.R_of_own (enc := Value.int .i64) (h1 := fun _ => rfl) ?_ ?_
  ·
   rw [show encs (Value.int .i64) (l0.take i ++ l0.drop j) = (l0.take i ++ l0.drop j).map (Value.int .i64) by simp [encs], ← hlen]
   exact own2
  ·
   intro k hk
   simp [Value.ownBlock] at hk
   subst hk
   exact .inl hP
 ·
  refine ⟨by simp [Sort.putRow, Sort.mapBlock, Sort.ahead], fun k hk hne => ?_⟩
  simp only [Sort.putRow, Sort.mapBlock, Sort.ahead, Array.getElem?_modify]
  rw [if_neg (by intro e; subst e; exact hne hP)]
end Go.Proofs.Ytfjbgmemjjjjoaa.PFnEndsCounts
