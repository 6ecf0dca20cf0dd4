-- laid by mkprint.py, a program of this claim's writer, over the kit's print program; parts of it are typed by hand
import Derived.Test.YtbnieikbjmfhgaaPFnFallsx0
import Derived.Test.YtbnieikbjmfhgaaPFnFallsx3
import Derived.Test.YtbnieikbjmfhgaaPFnFallsx5
import Derived.Test.YtbnieikbjmfhgaaPFnFallsx9
import Derived.Test.YtbnieikbjmfhgaaPFnFallsx18
namespace Go.Proofs.Ytbnieikbjmfhgaa.PFnFalls
open Go.RowKit Go.Proofs.YtbnieikbjmfhgaaW.PrintWords Go.Proofs.YtbnieikbjmfhgaaW.PrintLast Go.Proofs.YtbnieikbjmfhgaaW.PrintMore
attribute [local go_sem] max2_int min2_int max_two min_two max_three min_three max_four min_four
set_option linter.unusedVariables false
set_option linter.unusedSimpArgs false
def slices_IndexFunc_int_int.l0 (of_ : Nat → (List Int) → Option Bool) : Nat → List (List Int) → Int → Int → Option (Int)
 | 0, _, _, _ => none
 | k + 1, x0, x7, x8 => if x8 < x7 then (if 0 ≤ x8 then (if x8 < (x0.length : Int) then ((of_ k (rd_L5 x0 x8)).bind fun t505 => (if t505 = true then (some x8) else (slices_IndexFunc_int_int.l0 of_ k x0 x7 (wrap64 (x8 + 1))))) else (none)) else (none)) else (some (-1))
def slices_IndexFunc_int_int.f (of_ : Nat → (List Int) → Option Bool) (k : Nat) (l0 : List (List Int)) (a1 : ByteArray) : Option (Int) := slices_IndexFunc_int_int.l0 of_ k l0 (l0.length : Int) 0
theorem slices_IndexFunc_int_int.mono_l (of_ : Nat → (List Int) → Option Bool) (hmono_ : ∀ (x0_ : (List Int)) k, LeO (of_ k x0_) (of_ (k + 1) x0_)) : ∀ k, (∀ y0 y1 y2, LeO (slices_IndexFunc_int_int.l0 of_ k y0 y1 y2) (slices_IndexFunc_int_int.l0 of_ (k + 1) y0 y1 y2))
 | 0 => fun _ _ _ r h => by simp [slices_IndexFunc_int_int.l0] at h
 | k + 1 => by
  have ih0 := slices_IndexFunc_int_int.mono_l of_ hmono_ k
  ·
   intro y0 y1 y2
   unfold slices_IndexFunc_int_int.l0
   repeat' with_reducible first | exact ih0 _ _ _ | exact hmono_ _ _ | exact LeO.refl _ | exact LeO.none _ | refine LeO.ite ?_ ?_ | refine LeO.bind ?_ (fun _ => ?_)
theorem slices_IndexFunc_int_int.mono (of_ : Nat → (List Int) → Option Bool) (hmono_ : ∀ (x0_ : (List Int)) k, LeO (of_ k x0_) (of_ (k + 1) x0_)) : ∀ a0 a1 k, LeO (slices_IndexFunc_int_int.f of_ k a0 a1) (slices_IndexFunc_int_int.f of_ (k + 1) a0 a1) := by
 intro a0 a1 k
 have ih0 := slices_IndexFunc_int_int.mono_l of_ hmono_ k
 unfold slices_IndexFunc_int_int.f
 repeat' with_reducible first | exact ih0 _ _ _ | exact hmono_ _ _ | exact LeO.refl _ | exact LeO.none _ | refine LeO.ite ?_ ?_ | refine LeO.bind ?_ (fun _ => ?_)
set_option maxHeartbeats 8000000 in
set_option maxRecDepth 100000 in
theorem slices_IndexFunc_int_int.calls (g_ : Nat) (lb_ : Array Value) (of_ : Nat → (List Int) → Option Bool) (eg_ : ∀ args w, (callFunc g_ args).run Try.prog w = .ok (.enter g_ args) w) (k : Nat) (A0 : Option Addr) (c0 : Nat) (l0 : List (List Int)) (a1 : ByteArray) (r : Int) (w : World) (hof_ : ∀ (k : Nat) (Ax0_ : Option Addr) (cx0_ : Nat) (x0_ : (List Int)) (r : Bool) (W : World), Below w.heap.size w W → (Kd.C (Kd.int .i64) W Ax0_ x0_.length x0_) → (x0_.length ≤ cx0_) → of_ k x0_ = some r → Calls Try.prog g_ (#[.slice Ax0_ x0_.length cx0_] ++ lb_) W fun e w' => e = .returned (.bool r) ∧ Below W.heap.size W w') (hr0 : Kd.C (Kd.slice 3 (Kd.int .i64)) w A0 l0.length l0) (hc0 : l0.length ≤ c0) (h : slices_IndexFunc_int_int.f of_ k l0 a1 = some r) :
  Calls Try.prog 71 #[.slice A0 l0.length c0, .func (.func g_) #[] lb_] w fun e w' => e = .returned (.int .i64 r) ∧ Below w.heap.size w w' := by
 have HR0 := Aside0.mk hr0
 have HC0 := Aside0.mk hc0
 clear hr0 hc0
 have HB := Aside0.mk (Below.refl w.heap.size w)
 have H : (slices_IndexFunc_int_int.l0 of_ k l0 (l0.length : Int) 0) = some r := h
 clear h
 have H' := Aside0.mk H
 clear H
 go_enter Try.func71, Try.ntmps71
 go_wp2
 go_loopg [8] k (fun kq v8 w' => ∃ (x8_1 : Int), v8 = .int .i64 x8_1 ∧ Aside0 (slices_IndexFunc_int_int.l0 of_ kq l0 (l0.length : Int) x8_1 = some r) ∧ Aside0 (kq ≤ k) ∧ Aside0 (Below w.heap.size w w'))
 case atStart => exact ⟨(0), (by first | rfl | (simp; done) | (simp [*]; done)), H', ⟨Nat.le_refl _⟩, ⟨by repeat (first | (with_reducible first | exact HB.out | apply below_alloc | apply pw_below_drewN | apply below_drew1) | exact HB.out)⟩⟩
 case round =>
  clear H'
  try clear p2
  obtain ⟨x8_1, rfl, HA, HK1, HB⟩ := hrel
  cases gk with
  | zero => exact absurd HA.out (by simp [slices_IndexFunc_int_int.l0])
  | succ k1 =>
   have H := HA.out
   clear HA
   simp only [slices_IndexFunc_int_int.l0] at H
   by_cases c3 : x8_1 < (l0.length : Int)
   ·
    rw [if_pos c3] at H
    have c3b0 : decide (x8_1 < (l0.length : Int)) = true := decide_eq_true c3
    clear c3
    by_cases c4 : 0 ≤ x8_1
    ·
     rw [if_pos c4] at H
     have c4b0 : decide (0 ≤ x8_1) = true := decide_eq_true c4
     clear c4
     by_cases c5 : x8_1 < (l0.length : Int)
     ·
      rw [if_pos c5] at H
      have c5b0 : decide (x8_1 < (l0.length : Int)) = true := decide_eq_true c5
      clear c5
      replace H := Option.bind_eq_some_iff.mp H
      obtain ⟨t505, A60, H⟩ := H
      (try dsimp only at H)
      have A6 := Aside0.mk A60
      clear A60
      by_cases c7 : t505 = true
      ·
       subst c7
       rw [if_pos rfl] at H
       obtain rfl := Option.some.inj H
       have p504 : 0 ≤ (x8_1 : Int) := of_decide_eq_true (by first | (with_reducible assumption) | assumption)
       have q504 : x8_1 < (l0.length : Int) := of_decide_eq_true (by first | (with_reducible assumption) | assumption)
       obtain ⟨ad504, A504_0, c504_0, e504, hx504_0, hl504_0, hi504_0⟩ := at_L5 HR0.out x8_1 p504 q504
       cases e504
       replace hx504_0 := (HB.out.cell (World.block_lt_of_cell? w _ hx504_0)).trans hx504_0
       have HR504_0 := Aside0.mk hi504_0
       have HC504_0 := Aside0.mk hl504_0
       clear hi504_0 hl504_0
       replace p504 := eq_true p504
       replace q504 := eq_true q504
       go_wp2_with (first | ((with_reducible refine gate_value rfl ?_); refine goesV_ (some 16) rfl rfl eg_ lb_ #[.slice A504_0 (rd_L5 l0 x8_1).length c504_0] rfl rfl (by (try simp only [List.map_toArray, List.map_cons, List.map_nil]); first | done | rfl | (simp only [List.length_drop, List.length_take]; rfl)) ?_; (refine (hof_ k1 _ _ (rd_L5 l0 x8_1) true _ (by repeat (first | (with_reducible first | exact HB.out | apply below_alloc | apply pw_below_drewN | apply below_drew1) | exact HB.out)) ?side1 ?side2 A6.out).mono ?_); (case side1 => repeat (first | exact (Kd.C_below HR504_0.out HB.out) | (with_reducible refine Kd.C_alloc ?_ _) | (with_reducible refine Kd.C_drewN ?_ _) | (with_reducible refine Kd.C_drew ?_))); (case side2 => exact HC504_0.out); rintro e w8 ⟨rfl, hb⟩; refine ⟨_, rfl, ?_⟩; have n0_ := Aside0.mk (below_step (by repeat (first | (with_reducible first | exact HB.out | apply below_alloc | apply pw_below_drewN | apply below_drew1) | exact HB.out)) hb); clear HB; have HB := n0_; clear n0_; (try clear hb); (try clear hb2); (try clear hk); (try clear hi)))
       go_ret
       exact ⟨by first | rfl | (simp [errW_none, errW_some] <;> rfl) | (simp [*, errW_none, errW_some] <;> rfl), by repeat (first | (with_reducible first | exact HB.out | apply below_alloc | apply pw_below_drewN | apply below_drew1) | exact HB.out)⟩
      ·
       replace c7 := Bool.eq_false_iff.mpr c7
       subst c7
       rw [if_neg (show ¬ (false = true) by decide)] at H
       have H' := Aside0.mk H
       clear H
       have p504 : 0 ≤ (x8_1 : Int) := of_decide_eq_true (by first | (with_reducible assumption) | assumption)
       have q504 : x8_1 < (l0.length : Int) := of_decide_eq_true (by first | (with_reducible assumption) | assumption)
       obtain ⟨ad504, A504_0, c504_0, e504, hx504_0, hl504_0, hi504_0⟩ := at_L5 HR0.out x8_1 p504 q504
       cases e504
       replace hx504_0 := (HB.out.cell (World.block_lt_of_cell? w _ hx504_0)).trans hx504_0
       have HR504_0 := Aside0.mk hi504_0
       have HC504_0 := Aside0.mk hl504_0
       clear hi504_0 hl504_0
       replace p504 := eq_true p504
       replace q504 := eq_true q504
       go_wp2_with (first | ((with_reducible refine gate_value rfl ?_); refine goesV_ (some 16) rfl rfl eg_ lb_ #[.slice A504_0 (rd_L5 l0 x8_1).length c504_0] rfl rfl (by (try simp only [List.map_toArray, List.map_cons, List.map_nil]); first | done | rfl | (simp only [List.length_drop, List.length_take]; rfl)) ?_; (refine (hof_ k1 _ _ (rd_L5 l0 x8_1) false _ (by repeat (first | (with_reducible first | exact HB.out | apply below_alloc | apply pw_below_drewN | apply below_drew1) | exact HB.out)) ?side1 ?side2 A6.out).mono ?_); (case side1 => repeat (first | exact (Kd.C_below HR504_0.out HB.out) | (with_reducible refine Kd.C_alloc ?_ _) | (with_reducible refine Kd.C_drewN ?_ _) | (with_reducible refine Kd.C_drew ?_))); (case side2 => exact HC504_0.out); rintro e w9 ⟨rfl, hb⟩; refine ⟨_, rfl, ?_⟩; have n0_ := Aside0.mk (below_step (by repeat (first | (with_reducible first | exact HB.out | apply below_alloc | apply pw_below_drewN | apply below_drew1) | exact HB.out)) hb); clear HB; have HB := n0_; clear n0_; (try clear hb); (try clear hb2); (try clear hk); (try clear hi)))
       go_roundg k1
       case measure => have := HK1.out; omega
       case rel => exact ⟨(wrap64 (x8_1 + 1)), (by first | rfl | (simp; done) | (simp [*]; done)), H', ⟨by have := HK1.out; omega⟩, ⟨by repeat (first | (with_reducible first | exact HB.out | apply below_alloc | apply pw_below_drewN | apply below_drew1) | exact HB.out)⟩⟩
     ·
      rw [if_neg c5] at H
      exact absurd H (by simp)
    ·
     rw [if_neg c4] at H
     exact absurd H (by simp)
   ·
    rw [if_neg c3] at H
    have c3b0 : decide (x8_1 < (l0.length : Int)) = false := decide_eq_false c3
    clear c3
    obtain rfl := Option.some.inj H
    go_wp2
    go_ret
    exact ⟨by first | rfl | (simp [errW_none, errW_some] <;> rfl) | (simp [*, errW_none, errW_some] <;> rfl), by repeat (first | (with_reducible first | exact HB.out | apply below_alloc | apply pw_below_drewN | apply below_drew1) | exact HB.out)⟩
def FindOk (p : List Int → Bool) (l : List (List Int)) (R : Int) : Prop := (R = -1 ∧ ∀ j : Nat, j < l.length → p (l.getD j []) = false) ∨ ∃ i : Nat, R = i ∧ i < l.length ∧ p (l.getD i []) = true ∧ ∀ j : Nat, j < i → p (l.getD j []) = false
theorem getD_memR {xs : List (List Int)} {i : Nat} (h : i < xs.length) : xs.getD i [] ∈ xs := by
 rw [List.getD_eq_getElem?_getD, List.getElem?_eq_getElem h]; exact List.getElem_mem h
theorem slices_IndexFunc_find (of_ : List Int → Option Bool) (p : List Int → Bool) (l : List (List Int)) (hof : ∀ x ∈ l, of_ x = some (p x)) (hl : l.length ≤ 9223372036854775807) : ∀ (d i : Nat), l.length = i + d → (∀ j : Nat, j < i → p (l.getD j []) = false) → ∃ R, slices_IndexFunc_int_int.l0 (fun _ x => of_ x) (d + 1) l (l.length : Int) (i : Int) = some R ∧ FindOk p l R
 | 0, i, h, hp => ⟨-1, by rw [slices_IndexFunc_int_int.l0, if_neg (by omega)], .inl ⟨rfl, fun j hj => hp j (by omega)⟩⟩
 | d + 1, i, h, hp => by
  rw [slices_IndexFunc_int_int.l0, if_pos (by omega), if_pos (by omega), if_pos (by omega)]
  have ho := hof _ (getD_memR (xs := l) (i := i) (by omega))
  have e2 : of_ (rd_L5 l (i : Int)) = some (p (l.getD i [])) := ho
  rw [e2, Option.bind_some]
  cases hi : p (l.getD i []) with
  | true => exact ⟨i, if_pos rfl, .inr ⟨i, rfl, by omega, hi, hp⟩⟩
  | false =>
   obtain ⟨R, h1, h2⟩ := slices_IndexFunc_find of_ p l hof hl d (i + 1) (by omega) (fun j hj => by
    by_cases e : j = i
    ·
     rw [e]; exact hi
    ·
     exact hp j (by omega))
   refine ⟨R, ?_, h2⟩
   rw [if_neg (by simp), show wrap64 ((i : Int) + 1) = ((i + 1 : Nat) : Int) by rw [IntWalk.wrap64_in _ (by omega)]; omega]
   exact h1
def slices_DeleteFunc_int_int.f (of_ : Nat → List Int → Option Bool) (k : Nat) (l0 : List (List Int)) : Option (List (List Int)) := keepO (of_ k) l0
theorem slices_DeleteFunc_int_int.mono (of_ : Nat → List Int → Option Bool) (hmono_ : ∀ (x0_ : (List Int)) k, LeO (of_ k x0_) (of_ (k + 1) x0_)) : ∀ l k, LeO (slices_DeleteFunc_int_int.f of_ k l) (slices_DeleteFunc_int_int.f of_ (k + 1) l) := fun l k => keepO_mono (fun x => hmono_ x k) l
def DelInv (e' : Nat) (p : List Int → Bool) (l : List (List Int)) (g cap : Nat) (cur : Array Value) (w0 w w' : World) (i j : Int) : Prop :=
 0 ≤ i ∧ i < j ∧ j ≤ l.length ∧ i = (keptAt p l j.toNat).length ∧ Kept w w' (fun k => k = g) ∧ Below w0.heap.size w0 w' ∧
  ∃ cur' : Array Value, w'.heap[g]? = some (.cells cur' e' (0, 0)) ∧ cur'.size = cap ∧ (∀ m t : Nat, (keptAt p l j.toNat)[m]? = some t → cur'[m]? = cur[t]?) ∧ ∀ t : Nat, j.toNat ≤ t → cur'[t]? = cur[t]?
set_option maxHeartbeats 8000000 in
set_option maxRecDepth 100000 in
theorem slices_DeleteFunc_int_int.calls (g_ : Nat) (lb_ : Array Value) (of_ : Nat → List Int → Option Bool) (eg_ : ∀ args w, (callFunc g_ args).run Try.prog w = .ok (.enter g_ args) w) (k : Nat) (P0_ : Nat → Prop) (u9000_ : Value) (l0 : List (List Int)) (r : List (List Int)) (w0 w : World) (hB : Below w0.heap.size w0 w) (ho0 : Kd.S (Kd.slice 3 (Kd.int .i64)) 24 w w0.heap.size P0_ u9000_ l0)
  (hof_ : ∀ (A : Option Addr) (c : Nat) (x : List Int) (r : Bool) (W : World), Kept w W P0_ → Kd.C (Kd.int .i64) W A x.length x → x.length ≤ c → of_ k x = some r → Calls Try.prog g_ (#[.slice A x.length c] ++ lb_) W fun e w' => e = .returned (.bool r) ∧ Below W.heap.size W w') (h : slices_DeleteFunc_int_int.f of_ k l0 = some r) :
  Calls Try.prog 92 #[u9000_, .func (.func g_) #[] lb_] w fun e w' => ∃ v0_ : Value, e = .returned (v0_) ∧ Kd.S (Kd.slice 3 (Kd.int .i64)) 24 w' w0.heap.size (fun k_ => (P0_ k_ ∨ w.heap.size ≤ k_)) v0_ r ∧ Below w0.heap.size w0 w' ∧ Kept w w' (fun k_ => P0_ k_) := by
 obtain ⟨hp, hr⟩ := keepO_some h
 clear h
 obtain ⟨p, hpd⟩ : ∃ p : List Int → Bool, p = fun x => (of_ k x).getD false := ⟨_, rfl⟩
 have hp2 : ∀ x ∈ l0, of_ k x = some (p x) := fun x hx => by rw [hpd]; exact hp x hx
 have hr2 : r = l0.filter fun x => !p x := by rw [hpd]; exact hr
 clear hp hr hpd
 subst hr2
 obtain ⟨A0, c0, hv⟩ := Kd.S_slice ho0
 subst hv
 obtain ⟨_, hlc, hC⟩ := Kd.R_reads' (Kd.S_R ho0)
 have hlen : l0.length ≤ 9223372036854775807 := hC.2.1
 obtain ⟨R, hR1, hR2⟩ := slices_IndexFunc_find (of_ k) p l0 hp2 hlen l0.length 0 (by omega) (fun j hj => by omega)
 have FR := Aside0.mk (show slices_IndexFunc_int_int.f (fun _ x => of_ k x) (l0.length + 1) l0 ⟨#[]⟩ = some R from hR1)
 have FC := Aside0.mk hC
 have FL := Aside0.mk hlc
 have HB := Aside0.mk hB
 have HO := Aside0.mk ho0
 have HF := Aside0.mk hof_
 have HP := Aside0.mk hp2
 have HR := Aside0.mk hR2
 have HN := Aside0.mk hlen
 clear hR1 hC hlc hB ho0 hof_ hp2 hR2 hlen
 go_enter Try.func92, Try.ntmps92
 (repeat ((fail_if_success (with_reducible refine gate_dst (N := 10) rfl ?_)); first | go_values | go_skip | go_guarded | go_step | go_upon))
 refine goesL_ (some 10) rfl rfl Try.func71 (by kernel_rfl) rfl #[.slice A0 l0.length c0, .func (.func g_) #[] lb_] rfl (by (try simp only [List.map_toArray, List.map_cons, List.map_nil]); first | done | rfl) ?_
 refine (slices_IndexFunc_int_int.calls g_ lb_ (fun _ x => of_ k x) eg_ (l0.length + 1) A0 c0 l0 ⟨#[]⟩ R w ?hof FC.out FL.out ?hf).mono ?_
 case hf => exact FR.out
 case hof =>
  intro k_ A_ c_ x_ r_ W_ hW_ px_ qx_ h_
  exact HF.out A_ c_ x_ r_ W_ (Kept.of_below hW_ _) px_ qx_ h_
 rintro e w1 ⟨rfl, hb⟩
 refine ⟨_, rfl, ?_⟩
 have BI := Aside0.mk hb
 clear hb FR
 rcases HR.out with ⟨hRm, hall⟩ | ⟨i0, hRi, hi0, hpi, hbef⟩
 ·
  subst hRm
  clear HR HF HP
  go_wp2
  go_ret
  refine ⟨_, rfl, ?_, below_step HB.out BI.out, Kept.of_below BI.out _⟩
  have hf : l0.filter (fun x => !p x) = l0 := by
   apply List.filter_eq_self.2
   intro x hx
   obtain ⟨j, hj, rfl⟩ := List.getElem_of_mem hx
   have := hall j hj
   rw [List.getD_eq_getElem?_getD, List.getElem?_eq_getElem hj] at this
   simpa using this
  rw [hf]
  exact Kd.S_mono (Kd.S_below HO.out BI.out) (fun _ hk => .inl hk)
 ·
  subst hRi
  clear HR FC FL
  obtain ⟨ad, rfl⟩ : ∃ ad, A0 = some ad := by
   cases A0 with
   | none =>
    exfalso
    obtain ⟨f, hf⟩ := HO.out
    obtain ⟨_, inner, ho, _⟩ := hf
    rcases ho.2 with ⟨hv, hn⟩ | ⟨_, _, _, hv, _⟩
    ·
     rw [List.length_zipIdx] at hn; omega
    ·
     cases hv
   | some ad => exact ⟨ad, rfl⟩
  obtain ⟨G0, rfl⟩ := Kd.R_head (Kd.S_R HO.out)
  obtain ⟨_, hokG, hbG, hnc, hcm, cur, f, hcur, hcs, hrows⟩ := Kd.S_open HO.out
  have hm1 : 9223372036854775807 = maxLen := by decide
  obtain ⟨iz, hiz⟩ : ∃ iz : Int, iz = (i0 : Int) := ⟨_, rfl⟩
  rw [← hiz]
  have hz1 : (iz == -1) = false := by simp; omega
  obtain ⟨jz, hjz⟩ : ∃ jz : Int, jz = iz + 1 := ⟨_, rfl⟩
  have hz2 : IntKind.i64.wrap (iz + 1) = jz := by rw [hjz]; exact (i64_w _).trans (IntWalk.wrap64_in _ (by have := HN.out; omega))
  have K0 : keptAt p l0 jz.toNat = List.range i0 := by
   rw [show jz.toNat = i0 + 1 by omega, keptAt_succ, hpi, if_pos rfl]
   exact keptAt_none p l0 i0 (by omega) hbef
  have INV := Aside0.mk (show DelInv 24 p l0 G0 c0 cur w0 w w1 iz jz from ⟨by omega, by omega, by omega, by rw [K0, List.length_range]; omega, Kept.of_below BI.out _, below_step HB.out BI.out, cur, (BI.out.block G0 (blk_lt hcur)).trans hcur, hcs, fun m t ht => by
   rw [K0] at ht
   obtain ⟨hm, he⟩ := List.getElem?_eq_some_iff.1 ht
   rw [List.getElem_range] at he
   rw [he], fun _ _ => rfl⟩)
  have HRW := Aside0.mk hrows
  have HG := Aside0.mk (show P0_ G0 ∧ w0.heap.size ≤ G0 ∧ l0.length ≤ c0 ∧ c0 ≤ maxLen ∧ cur.size = c0 from ⟨hokG, hbG, hnc, hcm, hcs⟩)
  have HCU := Aside0.mk hcur
  clear hrows hokG hbG hnc hcm hcs hcur K0 hjz hbef hpi hi0 hiz hm1 HO HB BI
  go_wp2
  go_loopg [5, 6] (l0.length + 1) (fun kq v5 v6 w' => ∃ (i j : Int), v5 = .int .i64 i ∧ v6 = .int .i64 j ∧ Aside0 (kq + j.toNat = l0.length + 1 + jz.toNat) ∧ Aside0 (DelInv 24 p l0 G0 c0 cur w0 w w' i j))
  case atStart => exact ⟨iz, jz, rfl, rfl, ⟨rfl⟩, INV⟩
  case round =>
   clear INV hz1 hz2
   obtain ⟨i, j, rfl, rfl, HK, HI⟩ := hrel
   obtain ⟨hi0, hij, hjl, hik, hkept, hbel, cur2, hc2, hs2, hk2, ht2⟩ := HI.out
   obtain ⟨hokG, hbG, hnc, hcm, hcs⟩ := HG.out
   have hn63 := HN.out
   by_cases hj : j < (l0.length : Int)
   ·
    obtain ⟨jn, hjn⟩ : ∃ jn : Nat, j.toNat = jn := ⟨_, rfl⟩
    have hjl2 : jn < l0.length := by omega
    obtain ⟨x, hx⟩ : ∃ x, l0.getD jn [] = x := ⟨_, rfl⟩
    have hxj : l0[jn]? = some x := by rw [← hx, List.getD_eq_getElem?_getD, List.getElem?_eq_getElem hjl2]; rfl
    obtain ⟨vj, hvj, hRj⟩ := HRW.out jn x hxj
    obtain ⟨Aj, cj, hvs⟩ := Kd.R_slice hRj
    subst hvs
    have hRW := Kd.R_kept hRj hkept (fun k hk => hk.1.2)
    have hcx := Kd.R_reads' hRW
    have e1 : wr.cell? ⟨G0, j.toNat, none⟩ = some (.slice Aj x.length cj) := (blk_cell hc2 _).trans ((ht2 _ (Nat.le_refl _)).trans (by rw [hjn]; exact hvj))
    have p1 : (0 ≤ j) = True := eq_true (by omega)
    have q1 : (j < (l0.length : Int)) = True := eq_true hj
    have q1b : decide (j < (l0.length : Int)) = true := decide_eq_true hj
    obtain ⟨j1, hj1⟩ : ∃ j1 : Int, j1 = j + 1 := ⟨_, rfl⟩
    have z1 : IntKind.i64.wrap (j + 1) = j1 := by rw [hj1]; exact (i64_w _).trans (IntWalk.wrap64_in _ (by omega))
    obtain ⟨i1, hi1⟩ : ∃ i1 : Int, i1 = i + 1 := ⟨_, rfl⟩
    have z2 : IntKind.i64.wrap (i + 1) = i1 := by rw [hi1]; exact (i64_w _).trans (IntWalk.wrap64_in _ (by omega))
    have p2 : (0 ≤ i) = True := eq_true hi0
    have q2 : (i < (l0.length : Int)) = True := eq_true (by omega)
    have HX := Aside0.mk (And.intro hx (And.intro hjn (And.intro hj1 (And.intro hi1 hj))))
    have HXm := Aside0.mk (show of_ k x = some (p x) from HP.out x (List.mem_of_getElem? hxj))
    have HCx := Aside0.mk hcx
    have HVJ := Aside0.mk hvj
    clear hi0 hij hjl hik hkept hbel hc2 hs2 hk2 ht2 hokG hbG hnc hcm hcs hn63 hj hjn hjl2 hx hxj hvj hRj hRW hcx hj1 hi1
    (repeat ((fail_if_success (with_reducible refine gate_dst (N := 28) rfl ?_)); first | go_values | go_skip | go_guarded | go_step | go_upon))
    refine goesV_ (some 28) rfl rfl eg_ lb_ #[.slice Aj x.length cj] rfl rfl (by (try simp only [List.map_toArray, List.map_cons, List.map_nil]); first | done | rfl) ?_
    refine (HF.out Aj cj x (p x) wr ?hk HCx.out.2.2 HCx.out.2.1 HXm.out).mono ?_
    case hk =>
     obtain ⟨hi0, hij, hjl, hik, hkept, hbel, _⟩ := HI.out
     exact hkept.mono (fun k hk => by subst hk; exact HG.out.1)
    rintro e w2 ⟨rfl, hb⟩
    refine ⟨_, rfl, ?_⟩
    have HB2 := Aside0.mk hb
    clear hb e1 HCx HXm
    obtain ⟨hi0, hij, hjl, hik, hkept, hbel, cur2, hc2, hs2, hk2, ht2⟩ := HI.out
    obtain ⟨hokG, hbG, hnc, hcm, hcs⟩ := HG.out
    obtain ⟨hx, hjn, hj1, hi1, hj⟩ := HX.out
    have hc3 : w2.heap[G0]? = some (.cells cur2 24 (0, 0)) := (HB2.out.block G0 (blk_lt hc2)).trans hc2
    have hkept3 : Kept w w2 (fun k => k = G0) := hkept.below HB2.out
    have hbel3 : Below w0.heap.size w0 w2 := below_step hbel HB2.out
    have hjn1 : j1.toNat = jn + 1 := by omega
    cases hpx : p x with
    | true =>
     have INV2 := Aside0.mk (show DelInv 24 p l0 G0 c0 cur w0 w w2 i j1 from by
      have hke : keptAt p l0 j1.toNat = keptAt p l0 j.toNat := by rw [hjn1, hjn, keptAt_succ, hx, hpx, if_pos rfl]
      refine ⟨hi0, by omega, by omega, by rw [hke]; exact hik, hkept3, hbel3, cur2, hc3, hs2, by rw [hke]; exact hk2, fun t ht => ht2 t (by omega)⟩)
     have HM := Aside0.mk (show gk - 1 + j1.toNat = l0.length + 1 + jz.toNat ∧ gk - 1 < gk from by have := HK.out; have := HN.out; omega)
     clear hi0 hij hjl hik hkept hbel hc2 hs2 hk2 ht2 hokG hbG hnc hcm hcs hx hjn hj1 hi1 hj hc3 hkept3 hbel3 hjn1 hpx HI HK HX HVJ
     go_wp2
     go_roundg (gk - 1)
     case measure => exact HM.out.2
     case rel => exact ⟨i, j1, rfl, rfl, ⟨HM.out.1⟩, INV2⟩
    | false =>
     obtain ⟨vi, hvi⟩ : ∃ vi, cur2[i.toNat]? = some vi := ⟨_, Array.getElem?_eq_getElem (by omega)⟩
     have e2 : w2.cell? ⟨G0, i.toNat, none⟩ = some vi := (blk_cell hc3 _).trans hvi
     have f2 : w2.frozen? ⟨G0, i.toNat, none⟩ = false := blk_frozen hc3 _
     have INV2 := Aside0.mk (show DelInv 24 p l0 G0 c0 cur w0 w (w2.setCell ⟨G0, i.toNat, none⟩ (.slice Aj x.length cj)) i1 j1 from by
      have hke : keptAt p l0 j1.toNat = keptAt p l0 j.toNat ++ [jn] := by rw [hjn1, hjn, keptAt_succ, hx, hpx, if_neg (by simp)]
      refine ⟨by omega, by omega, by omega, by rw [hke, List.length_append, List.length_singleton]; omega, hkept3.setCell (.inl rfl) _, hbel3.setCell hbG _, cur2.setIfInBounds i.toNat (.slice Aj x.length cj), blk_put hc3 i.toNat _ rfl, by simpa using hs2, fun m t hmt => ?_, fun t ht => ?_⟩
      ·
       rw [hke] at hmt
       rw [Array.getElem?_setIfInBounds]
       by_cases hmi : i.toNat = m
       ·
        rw [if_pos hmi, if_pos (by omega)]
        have : t = jn := by
         rw [← hmi, hik, Int.toNat_natCast, List.getElem?_append_right (Nat.le_refl _), Nat.sub_self] at hmt
         simpa using hmt.symm
        rw [this]
        exact HVJ.out.symm
       ·
        rw [if_neg hmi]
        refine hk2 m t ?_
        rw [List.getElem?_append_left] at hmt
        ·
         exact hmt
        ·
         have := (List.getElem?_eq_some_iff.1 hmt).1
         rw [List.length_append, List.length_singleton] at this
         omega
      ·
       rw [Array.getElem?_setIfInBounds, if_neg (by omega)]
       exact ht2 t (by omega))
     have HM := Aside0.mk (show gk - 1 + j1.toNat = l0.length + 1 + jz.toNat ∧ gk - 1 < gk from by have := HK.out; have := HN.out; omega)
     clear hi0 hij hjl hik hkept hbel hc2 hs2 hk2 ht2 hokG hbG hnc hcm hcs hx hjn hj1 hi1 hj hc3 hkept3 hbel3 hjn1 hpx HI HK HX HVJ hvi
     go_wp2
     go_roundg (gk - 1)
     case measure => exact HM.out.2
     case rel => exact ⟨i1, j1, rfl, rfl, ⟨HM.out.1⟩, INV2⟩
   ·
    have q1b : decide (j < (l0.length : Int)) = false := decide_eq_false hj
    have hje : j.toNat = l0.length := by omega
    obtain ⟨m, hm⟩ : ∃ m : Nat, i = m := ⟨i.toNat, by omega⟩
    subst hm
    have hml : m < l0.length := by omega
    have hmc : ¬ c0 = m := by omega
    have hmc2 : m ≤ c0 := by omega
    have hmk : m = (keptAt p l0 l0.length).length := by rw [hje] at hik; omega
    have hcl : ∀ ty, (Builtin.clear_ #[52] ty #[.slice (some ⟨G0, m, none⟩) (l0.length - m) (c0 - m)]).run Try.prog wr = .ok (.tuple #[]) (wr.setCells G0 m (List.replicate (l0.length - m) (.slice none 0 0))) :=
     fun ty => Go.Lib.run_clear_slice wr 52 24 ty (.slice none 0 0) Try.underlying52 Try.zeroValue24 rfl rfl G0 m _ _ (by omega) (fun t ht => by rw [blk_cell hc2, Array.getElem?_eq_getElem (by omega)]; rfl) (fun t ht => blk_frozen hc2 _)
    rw [hje] at hk2
    have HZ := Aside0.mk (And.intro hkept (And.intro hbel (And.intro hc2 (And.intro hs2 (And.intro hk2 hmk)))))
    clear HK hi0 hij hjl hik hkept hbel hc2 hs2 hk2 ht2 hokG hbG hnc hcm hcs hn63 hje hmk HI HP HF
    go_wp2
    go_ret
    obtain ⟨hkept, hbel, hc2, hs2, hk2, hmk⟩ := HZ.out
    obtain ⟨hokG, hbG, hnc, hcm, hcs⟩ := HG.out
    have hrl : (List.replicate (l0.length - m) (Value.slice none 0 0)).length = l0.length - m := List.length_replicate
    obtain ⟨cur3, hc3, hs3, h3⟩ : ∃ cur3 : Array Value, (wr.setCells G0 m (List.replicate (l0.length - m) (.slice none 0 0))).heap[G0]? = some (.cells cur3 24 (0, 0)) ∧ cur3.size = c0 ∧ ∀ t : Nat, t < m → cur3[t]? = cur2[t]? := by
     obtain ⟨c3, h1, h2, h3⟩ := setCells_row (List.replicate (l0.length - m) (.slice none 0 0)) m wr cur2 hc2 (by rw [hrl]; omega)
     refine ⟨c3, h1, h2.trans hs2, fun t ht => ?_⟩
     rw [← Array.getElem?_toList, ← Array.getElem?_toList, h3, List.append_assoc, List.getElem?_append_left (by rw [List.length_take, Array.length_toList]; omega), List.getElem?_take, if_pos ht]
    have hkept3 : Kept w (wr.setCells G0 m (List.replicate (l0.length - m) (.slice none 0 0))) (fun k => k = G0) := hkept.then_ (S2 := fun k => k = G0) ⟨by rw [(setCells_same _ _ _ _).2.2.2]; exact Nat.le_refl _, fun i _ hn => setCells_far _ _ i hn⟩ (fun k hk => .inl hk)
    refine ⟨_, rfl, ?_, ?_, hkept3.mono (fun k hk => by subst hk; exact hokG)⟩
    ·
     have hS := Kd.S_pick (z := []) (keptAt_nodup p l0 l0.length) hokG hbG hcm HRW.out hkept3 hc3 hs3 (by omega) (fun m2 t hmt => ⟨keptAt_lt (List.mem_of_getElem? hmt), (h3 m2 (by rw [hmk]; exact (List.getElem?_eq_some_iff.1 hmt).1)).trans (hk2 m2 t hmt)⟩)
     rw [keptAt_all, ← hmk] at hS
     exact Kd.S_mono hS (fun _ hk => .inl hk)
    ·
     obtain ⟨s1, s2, s3, s4⟩ := setCells_same G0 (List.replicate (l0.length - m) (.slice none 0 0)) m wr
     exact ⟨s1.trans hbel.os, s2.trans hbel.tape, s3.trans hbel.output, by rw [s4]; exact hbel.size, fun k hk => (setCells_far _ _ k (by omega)).trans (hbel.block k hk)⟩
def impl_FallSweptFrom_1.f (k : Nat) (l0 : List Int) (l1 : List Int) : Option (Bool) := (impl_fallSweep.f k l0).bind fun t506 => ((slices_Equal_int_int.f k t506 l1).bind fun t509 => (some (!t509)))
theorem impl_FallSweptFrom_1.mono : ∀ a0 a1 k, LeO (impl_FallSweptFrom_1.f k a0 a1) (impl_FallSweptFrom_1.f (k + 1) a0 a1) := by
 intro a0 a1 k
 unfold impl_FallSweptFrom_1.f
 repeat' with_reducible first | exact impl_fallSweep.mono _ _ | exact slices_Equal_int_int.mono _ _ _ | exact LeO.refl _ | exact LeO.none _ | refine LeO.ite ?_ ?_ | refine LeO.bind ?_ (fun _ => ?_)
set_option maxHeartbeats 8000000 in
set_option maxRecDepth 100000 in
theorem impl_FallSweptFrom_1.calls (b0_ : Nat) (k : Nat) (A0 : Option Addr) (c0 : Nat) (l0 : List Int) (A1 : Option Addr) (c1 : Nat) (l1 : List Int) (r : Bool) (w : World) (hcap0_ : w.cell? ⟨b0_, 0, none⟩ = some (.slice A1 l1.length c1)) (hr0 : Kd.C (Kd.int .i64) w A0 l0.length l0) (hc0 : l0.length ≤ c0) (hr1 : Kd.C (Kd.int .i64) w A1 l1.length l1) (hc1 : l1.length ≤ c1) (h : impl_FallSweptFrom_1.f k l0 l1 = some r) :
  Calls Try.prog 93 #[.slice A0 l0.length c0, .pointer (some ⟨b0_, 0, none⟩)] w fun e w' => e = .returned (.bool r) ∧ Below w.heap.size w w' := by
 have HR0 := Aside0.mk hr0
 have HC0 := Aside0.mk hc0
 clear hr0 hc0
 have HR1 := Aside0.mk hr1
 have HC1 := Aside0.mk hc1
 clear hr1 hc1
 have HB := Aside0.mk (Below.refl w.heap.size w)
 have H : ((impl_fallSweep.f k l0).bind fun t506 => ((slices_Equal_int_int.f k t506 l1).bind fun t509 => (some (!t509)))) = some r := h
 clear h
 replace H := Option.bind_eq_some_iff.mp H
 obtain ⟨t506, A30, H⟩ := H
 (try dsimp only at H)
 have A3 := Aside0.mk A30
 clear A30
 replace H := Option.bind_eq_some_iff.mp H
 obtain ⟨t509, A40, H⟩ := H
 (try dsimp only at H)
 have A4 := Aside0.mk A40
 clear A40
 obtain rfl := Option.some.inj H
 go_enter Try.func93, Try.ntmps93
 try go_wp2
 have n0_ := Aside0.mk (below_drew1 HB.out)
 clear HB
 have HB := n0_
 clear n0_
 refine start_ (n := 6) (S := fun w' => w'.cell? ⟨b0_, 0, none⟩ = some (.slice A1 l1.length c1)) (ds := []) #[false, false, false, false, false, false] (by kernel_rfl) rfl rfl hcap0_ (fun hHeld => ?_)
 generalize w.drew = w5 at HB hHeld ⊢
 refine pure_ (i := 0) (N := some 4) (v := ?_) (a' := ?_) #[true, false, false, false, false, false] rfl rfl (by kernel_rfl) (fun _ _ _ h => h) (Or.inl ⟨by rfl, ?_⟩) ?_ ?_
 rotate_left
 ·
  intro w'
  go_simp
  with_reducible rfl
 rotate_left
 ·
  simp only [Act.put, List.setIfInBounds_toArray, List.set_cons_zero, List.set_cons_succ, i64_w, i32_w]
  rfl
 refine take_ (i := 2) (N := some 6) (v := ?_) (a' := ?_) #[true, false, true, false, false, false] rfl rfl (by kernel_rfl) (fun _ _ _ h => h) (Or.inl ⟨by rfl, ?_⟩) hHeld ?_ ?_
 rotate_left
 ·
  intro w' s0
  go_simp
  with_reducible rfl
 rotate_left
 ·
  simp only [Act.put, List.setIfInBounds_toArray, List.set_cons_zero, List.set_cons_succ, i64_w, i32_w]
  rfl
 refine one_ (i := 1) (N := some 5) #[true, true, true, false, false, false] rfl rfl (by kernel_rfl) (by decide) (fun K hK => ?_)
 refine goes_ Try.func85 (by kernel_rfl) rfl #[.slice A0 l0.length c0] (by rfl) rfl rfl (by (try simp only [List.map_toArray, List.map_cons, List.map_nil]); first | done | rfl | (simp only [List.length_drop, List.length_take]; rfl)) ?_
 with_reducible refine (impl_fallSweep.calls k _ _ l0 t506 _ ?side1 ?side2 A3.out).mono ?_
 (case side1 => repeat (first | exact (Kd.C_below HR0.out HB.out) | (with_reducible refine Kd.C_alloc ?_ _) | (with_reducible refine Kd.C_drewN ?_ _) | (with_reducible refine Kd.C_drew ?_)))
 (case side2 => exact HC0.out)
 rintro e w6 ⟨v507, rfl, ho0, hb⟩
 refine ⟨_, rfl, ?_⟩
 have n0_ := Aside0.mk (Kd.R_lower ho0 (below_size (by repeat (first | (with_reducible first | exact HB.out | apply below_alloc | apply pw_below_drewN | apply below_drew1) | exact HB.out))))
 have n1_ := Aside0.mk (below_step (by repeat (first | (with_reducible first | exact HB.out | apply below_alloc | apply pw_below_drewN | apply below_drew1) | exact HB.out)) hb)
 clear HB
 have HO508 := n0_
 have HB := n1_
 clear n0_ n1_
 have hbC_ := hb
 (try clear hb)
 (try clear hb2)
 (try clear hk)
 (try clear hi)
 (try clear ho0)
 obtain ⟨Ao7, co7, eo7⟩ := Kd.R_slice HO508.out
 (first | subst eo7 | (injection eo7 with f1_ f2_ f3_; have f4_ := f1_.symm; have f5_ := f3_.symm; clear f1_ f2_ f3_; subst f4_; subst f5_))
 refine hK.out _ _ (by first | exact (hbC_.cell (World.block_lt_of_cell? _ _ hHeld)).trans hHeld | exact hHeld) (fun hHeld => ?_)
 clear hK K
 refine norm_ (a' := ?_) ?_ ?_
 rotate_left
 ·
  show Act.put _ (some 5) _ = _
  simp only [Act.put, List.setIfInBounds_toArray, List.set_cons_zero, List.set_cons_succ, i64_w, i32_w]
  rfl
 refine one_ (i := 3) (N := some 7) #[true, true, true, true, false, false] rfl rfl (by kernel_rfl) (by decide) (fun K hK => ?_)
 refine goes_ Try.func73 (by kernel_rfl) rfl #[.slice Ao7 t506.length co7, .slice A1 l1.length c1] (by rfl) rfl rfl (by (try simp only [List.map_toArray, List.map_cons, List.map_nil]); first | done | rfl | (simp only [List.length_drop, List.length_take]; rfl)) ?_
 with_reducible refine (slices_Equal_int_int.calls k _ _ t506 _ _ l1 t509 _ ?side1 ?side2 ?side3 ?side4 A4.out).mono ?_
 (case side1 => repeat (first | exact (Kd.R_reads' HO508.out).2.2 | (with_reducible refine Kd.C_alloc ?_ _) | (with_reducible refine Kd.C_drewN ?_ _) | (with_reducible refine Kd.C_drew ?_)))
 (case side2 => exact (Kd.R_reads' HO508.out).2.1)
 (case side3 => repeat (first | exact (Kd.C_below HR1.out HB.out) | (with_reducible refine Kd.C_alloc ?_ _) | (with_reducible refine Kd.C_drewN ?_ _) | (with_reducible refine Kd.C_drew ?_)))
 (case side4 => exact HC1.out)
 rintro e w' ⟨rfl, ⟨nd, rfl⟩⟩
 refine ⟨_, rfl, ?_⟩
 refine hK.out _ _ (by first | exact (hbC_.cell (World.block_lt_of_cell? _ _ hHeld)).trans hHeld | exact hHeld) (fun hHeld => ?_)
 clear hK K
 refine norm_ (a' := ?_) ?_ ?_
 rotate_left
 ·
  show Act.put _ (some 7) _ = _
  simp only [Act.put, List.setIfInBounds_toArray, List.set_cons_zero, List.set_cons_succ, i64_w, i32_w]
  rfl
 refine pure_ (i := 4) (N := some 8) (v := ?_) (a' := ?_) #[true, true, true, true, true, false] rfl rfl (by kernel_rfl) (fun _ _ _ h => h) (Or.inl ⟨by rfl, ?_⟩) ?_ ?_
 rotate_left
 ·
  intro w'
  go_simp
  with_reducible rfl
 rotate_left
 ·
  simp only [Act.put, List.setIfInBounds_toArray, List.set_cons_zero, List.set_cons_succ, i64_w, i32_w]
  rfl
 refine pure_ (i := 5) (N := some 3) (v := ?_) (a' := ?_) #[true, true, true, true, true, true] rfl rfl (by kernel_rfl) (fun _ _ _ h => h) (Or.inl ⟨by rfl, ?_⟩) ?_ ?_
 rotate_left
 ·
  intro w'
  go_simp
  with_reducible rfl
 rotate_left
 ·
  simp only [Act.put, List.setIfInBounds_toArray, List.set_cons_zero, List.set_cons_succ, i64_w, i32_w]
  rfl
 refine done_ (by kernel_rfl) ?_
 try go_wp2
 go_ret
 exact ⟨by first | rfl | (simp [errW_none, errW_some] <;> rfl) | (simp [*, errW_none, errW_some] <;> rfl), by repeat (first | (with_reducible first | exact HB.out | apply below_alloc | apply pw_below_drewN | apply below_drew1) | exact HB.out)⟩
def impl_FallSweptFrom.f (k : Nat) (l0 : List Int) : Option (List (List Int) × Bool) := (impl_isOrder.f k l0).bind fun t => if t = true then ((impl_allOrders.f k (l0.length : Int)).bind fun os => (slices_DeleteFunc_int_int.f (fun k x => impl_FallSweptFrom_1.f k x l0) k os).bind fun r => some (r, true)) else some ([], false)
theorem impl_FallSweptFrom.mono : ∀ a0 k, LeO (impl_FallSweptFrom.f k a0) (impl_FallSweptFrom.f (k + 1) a0) := fun a0 k => LeO.bind (impl_isOrder.mono _ _) (fun t => LeO.ite (LeO.bind (impl_allOrders.mono _ _) (fun os => LeO.bind (slices_DeleteFunc_int_int.mono _ (fun x k => impl_FallSweptFrom_1.mono x a0 k) os k) (fun r => LeO.refl _))) (LeO.refl _))
set_option maxHeartbeats 8000000 in
set_option maxRecDepth 100000 in
theorem impl_FallSweptFrom.calls (k : Nat) (A0 : Option Addr) (c0 : Nat) (l0 : List Int) (r1 : List (List Int)) (r2 : Bool) (w : World) (hr0 : Kd.C (Kd.int .i64) w A0 l0.length l0) (hc0 : l0.length ≤ c0) (h : impl_FallSweptFrom.f k l0 = some (r1, r2)) :
  Calls Try.prog 48 #[.slice A0 l0.length c0] w fun e w' => ∃ v0_ : Value, e = .returned (.tuple #[v0_, .bool r2]) ∧ Kd.S (Kd.slice 3 (Kd.int .i64)) 24 w' w.heap.size (fun _ => True) v0_ r1 ∧ Below w.heap.size w w' := by
 have HR0 := Aside0.mk hr0
 have HC0 := Aside0.mk hc0
 clear hr0 hc0
 have HB := Aside0.mk (Below.refl w.heap.size w)
 obtain ⟨t, h1, h2⟩ := Option.bind_eq_some_iff.1 h
 have A0_ := Aside0.mk h1
 clear h h1
 cases t
 ·
  rw [if_neg (by simp)] at h2
  obtain ⟨rfl, rfl⟩ := Prod.mk.inj (Option.some.inj h2)
  clear h2
  go_enter Try.func48, Try.ntmps48
  (repeat ((fail_if_success (with_reducible refine gate_dst (N := 1) rfl ?_)); first | go_values | go_skip | go_guarded | go_step | go_upon))
  refine box_event ?hg (N := 1) ?hd (cs := #[.slice A0 l0.length c0]) (t := 24) ?hr ?_
  case hd => rfl
  case hg => rfl
  case hr => first | (go_simp; done) | (go_simp; rfl)
  intro g1 hg w1 hbox hb
  have n0_ := Aside0.mk (below_step HB.out hb)
  have BX := Aside0.mk hbox
  clear HB hg hb hbox
  have HB := n0_
  clear n0_
  have ec : w1.cell? ⟨g1, 0, none⟩ = some (.slice A0 l0.length c0) := (blk_cell BX.out 0).trans rfl
  (repeat ((fail_if_success (with_reducible refine gate_dst (N := 5) rfl ?_)); first | go_values | go_skip | go_guarded | go_step | go_upon))
  refine goesL_ (some 5) rfl rfl Try.func53 (by kernel_rfl) rfl #[.slice A0 l0.length c0] rfl (by (try simp only [List.map_toArray, List.map_cons, List.map_nil]); first | done | rfl) ?_
  refine (impl_isOrder.calls k A0 c0 l0 false _ (Kd.C_below HR0.out HB.out) HC0.out A0_.out).mono ?_
  rintro e w5 ⟨rfl, hb⟩
  refine ⟨_, rfl, ?_⟩
  have n0_ := Aside0.mk (below_step HB.out hb.below)
  have n1_ := Aside0.mk (blk_below BX.out hb.below)
  clear HB BX ec hb
  have HB := n0_
  have BX := n1_
  clear n0_ n1_
  have ec : w5.cell? ⟨g1, 0, none⟩ = some (.slice A0 l0.length c0) := (blk_cell BX.out 0).trans rfl
  go_wp2
  go_ret2
  exact ⟨_, rfl, Kd.S_nil _ _ _ _ _, HB.out⟩
 rw [if_pos rfl] at h2
 obtain ⟨os, h1, h4⟩ := Option.bind_eq_some_iff.1 h2
 obtain ⟨r, h5, h3⟩ := Option.bind_eq_some_iff.1 h4
 obtain ⟨rfl, rfl⟩ := Prod.mk.inj (Option.some.inj h3)
 have A1 := Aside0.mk h1
 have A2 := Aside0.mk h5
 clear h1 h2 h3 h4 h5
 go_enter Try.func48, Try.ntmps48
 (repeat ((fail_if_success (with_reducible refine gate_dst (N := 1) rfl ?_)); first | go_values | go_skip | go_guarded | go_step | go_upon))
 refine box_event ?hg (N := 1) ?hd (cs := #[.slice A0 l0.length c0]) (t := 24) ?hr ?_
 case hd => rfl
 case hg => rfl
 case hr => first | (go_simp; done) | (go_simp; rfl)
 intro g1 hg w1 hbox hb
 have n0_ := Aside0.mk (below_step HB.out hb)
 have BX := Aside0.mk hbox
 clear HB hg hb hbox
 have HB := n0_
 clear n0_
 have ec : w1.cell? ⟨g1, 0, none⟩ = some (.slice A0 l0.length c0) := (blk_cell BX.out 0).trans rfl
 (repeat ((fail_if_success (with_reducible refine gate_dst (N := 5) rfl ?_)); first | go_values | go_skip | go_guarded | go_step | go_upon))
 refine goesL_ (some 5) rfl rfl Try.func53 (by kernel_rfl) rfl #[.slice A0 l0.length c0] rfl (by (try simp only [List.map_toArray, List.map_cons, List.map_nil]); first | done | rfl) ?_
 refine (impl_isOrder.calls k A0 c0 l0 true _ (Kd.C_below HR0.out HB.out) HC0.out A0_.out).mono ?_
 rintro e w5 ⟨rfl, hb⟩
 refine ⟨_, rfl, ?_⟩
 have n0_ := Aside0.mk (below_step HB.out hb.below)
 have n1_ := Aside0.mk (blk_below BX.out hb.below)
 clear HB BX ec hb
 have HB := n0_
 have BX := n1_
 clear n0_ n1_
 have ec : w5.cell? ⟨g1, 0, none⟩ = some (.slice A0 l0.length c0) := (blk_cell BX.out 0).trans rfl
 (repeat ((fail_if_success (with_reducible refine gate_dst (N := 9) rfl ?_)); first | go_values | go_skip | go_guarded | go_step | go_upon))
 refine goesL_ (some 9) rfl rfl Try.func90 (by kernel_rfl) rfl #[.int .i64 (l0.length : Int)] rfl (by (try simp only [List.map_toArray, List.map_cons, List.map_nil]); first | done | rfl) ?_
 refine (impl_allOrders.calls k (l0.length : Int) os _ A1.out).mono ?_
 rintro e w8 ⟨v8, rfl, ho, hb⟩
 refine ⟨_, rfl, ?_⟩
 have HS := Aside0.mk (Kd.S_mono (ok' := fun q_ => w5.heap.size ≤ q_) (Kd.S_bound ho) (fun _ h_ => h_.2.1))
 have HB8 := Aside0.mk hb
 clear ho hb ec
 (repeat ((fail_if_success (with_reducible refine gate_dst (N := 11) rfl ?_)); first | go_values | go_skip | go_guarded | go_step | go_upon))
 refine goesL_ (some 11) rfl rfl Try.func92 (by kernel_rfl) rfl #[v8, .func (.func 93) #[] #[.pointer (some ⟨g1, 0, none⟩)]] rfl (by (try simp only [List.map_toArray, List.map_cons, List.map_nil]); first | done | rfl) ?_
 refine (slices_DeleteFunc_int_int.calls 93 #[.pointer (some ⟨g1, 0, none⟩)] (fun k x => impl_FallSweptFrom_1.f k x l0) (enters_of Try.func93 (by kernel_rfl) rfl) k (fun q_ => w5.heap.size ≤ q_) v8 os r w5 w8 HB8.out HS.out ?hof A2.out).mono ?_
 case hof =>
  intro A_ c_ x_ r_ W_ hK_ hC_ hl_ h_
  have hg1 := blk_lt BX.out
  refine impl_FallSweptFrom_1.calls g1 k A_ c_ x_ A0 c0 l0 r_ W_ ((blk_cell (blk_kept (blk_below BX.out HB8.out) hK_ (by omega)) 0).trans rfl) hC_ hl_ ?_ HC0.out h_
  exact (Kd.heap_int _).C (fun q hq => (hK_.2 q (by have := HB.out.size; have := HB8.out.size; omega) (by have := HB.out.size; omega)).trans ((HB8.out.block q (by have := HB.out.size; omega)).trans (HB.out.block q hq))) HR0.out
 rintro e w9 ⟨v9, rfl, ho9, hb9, hk9⟩
 refine ⟨_, rfl, ?_⟩
 have HS9 := Aside0.mk (Kd.S_mono (ok' := fun _ => True) (Kd.S_lower ho9 HB.out.size) (fun _ _ => trivial))
 have n0_ := Aside0.mk (below_step HB.out hb9)
 clear HB BX HS HB8 ho9 hb9 hk9
 have HB := n0_
 clear n0_
 go_wp2
 go_ret2
 exact ⟨_, rfl, HS9.out, HB.out⟩
end Go.Proofs.Ytbnieikbjmfhgaa.PFnFalls
