-- laid by mkprint.py, a program of this claim's writer, over the kit's print program; parts of it are typed by hand
import Derived.Test.YtgmhehgjmlokdaaPFnExactCountTwoCutsx0
import Derived.Test.YtgmhehgjmlokdaaPFnExactCountTwoCutsx4
import Derived.Test.YtgmhehgjmlokdaaPFnExactCountTwoCutsx5
import Derived.Test.YtgmhehgjmlokdaaPFnExactCountTwoCutsx6
namespace Go.Proofs.Ytgmhehgjmlokdaa.PFnExactCountTwoCuts
open Go.RowKit Go.Proofs.YtgmhehgjmlokdaaW.PrintWords Go.Proofs.YtgmhehgjmlokdaaW.PrintLast Go.Proofs.YtgmhehgjmlokdaaW.PrintMore
attribute [local go_sem] max2_int min2_int max_two min_two max_three min_three max_four min_four   -- for this text's walks alone
set_option linter.unusedVariables false
set_option linter.unusedSimpArgs false

/-! ### slices_CompactFunc_int_int: function 108 -/
/-- which rows stay: each that is not like the one ahead of it -/
def cKeep (l : List (List Int)) (t : Nat) : Bool := t == 0 || !decide (l.getD t [] = l.getD (t - 1) [])
def cK (l : List (List Int)) (j : Nat) : List Nat := (List.range j).filter (cKeep l)
def compL (l : List (List Int)) : List (List Int) := (cK l l.length).map fun t => l.getD t []
theorem cK_succ (l : List (List Int)) (j : Nat) : cK l (j + 1) = if cKeep l j = true then cK l j ++ [j] else cK l j := by
  rw [cK, List.range_succ, List.filter_append]
  cases hp : cKeep l j <;> simp only [List.filter_cons, List.filter_nil, hp, if_true, if_false, List.append_nil, Bool.false_eq_true] <;> rfl
theorem cK_nodup (l : List (List Int)) (j : Nat) : (cK l j).Nodup := List.nodup_range.filter _
theorem cK_lt {l : List (List Int)} {j t : Nat} (h : t ∈ cK l j) : t < j := by
  have := (List.mem_filter.1 h).1
  simpa using this
theorem cK_len (l : List (List Int)) (j : Nat) : (cK l j).length ≤ j := by
  have := List.length_filter_le (cKeep l) (List.range j)
  rw [List.length_range] at this
  exact this
theorem map_range_getD (l : List (List Int)) : (List.range l.length).map (fun t => l.getD t []) = l := by
  apply List.ext_getElem
  · simp
  · intro i h1 h2
    simp [List.getD_eq_getElem?_getD, h2]
theorem compL_range {l : List (List Int)} (h : cK l l.length = List.range l.length) : compL l = l := by rw [compL, h, map_range_getD]
def CompA (e' : Nat) (l : List (List Int)) (g : Nat) (cur : Array Value) (w0 w w' : World) (j : Int) : Prop :=
  1 ≤ j ∧ j ≤ l.length ∧ cK l j.toNat = List.range j.toNat ∧ Below w.heap.size w w'
def CompB (e' : Nat) (l : List (List Int)) (g cap : Nat) (cur : Array Value) (w0 w w' : World) (m : Nat) (i j : Int) : Prop :=
  0 ≤ i ∧ 1 ≤ j ∧ m + j ≤ l.length ∧ i < m + j ∧ i = (cK l (m + j.toNat)).length ∧ Kept w w' (fun k => k = g) ∧ Below w0.heap.size w0 w' ∧
    ∃ cur' : Array Value, w'.heap[g]? = some (.cells cur' e' (0, 0)) ∧ cur'.size = cap ∧ (∀ a t : Nat, (cK l (m + j.toNat))[a]? = some t → cur'[a]? = cur[t]?) ∧ ∀ t : Nat, m + j.toNat ≤ t + 1 → cur'[t]? = cur[t]?
set_option maxHeartbeats 8000000 in
set_option maxRecDepth 100000 in
theorem slices_CompactFunc_int_int.calls (k : Nat) (P0_ : Nat → Prop) (u9000_ : Value) (l0 : List (List Int)) (w0 w : World) (hB : Below w0.heap.size w0 w) (ho0 : Kd.S (Kd.slice 3 (Kd.int .i64)) 22 w w0.heap.size P0_ u9000_ l0) (hc : ∀ x ∈ l0, ∀ y ∈ l0, slices_Equal_int_int.f k x y = some (decide (x = y))) :
    Calls Try.prog 108 #[u9000_, .func (.func 72) #[] #[]] w fun e w' => ∃ v0_ : Value, e = .returned v0_ ∧ Kd.S (Kd.slice 3 (Kd.int .i64)) 22 w' w0.heap.size P0_ v0_ (compL l0) ∧ Below w0.heap.size w0 w' ∧ Kept w w' (fun k_ => P0_ k_) := by
  by_cases h2 : l0.length < 2
  · obtain ⟨A0, c0, hv⟩ := Kd.S_slice ho0
    subst hv
    have hcl : compL l0 = l0 := compL_range (by
      rcases l0 with _ | ⟨a, _ | ⟨b, t⟩⟩
      · rfl
      · rfl
      · exfalso; simp only [List.length_cons] at h2; omega)
    have c1 : decide ((l0.length : Int) < 2) = true := decide_eq_true (by omega)
    have c1b : decide (l0.length < 2) = true := decide_eq_true h2
    have HO := Aside0.mk ho0
    have HB := Aside0.mk hB
    clear ho0 hB hc
    rw [hcl]
    clear hcl h2
    go_enter Try.func108, Try.ntmps108
    go_wp2
    go_ret
    exact ⟨_, rfl, HO.out, HB.out, Kept.refl _ _⟩
  · obtain ⟨G0, c0, hv, _, _, _⟩ := Kd.S_form ho0 (by omega)
    subst hv
    obtain ⟨_, hokG, hbG, hnc, hcm, cur, f, hcur, hcs, hrows⟩ := Kd.S_open ho0
    have hm1 : 9223372036854775807 = maxLen := by decide
    have c1 : decide ((l0.length : Int) < 2) = false := decide_eq_false (by omega)
    have c1b : decide (l0.length < 2) = false := decide_eq_false h2
    have HRW := Aside0.mk hrows
    have HG := Aside0.mk (show P0_ G0 ∧ w0.heap.size ≤ G0 ∧ l0.length ≤ c0 ∧ c0 ≤ maxLen ∧ cur.size = c0 ∧ 2 ≤ l0.length ∧ maxLen = 9223372036854775807 from ⟨hokG, hbG, hnc, hcm, hcs, by omega, hm1.symm⟩)
    have HCU := Aside0.mk hcur
    have HO := Aside0.mk ho0
    have HB := Aside0.mk hB
    have HC := Aside0.mk hc
    clear hrows hokG hbG hnc hcm hcs hcur ho0 hB hc hm1 h2
    go_enter Try.func108, Try.ntmps108
    go_wp2
    go_loopg [5] l0.length (fun kq v5 w' => ∃ j : Int, v5 = .int .i64 j ∧ Aside0 (kq + j.toNat = l0.length + 1) ∧ Aside0 (CompA 22 l0 G0 cur w0 w w' j))
    case atStart => exact ⟨1, rfl, ⟨rfl⟩, ⟨⟨by omega, by have := HG.out; omega, rfl, Below.refl _ _⟩⟩⟩
    case round =>
      clear c1 c1b
      obtain ⟨j, rfl, HK, HI⟩ := hrel
      obtain ⟨hj1, hjl, hcK, hbI⟩ := HI.out
      obtain ⟨hokG, hbG, hnc, hcm, hcs, h2, hm1⟩ := HG.out
      by_cases hj : j < (l0.length : Int)
      · obtain ⟨jn, hjn⟩ : ∃ jn : Nat, j.toNat = jn := ⟨_, rfl⟩
        have hjl2 : jn < l0.length := by omega
        obtain ⟨x, hx⟩ : ∃ x, l0.getD jn [] = x := ⟨_, rfl⟩
        obtain ⟨y, hy⟩ : ∃ y, l0.getD (jn - 1) [] = y := ⟨_, rfl⟩
        have hxj : l0[jn]? = some x := by rw [← hx, List.getD_eq_getElem?_getD, List.getElem?_eq_getElem hjl2]; rfl
        have hyj : l0[jn - 1]? = some y := by rw [← hy, List.getD_eq_getElem?_getD, List.getElem?_eq_getElem (by omega)]; rfl
        obtain ⟨vj, hvj, hRj⟩ := HRW.out jn x hxj
        obtain ⟨vm, hvm, hRm⟩ := HRW.out (jn - 1) y hyj
        obtain ⟨Aj, cj, hvs⟩ := Kd.R_slice hRj
        subst hvs
        obtain ⟨Am, cm, hvs⟩ := Kd.R_slice hRm
        subst hvs
        have hcx := Kd.R_reads' (Kd.R_kept hRj (Kept.of_below hbI (fun k => k = G0)) (fun k hk => hk.1.2))
        have hcy := Kd.R_reads' (Kd.R_kept hRm (Kept.of_below hbI (fun k => k = G0)) (fun k hk => hk.1.2))
        have hc2 : wr.heap[G0]? = some (.cells cur 22 (0, 0)) := (hbI.block G0 (blk_lt HCU.out)).trans HCU.out
        obtain ⟨jm, hjm⟩ : ∃ jm : Int, jm = j - 1 := ⟨_, rfl⟩
        have z0 : IntKind.i64.wrap (j - 1) = jm := by rw [hjm]; exact (i64_w _).trans (IntWalk.wrap64_in _ (by omega))
        obtain ⟨j1, hj1e⟩ : ∃ j1 : Int, j1 = j + 1 := ⟨_, rfl⟩
        have z1 : IntKind.i64.wrap (j + 1) = j1 := by rw [hj1e]; exact (i64_w _).trans (IntWalk.wrap64_in _ (by omega))
        have e1 : wr.cell? ⟨G0, j.toNat, none⟩ = some (.slice Aj x.length cj) := (blk_cell hc2 _).trans (by rw [hjn]; exact hvj)
        have e2 : wr.cell? ⟨G0, jm.toNat, none⟩ = some (.slice Am y.length cm) := (blk_cell hc2 _).trans (by rw [show jm.toNat = jn - 1 by omega]; exact hvm)
        have p1 : (0 ≤ j) = True := eq_true (by omega)
        have q1 : (j < (l0.length : Int)) = True := eq_true hj
        have q1b : decide (j < (l0.length : Int)) = true := decide_eq_true hj
        have p2 : (0 ≤ jm) = True := eq_true (by omega)
        have q2 : (jm < (l0.length : Int)) = True := eq_true (by omega)
        obtain ⟨b, hb⟩ : ∃ b, decide (x = y) = b := ⟨_, rfl⟩
        have HEQ := Aside0.mk (show slices_Equal_int_int.f k x y = some b from (HC.out x (List.mem_of_getElem? hxj) y (List.mem_of_getElem? hyj)).trans (by rw [hb]))
        have HX := Aside0.mk (And.intro hx (And.intro hy (And.intro hjn (And.intro hj1e (And.intro hb hj)))))
        have HCx := Aside0.mk hcx
        have HCy := Aside0.mk hcy
        clear hj1 hjl hcK hbI hokG hbG hnc hcm hcs h2 hm1 hjn hjl2 hx hy hxj hyj hvj hRj hvm hRm hcx hcy hc2 hjm hj1e hb hj
        have BELW : ∀ w2 : World, Below wr.heap.size wr w2 → Below w.heap.size w w2 := fun w2 h_ => below_step HI.out.2.2.2 h_
        cases b with
        | false =>
          have INV2 : ∀ w2 : World, Below wr.heap.size wr w2 → CompA 22 l0 G0 cur w0 w w2 j1 := fun w2 hb2 => by
            obtain ⟨hj1, hjl, hcK, hbI⟩ := HI.out
            obtain ⟨hx, hy, hjn, hj1e, hb, hj⟩ := HX.out
            have h1 : j1.toNat = jn + 1 := by omega
            refine ⟨by omega, by omega, ?_, below_step hbI hb2⟩
            rw [h1, cK_succ, List.range_succ, ← hjn, hcK, hjn, if_pos]
            rw [cKeep, hx, hy, hb]; simp
          have INV3 := Aside0.mk INV2
          have HM := Aside0.mk (show gk - 1 + j1.toNat = l0.length + 1 ∧ gk - 1 < gk from by
            have h1 := HI.out.1
            obtain ⟨hx, hy, hjn, hj1e, hb, hj⟩ := HX.out
            have hkk := HK.out
            omega)
          clear HI HX HK INV2 BELW
          have eg72 := enters_of (P := Try.prog) Try.func72 (by kernel_rfl) rfl
          go_wp2
          go_quiet (first | ((with_reducible refine (slices_Equal_int_int.calls k _ _ x _ _ y _ _ ?side1 ?side2 ?side3 ?side4 HEQ.out).mono ?_); (case side1 => repeat (first | exact HCx.out.2.2 | (with_reducible refine Kd.C_alloc ?_ _) | (with_reducible refine Kd.C_drewN ?_ _) | (with_reducible refine Kd.C_drew ?_))); (case side2 => exact HCx.out.2.1); (case side3 => repeat (first | exact HCy.out.2.2 | (with_reducible refine Kd.C_alloc ?_ _) | (with_reducible refine Kd.C_drewN ?_ _) | (with_reducible refine Kd.C_drew ?_))); (case side4 => exact HCy.out.2.1); rintro e w' ⟨rfl, ⟨nd, rfl⟩⟩; (try first | exact ⟨rfl, _, World.drewN_drewN _ _ _⟩ | exact ⟨rfl, _, Eq.trans (World.drewN_drewN _ _ _) (congrArg (World.drewN _) (Nat.add_assoc _ _ _))⟩)))
          go_wp2
          go_roundg (gk - 1)
          case measure => exact HM.out.2
          case rel => exact ⟨j1, rfl, ⟨HM.out.1⟩, ⟨INV3.out _ (by repeat (first | exact Below.refl _ _ | apply below_alloc | apply pw_below_drewN | apply below_drew1))⟩⟩
        | true =>
          have eg72 := enters_of (P := Try.prog) Try.func72 (by kernel_rfl) rfl
          go_wp2
          go_quiet (first | ((with_reducible refine (slices_Equal_int_int.calls k _ _ x _ _ y _ _ ?side1 ?side2 ?side3 ?side4 HEQ.out).mono ?_); (case side1 => repeat (first | exact HCx.out.2.2 | (with_reducible refine Kd.C_alloc ?_ _) | (with_reducible refine Kd.C_drewN ?_ _) | (with_reducible refine Kd.C_drew ?_))); (case side2 => exact HCx.out.2.1); (case side3 => repeat (first | exact HCy.out.2.2 | (with_reducible refine Kd.C_alloc ?_ _) | (with_reducible refine Kd.C_drewN ?_ _) | (with_reducible refine Kd.C_drew ?_))); (case side4 => exact HCy.out.2.1); rintro e w' ⟨rfl, ⟨nd, rfl⟩⟩; (try first | exact ⟨rfl, _, World.drewN_drewN _ _ _⟩ | exact ⟨rfl, _, Eq.trans (World.drewN_drewN _ _ _) (congrArg (World.drewN _) (Nat.add_assoc _ _ _))⟩)))
          obtain ⟨m, hm⟩ : ∃ m : Nat, j = m := ⟨j.toNat, by have := HI.out.1; omega⟩
          subst hm
          have hml : m < l0.length := by have := HX.out; omega
          have hmc : ¬ c0 = m := by have := HG.out; omega
          have hmc2 : m ≤ c0 := by have := HG.out; omega
          have INVB := Aside0.mk (show ∀ w2 : World, Below wr.heap.size wr w2 → CompB 22 l0 G0 c0 cur w0 w w2 m (m : Int) 1 from fun w2 hb2 => by
            obtain ⟨hj1, hjl, hcK, hbI⟩ := HI.out
            obtain ⟨hx, hy, hjn, hj1e, hb, hj⟩ := HX.out
            have hbI2 : Below w.heap.size w w2 := below_step hbI hb2
            rw [Int.toNat_natCast] at hcK hjn
            have hk1 : cK l0 (m + 1) = List.range m := by
              rw [cK_succ, if_neg, hcK]
              subst hjn
              rw [cKeep, hx, hy, hb]; simp; omega
            refine ⟨by omega, by omega, by omega, by omega, ?_, Kept.of_below hbI2 _, below_step HB.out hbI2, cur, (hbI2.block G0 (blk_lt HCU.out)).trans HCU.out, HG.out.2.2.2.2.1, fun a t hat => ?_, fun _ _ => rfl⟩
            · rw [show (1 : Int).toNat = 1 from rfl, hk1, List.length_range]
            · rw [show (1 : Int).toNat = 1 from rfl, hk1] at hat
              obtain ⟨ha, he⟩ := List.getElem?_eq_some_iff.1 hat
              rw [List.getElem_range] at he
              rw [he])
          clear HI HX HK z1 HO BELW
          go_wp2
          go_loopg [5, 7] l0.length (fun kq v5 v7 w' => ∃ i j : Int, v5 = .int .i64 i ∧ v7 = .int .i64 j ∧ Aside0 (kq + j.toNat = l0.length + 1) ∧ Aside0 (CompB 22 l0 G0 c0 cur w0 w w' m i j))
          case atStart => exact ⟨(m : Int), 1, rfl, rfl, ⟨rfl⟩, ⟨INVB.out _ (by repeat (first | exact Below.refl _ _ | apply below_alloc | apply pw_below_drewN | apply below_drew1))⟩⟩
          case round =>
            clear INVB p1 q1 q1b e1 e2 HCx HCy HEQ p2 q2 z0
            obtain ⟨i, j, rfl, rfl, HK, HI⟩ := hrel
            obtain ⟨hi0, hj1, hjl, hij, hik, hkept, hbel, cur2, hc2, hs2, hk2, ht2⟩ := HI.out
            obtain ⟨hokG, hbG, hnc, hcm, hcs, h2, hm1⟩ := HG.out
            by_cases hj : j < ((l0.length - m : Nat) : Int)
            · obtain ⟨jn, hjn⟩ : ∃ jn : Nat, m + j.toNat = jn := ⟨_, rfl⟩
              have hjl2 : jn < l0.length := by omega
              obtain ⟨x, hx⟩ : ∃ x, l0.getD jn [] = x := ⟨_, rfl⟩
              obtain ⟨y, hy⟩ : ∃ y, l0.getD (jn - 1) [] = y := ⟨_, rfl⟩
              have hxj : l0[jn]? = some x := by rw [← hx, List.getD_eq_getElem?_getD, List.getElem?_eq_getElem hjl2]; rfl
              have hyj : l0[jn - 1]? = some y := by rw [← hy, List.getD_eq_getElem?_getD, List.getElem?_eq_getElem (by omega)]; rfl
              obtain ⟨vj, hvj, hRj⟩ := HRW.out jn x hxj
              obtain ⟨vm, hvm, hRm⟩ := HRW.out (jn - 1) y hyj
              obtain ⟨Aj, cj, hvs⟩ := Kd.R_slice hRj
              subst hvs
              obtain ⟨Am, cm, hvs⟩ := Kd.R_slice hRm
              subst hvs
              have hcx := Kd.R_reads' (Kd.R_kept hRj hkept (fun k hk => hk.1.2))
              have hcy := Kd.R_reads' (Kd.R_kept hRm hkept (fun k hk => hk.1.2))
              obtain ⟨jm, hjm⟩ : ∃ jm : Int, jm = j - 1 := ⟨_, rfl⟩
              have z0 : IntKind.i64.wrap (j - 1) = jm := by rw [hjm]; exact (i64_w _).trans (IntWalk.wrap64_in _ (by omega))
              obtain ⟨j1, hj1e⟩ : ∃ j1 : Int, j1 = j + 1 := ⟨_, rfl⟩
              have z1 : IntKind.i64.wrap (j + 1) = j1 := by rw [hj1e]; exact (i64_w _).trans (IntWalk.wrap64_in _ (by omega))
              obtain ⟨i1, hi1e⟩ : ∃ i1 : Int, i1 = i + 1 := ⟨_, rfl⟩
              have z2 : IntKind.i64.wrap (i + 1) = i1 := by rw [hi1e]; exact (i64_w _).trans (IntWalk.wrap64_in _ (by omega))
              have e1 : wr.cell? ⟨G0, m + j.toNat, none⟩ = some (.slice Aj x.length cj) := (blk_cell hc2 _).trans ((ht2 _ (by omega)).trans (by rw [hjn]; exact hvj))
              have e2 : wr.cell? ⟨G0, m + jm.toNat, none⟩ = some (.slice Am y.length cm) := (blk_cell hc2 _).trans ((ht2 _ (by omega)).trans (by rw [show m + jm.toNat = jn - 1 by omega]; exact hvm))
              have p1 : (0 ≤ j) = True := eq_true (by omega)
              have q1 : (j < ((l0.length - m : Nat) : Int)) = True := eq_true hj
              have q1b : decide (j < ((l0.length - m : Nat) : Int)) = true := decide_eq_true hj
              have p2 : (0 ≤ jm) = True := eq_true (by omega)
              have q2 : (jm < ((l0.length - m : Nat) : Int)) = True := eq_true (by omega)
              have p3 : (0 ≤ i) = True := eq_true hi0
              have q3 : (i < (l0.length : Int)) = True := eq_true (by omega)
              obtain ⟨b, hb⟩ : ∃ b, decide (x = y) = b := ⟨_, rfl⟩
              have HEQ := Aside0.mk (show slices_Equal_int_int.f k x y = some b from (HC.out x (List.mem_of_getElem? hxj) y (List.mem_of_getElem? hyj)).trans (by rw [hb]))
              have HX := Aside0.mk (And.intro hx (And.intro hy (And.intro hjn (And.intro hj1e (And.intro hi1e (And.intro hb (And.intro hj hvj)))))))
              have HCx := Aside0.mk hcx
              have HCy := Aside0.mk hcy
              clear hi0 hj1 hjl hij hik hkept hbel hc2 hs2 hk2 ht2 hokG hbG hnc hcm hcs h2 hm1 hjn hjl2 hx hy hxj hyj hvj hRj hvm hRm hcx hcy hjm hj1e hi1e hb hj
              obtain ⟨hi0, hj1, hjl, hij, hik, hkept, hbel, cur2, hc2, hs2, hk2, ht2⟩ := HI.out
              obtain ⟨hokG, hbG, hnc, hcm, hcs, h2, hm1⟩ := HG.out
              obtain ⟨hx, hy, hjn, hj1e, hi1e, hb, hj, hvj⟩ := HX.out
              have hjn1 : m + j1.toNat = jn + 1 := by omega
              have hjn0 : jn ≠ 0 := by omega
              have HM := Aside0.mk (show gk - 1 + j1.toNat = l0.length + 1 ∧ gk - 1 < gk from by have := HK.out; omega)
              cases b with
              | true =>
                have INV2 := Aside0.mk (show ∀ w2 : World, Below wr.heap.size wr w2 → CompB 22 l0 G0 c0 cur w0 w w2 m i j1 from fun w2 hb2 => by
                  have hc3 : w2.heap[G0]? = some (.cells cur2 22 (0, 0)) := (hb2.block G0 (blk_lt hc2)).trans hc2
                  have hkept3 : Kept w w2 (fun k => k = G0) := hkept.below hb2
                  have hbel3 : Below w0.heap.size w0 w2 := below_step hbel hb2
                  have hke : cK l0 (m + j1.toNat) = cK l0 (m + j.toNat) := by
                    rw [hjn1, hjn, cK_succ, if_neg]
                    rw [cKeep, hx, hy, hb]; simp [hjn0]
                  refine ⟨hi0, by omega, by omega, by omega, by rw [hke]; exact hik, hkept3, hbel3, cur2, hc3, hs2, by rw [hke]; exact hk2, fun t ht => ht2 t (by omega)⟩)
                clear hi0 hj1 hjl hij hik hkept hbel hc2 hs2 hk2 ht2 hokG hbG hnc hcm hcs h2 hm1 hx hy hjn hj1e hi1e hb hj hvj hjn1 hjn0 HI HK HX
                have eg72 := enters_of (P := Try.prog) Try.func72 (by kernel_rfl) rfl
                go_wp2
                go_quiet (first | ((with_reducible refine (slices_Equal_int_int.calls k _ _ x _ _ y _ _ ?side1 ?side2 ?side3 ?side4 HEQ.out).mono ?_); (case side1 => repeat (first | exact HCx.out.2.2 | (with_reducible refine Kd.C_alloc ?_ _) | (with_reducible refine Kd.C_drewN ?_ _) | (with_reducible refine Kd.C_drew ?_))); (case side2 => exact HCx.out.2.1); (case side3 => repeat (first | exact HCy.out.2.2 | (with_reducible refine Kd.C_alloc ?_ _) | (with_reducible refine Kd.C_drewN ?_ _) | (with_reducible refine Kd.C_drew ?_))); (case side4 => exact HCy.out.2.1); rintro e w' ⟨rfl, ⟨nd, rfl⟩⟩; (try first | exact ⟨rfl, _, World.drewN_drewN _ _ _⟩ | exact ⟨rfl, _, Eq.trans (World.drewN_drewN _ _ _) (congrArg (World.drewN _) (Nat.add_assoc _ _ _))⟩)))
                go_wp2
                go_roundg (gk - 1)
                case measure => exact HM.out.2
                case rel => exact ⟨i, j1, rfl, rfl, ⟨HM.out.1⟩, ⟨INV2.out _ (by repeat (first | exact Below.refl _ _ | apply below_alloc | apply pw_below_drewN | apply below_drew1))⟩⟩
              | false =>
                obtain ⟨vi, hvi⟩ : ∃ vi, cur2[i.toNat]? = some vi := ⟨_, Array.getElem?_eq_getElem (by omega)⟩
                have e3 : wr.cell? ⟨G0, i.toNat, none⟩ = some vi := (blk_cell hc2 _).trans hvi
                have f3 : wr.frozen? ⟨G0, i.toNat, none⟩ = false := blk_frozen hc2 _
                have INV2 := Aside0.mk (show ∀ w2 : World, Below wr.heap.size wr w2 → CompB 22 l0 G0 c0 cur w0 w (w2.setCell ⟨G0, i.toNat, none⟩ (.slice Aj x.length cj)) m i1 j1 from fun w2 hb2 => by
                  have hc3 : w2.heap[G0]? = some (.cells cur2 22 (0, 0)) := (hb2.block G0 (blk_lt hc2)).trans hc2
                  have hkept3 : Kept w w2 (fun k => k = G0) := hkept.below hb2
                  have hbel3 : Below w0.heap.size w0 w2 := below_step hbel hb2
                  have hke : cK l0 (m + j1.toNat) = cK l0 (m + j.toNat) ++ [jn] := by
                    rw [hjn1, hjn, cK_succ, if_pos]
                    rw [cKeep, hx, hy, hb]; simp
                  refine ⟨by omega, by omega, by omega, by omega, by rw [hke, List.length_append, List.length_singleton]; omega, hkept3.setCell (.inl rfl) _, hbel3.setCell hbG _, cur2.setIfInBounds i.toNat (.slice Aj x.length cj), blk_put hc3 i.toNat _ rfl, by simpa using hs2, fun a t hat => ?_, fun t ht => ?_⟩
                  · rw [hke] at hat
                    rw [Array.getElem?_setIfInBounds]
                    by_cases hai : i.toNat = a
                    · rw [if_pos hai, if_pos (by omega)]
                      have : t = jn := by
                        rw [← hai, hik, Int.toNat_natCast, List.getElem?_append_right (Nat.le_refl _), Nat.sub_self] at hat
                        simpa using hat.symm
                      rw [this]
                      exact hvj.symm
                    · rw [if_neg hai]
                      refine hk2 a t ?_
                      rw [List.getElem?_append_left] at hat
                      · exact hat
                      · have := (List.getElem?_eq_some_iff.1 hat).1
                        rw [List.length_append, List.length_singleton] at this
                        omega
                  · rw [Array.getElem?_setIfInBounds, if_neg (by omega)]
                    exact ht2 t (by omega))
                clear hi0 hj1 hjl hij hik hkept hbel hc2 hs2 hk2 ht2 hokG hbG hnc hcm hcs h2 hm1 hx hy hjn hj1e hi1e hb hj hvj hjn1 hjn0 HI HK HX hvi
                have eg72 := enters_of (P := Try.prog) Try.func72 (by kernel_rfl) rfl
                go_wp2
                go_quiet (first | ((with_reducible refine (slices_Equal_int_int.calls k _ _ x _ _ y _ _ ?side1 ?side2 ?side3 ?side4 HEQ.out).mono ?_); (case side1 => repeat (first | exact HCx.out.2.2 | (with_reducible refine Kd.C_alloc ?_ _) | (with_reducible refine Kd.C_drewN ?_ _) | (with_reducible refine Kd.C_drew ?_))); (case side2 => exact HCx.out.2.1); (case side3 => repeat (first | exact HCy.out.2.2 | (with_reducible refine Kd.C_alloc ?_ _) | (with_reducible refine Kd.C_drewN ?_ _) | (with_reducible refine Kd.C_drew ?_))); (case side4 => exact HCy.out.2.1); rintro e w' ⟨rfl, ⟨nd, rfl⟩⟩; (try first | exact ⟨rfl, _, World.drewN_drewN _ _ _⟩ | exact ⟨rfl, _, Eq.trans (World.drewN_drewN _ _ _) (congrArg (World.drewN _) (Nat.add_assoc _ _ _))⟩)))
                go_wp2
                go_roundg (gk - 1)
                case measure => exact HM.out.2
                case rel => exact ⟨i1, j1, rfl, rfl, ⟨HM.out.1⟩, ⟨INV2.out _ (by repeat (first | exact Below.refl _ _ | apply below_alloc | apply pw_below_drewN | apply below_drew1))⟩⟩
            · have q1b : decide (j < ((l0.length - m : Nat) : Int)) = false := decide_eq_false hj
              have hje : m + j.toNat = l0.length := by omega
              obtain ⟨n, hn⟩ : ∃ n : Nat, i = n := ⟨i.toNat, by omega⟩
              subst hn
              have hnl : n < l0.length := by omega
              have hnc2 : ¬ c0 = n := by omega
              have hnc3 : n ≤ c0 := by omega
              have hnk : n = (cK l0 l0.length).length := by rw [hje] at hik; omega
              have hcl : ∀ ty, (Builtin.clear_ #[41] ty #[.slice (some ⟨G0, n, none⟩) (l0.length - n) (c0 - n)]).run Try.prog wr = .ok (.tuple #[]) (wr.setCells G0 n (List.replicate (l0.length - n) (.slice none 0 0))) :=
                fun ty => Go.Lib.run_clear_slice wr 41 22 ty (.slice none 0 0) Try.underlying41 Try.zeroValue22 rfl rfl G0 n _ _ (by omega) (fun t ht => by rw [blk_cell hc2, Array.getElem?_eq_getElem (by omega)]; rfl) (fun t ht => blk_frozen hc2 _)
              rw [hje] at hk2
              have HZ := Aside0.mk (And.intro hkept (And.intro hbel (And.intro hc2 (And.intro hs2 (And.intro hk2 hnk)))))
              clear HK hi0 hj1 hjl hij hik hkept hbel hc2 hs2 hk2 ht2 hokG hbG hnc hcm hcs h2 hm1 hje hnk HI HC hj
              go_wp2
              go_ret
              obtain ⟨hkept, hbel, hc2, hs2, hk2, hnk⟩ := HZ.out
              obtain ⟨hokG, hbG, hnc, hcm, hcs, h2, hm1⟩ := HG.out
              have hrl : (List.replicate (l0.length - n) (Value.slice none 0 0)).length = l0.length - n := List.length_replicate
              obtain ⟨cur3, hc3, hs3, h3⟩ : ∃ cur3 : Array Value, (wr.setCells G0 n (List.replicate (l0.length - n) (.slice none 0 0))).heap[G0]? = some (.cells cur3 22 (0, 0)) ∧ cur3.size = c0 ∧ ∀ t : Nat, t < n → cur3[t]? = cur2[t]? := by
                obtain ⟨c3, h1, h2, h3⟩ := setCells_row (List.replicate (l0.length - n) (.slice none 0 0)) n wr cur2 hc2 (by rw [hrl]; omega)
                refine ⟨c3, h1, h2.trans hs2, fun t ht => ?_⟩
                rw [← Array.getElem?_toList, ← Array.getElem?_toList, h3, List.append_assoc, List.getElem?_append_left (by rw [List.length_take, Array.length_toList]; omega), List.getElem?_take, if_pos ht]
              have hkept3 : Kept w (wr.setCells G0 n (List.replicate (l0.length - n) (.slice none 0 0))) (fun k => k = G0) := hkept.then_ (S2 := fun k => k = G0) ⟨by rw [(setCells_same _ _ _ _).2.2.2]; exact Nat.le_refl _, fun i _ hn => setCells_far _ _ i hn⟩ (fun k hk => .inl hk)
              refine ⟨_, rfl, ?_, ?_, hkept3.mono (fun k hk => by subst hk; exact hokG)⟩
              · have hS := Kd.S_pick (z := []) (cK_nodup l0 l0.length) hokG hbG hcm HRW.out hkept3 hc3 hs3 (by omega) (fun m2 t hmt => ⟨cK_lt (List.mem_of_getElem? hmt), (h3 m2 (by rw [hnk]; exact (List.getElem?_eq_some_iff.1 hmt).1)).trans (hk2 m2 t hmt)⟩)
                rw [← hnk] at hS
                exact hS
              · obtain ⟨s1, s2, s3, s4⟩ := setCells_same G0 (List.replicate (l0.length - n) (.slice none 0 0)) n wr
                exact ⟨s1.trans hbel.os, s2.trans hbel.tape, s3.trans hbel.output, by rw [s4]; exact hbel.size, fun k hk => (setCells_far _ _ k (by omega)).trans (hbel.block k hk)⟩
      · have q1b : decide (j < (l0.length : Int)) = false := decide_eq_false hj
        have hje : j.toNat = l0.length := by omega
        rw [hje] at hcK
        have HZ := Aside0.mk (And.intro hcK hbI)
        clear HK hj1 hjl hcK hbI hokG hbG hnc hcm hcs h2 hm1 hj hje HI
        go_wp2
        go_ret
        rw [compL_range HZ.out.1]
        exact ⟨_, rfl, Kd.S_below HO.out HZ.out.2, below_step HB.out HZ.out.2, Kept.of_below HZ.out.2 _⟩

/-! ### impl_tidied: function 75 -/
def tidyOk (k : Nat) (l : List (List Int)) : Bool := l.all fun x => l.all fun y => (impl_compareOrders.f k x y == some (cmpO x y)) && (slices_Equal_int_int.f k x y == some (decide (x = y)))
theorem tidyOk_iff (k : Nat) (l : List (List Int)) : tidyOk k l = true ↔ ∀ x ∈ l, ∀ y ∈ l, impl_compareOrders.f k x y = some (cmpO x y) ∧ slices_Equal_int_int.f k x y = some (decide (x = y)) := by
  simp only [tidyOk, List.all_eq_true, Bool.and_eq_true, beq_iff_eq]
def impl_tidied.f (k : Nat) (l0 : List (List Int)) : Option (List (List Int)) := if 0 < l0.length ∧ l0.length ≤ 1000000 ∧ tidyOk k l0 = true then some (compL (sortL l0)) else none
theorem impl_tidied.mono : ∀ a0 k, LeO (impl_tidied.f k a0) (impl_tidied.f (k + 1) a0) := by
  intro l k r h
  unfold impl_tidied.f at h ⊢
  by_cases hc : 0 < l.length ∧ l.length ≤ 1000000 ∧ tidyOk k l = true
  · rw [if_pos hc] at h
    rw [if_pos ⟨hc.1, hc.2.1, (tidyOk_iff _ _).2 fun x hx y hy => by
      obtain ⟨h1, h2⟩ := (tidyOk_iff _ _).1 hc.2.2 x hx y hy
      exact ⟨impl_compareOrders.mono x y k _ h1, slices_Equal_int_int.mono x y k _ h2⟩⟩]
    exact h
  · rw [if_neg hc] at h; cases h
set_option maxHeartbeats 8000000 in
set_option maxRecDepth 100000 in
theorem impl_tidied.calls (k : Nat) (P0_ : Nat → Prop) (u9000_ : Value) (l0 : List (List Int)) (r : List (List Int)) (w0 w : World) (hB : Below w0.heap.size w0 w) (ho0 : Kd.S (Kd.slice 3 (Kd.int .i64)) 22 w w0.heap.size P0_ u9000_ l0) (h : impl_tidied.f k l0 = some r) :
    Calls Try.prog 75 #[u9000_] w fun e w' => ∃ v0_ : Value, e = .returned (v0_) ∧ Kd.S (Kd.slice 3 (Kd.int .i64)) 22 w' w0.heap.size (fun k_ => (P0_ k_ ∨ w.heap.size ≤ k_)) v0_ r ∧ Below w0.heap.size w0 w' ∧ Kept w w' (fun k_ => P0_ k_) := by
  unfold impl_tidied.f at h
  by_cases hc : 0 < l0.length ∧ l0.length ≤ 1000000 ∧ tidyOk k l0 = true
  case neg => rw [if_neg hc] at h; cases h
  rw [if_pos hc] at h
  obtain rfl := Option.some.inj h
  clear h
  have HK := Aside0.mk ((tidyOk_iff _ _).1 hc.2.2)
  have HP := Aside0.mk (And.intro hc.1 hc.2.1)
  have HB := Aside0.mk hB
  have HO := Aside0.mk ho0
  clear hc hB ho0
  go_enter Try.func75, Try.ntmps75
  (repeat ((fail_if_success (with_reducible refine gate_dst (N := 4) rfl ?_)); first | go_values | go_skip | go_guarded | go_step | go_upon))
  refine goesL_ (some 4) rfl rfl Try.func106 (by kernel_rfl) rfl #[u9000_, .func (.func 107) #[] #[]] rfl (by (try simp only [List.map_toArray, List.map_cons, List.map_nil]); first | done | rfl) ?_
  refine (slices_SortFunc_int_int.calls k P0_ u9000_ l0 w0 w HB.out HO.out HP.out.1 HP.out.2 (fun x hx y hy => (HK.out x hx y hy).1)).mono ?_
  rintro e w1 ⟨rfl, hS, hb, hk⟩
  refine ⟨_, rfl, ?_⟩
  have HS1 := Aside0.mk hS
  have HB1 := Aside0.mk hb
  have HK1 := Aside0.mk hk
  clear hS hb hk HO HB HP
  (repeat ((fail_if_success (with_reducible refine gate_dst (N := 6) rfl ?_)); first | go_values | go_skip | go_guarded | go_step | go_upon))
  refine goesL_ (some 6) rfl rfl Try.func108 (by kernel_rfl) rfl #[u9000_, .func (.func 72) #[] #[]] rfl (by (try simp only [List.map_toArray, List.map_cons, List.map_nil]); first | done | rfl) ?_
  refine (slices_CompactFunc_int_int.calls k P0_ u9000_ (sortL l0) w0 w1 HB1.out HS1.out (fun x hx y hy => (HK.out x ((sortL_perm l0).mem_iff.1 hx) y ((sortL_perm l0).mem_iff.1 hy)).2)).mono ?_
  rintro e w2 ⟨v2, rfl, hS, hb, hk⟩
  refine ⟨_, rfl, ?_⟩
  have HS2 := Aside0.mk hS
  have HB2 := Aside0.mk hb
  have HK2 := Aside0.mk (HK1.out.then_ hk (fun _ h_ => .inl h_))
  clear hS hb hk HS1 HB1 HK1 HK
  go_wp2
  go_ret
  exact ⟨_, rfl, Kd.S_mono HS2.out (fun _ h_ => .inl h_), HB2.out, HK2.out⟩

/-! ### impl_CountTwoCuts: function 41 -/
mutual
def impl_CountTwoCuts.l0 : Nat → List Int → List (List Int) → List (List Int) → List (List Int) → Int → Int → Option (Int × Bool)
  | 0, _, _, _, _, _, _ => none
  | k + 1, x0, x4, x5, x17, x18, x19 => if x19 < x18 then (if 0 ≤ x19 then (if x19 < (x17.length : Int) then (impl_CountTwoCuts.l1 k x0 x4 x5 (rd_L2 x17 x19) x17 x18 x19 x5 (x5.length : Int) 0) else (none)) else (none)) else ((impl_tidied.f k x4).bind fun t236 => (some ((t236.length : Int), true)))
def impl_CountTwoCuts.l1 : Nat → List Int → List (List Int) → List (List Int) → List Int → List (List Int) → Int → Int → List (List Int) → Int → Int → Option (Int × Bool)
  | 0, _, _, _, _, _, _, _, _, _, _ => none
  | k + 1, x0, x4, x5, x7, x17, x18, x19, x23, x24, x25 => if x25 < x24 then (if 0 ≤ x25 then (if x25 < (x23.length : Int) then ((impl_runCuts.f k x0 x7).bind fun t241 => ((impl_runCuts.f k t241 (rd_L2 x23 x25)).bind fun t244 => (if x4.length < 5864062014805 then (impl_CountTwoCuts.l1 k x0 (x4 ++ [t244]) x5 x7 x17 x18 x19 x23 x24 (wrap64 (x25 + 1))) else (none)))) else (none)) else (none)) else (impl_CountTwoCuts.l0 k x0 x4 x5 x17 x18 (wrap64 (x19 + 1)))
end
def impl_CountTwoCuts.f (k : Nat) (l0 : List Int) : Option (Int × Bool) := (impl_isOrder.f k l0).bind fun t229 => (if t229 = true then ((impl_allCuts.f k (l0.length : Int)).bind fun t233 => (impl_CountTwoCuts.l0 k l0 (([] : List (List Int))) t233 t233 (t233.length : Int) 0)) else (some (0, false)))
theorem impl_CountTwoCuts.mono_l : ∀ k, (∀ y0 y1 y2 y3 y4 y5, LeO (impl_CountTwoCuts.l0 k y0 y1 y2 y3 y4 y5) (impl_CountTwoCuts.l0 (k + 1) y0 y1 y2 y3 y4 y5)) ∧ (∀ y0 y1 y2 y3 y4 y5 y6 y7 y8 y9, LeO (impl_CountTwoCuts.l1 k y0 y1 y2 y3 y4 y5 y6 y7 y8 y9) (impl_CountTwoCuts.l1 (k + 1) y0 y1 y2 y3 y4 y5 y6 y7 y8 y9))
  | 0 => ⟨fun _ _ _ _ _ _ r h => by simp [impl_CountTwoCuts.l0] at h, fun _ _ _ _ _ _ _ _ _ _ r h => by simp [impl_CountTwoCuts.l1] at h⟩
  | k + 1 => by
    obtain ⟨ih0, ih1⟩ := impl_CountTwoCuts.mono_l k
    refine ⟨?_, ?_⟩
    · intro y0 y1 y2 y3 y4 y5
      unfold impl_CountTwoCuts.l0
      repeat' first
      | (with_reducible exact ih0 _ _ _ _ _ _)
      | (with_reducible exact ih1 _ _ _ _ _ _ _ _ _ _)
      | (with_reducible exact impl_allCuts.mono _ _)
      | (with_reducible exact impl_isOrder.mono _ _)
      | (with_reducible exact impl_runCuts.mono _ _ _)
      | (with_reducible exact impl_tidied.mono _ _)
      | (with_reducible exact LeO.refl _)
      | (with_reducible exact LeO.none _)
      | (with_reducible refine LeO.ite ?_ ?_)
      | (with_reducible refine LeO.bind ?_ (fun _ => ?_))
      | exact ih0 _ _ _ _ _ _
      | exact ih1 _ _ _ _ _ _ _ _ _ _
      | exact impl_allCuts.mono _ _
      | exact impl_isOrder.mono _ _
      | exact impl_runCuts.mono _ _ _
      | exact impl_tidied.mono _ _
      | exact LeO.none _
      | refine LeO.ite ?_ ?_
      | refine LeO.bind ?_ (fun _ => ?_)
    · intro y0 y1 y2 y3 y4 y5 y6 y7 y8 y9
      unfold impl_CountTwoCuts.l1
      repeat' first
      | (with_reducible exact ih0 _ _ _ _ _ _)
      | (with_reducible exact ih1 _ _ _ _ _ _ _ _ _ _)
      | (with_reducible exact impl_allCuts.mono _ _)
      | (with_reducible exact impl_isOrder.mono _ _)
      | (with_reducible exact impl_runCuts.mono _ _ _)
      | (with_reducible exact impl_tidied.mono _ _)
      | (with_reducible exact LeO.refl _)
      | (with_reducible exact LeO.none _)
      | (with_reducible refine LeO.ite ?_ ?_)
      | (with_reducible refine LeO.bind ?_ (fun _ => ?_))
      | exact ih0 _ _ _ _ _ _
      | exact ih1 _ _ _ _ _ _ _ _ _ _
      | exact impl_allCuts.mono _ _
      | exact impl_isOrder.mono _ _
      | exact impl_runCuts.mono _ _ _
      | exact impl_tidied.mono _ _
      | exact LeO.none _
      | refine LeO.ite ?_ ?_
      | refine LeO.bind ?_ (fun _ => ?_)
theorem impl_CountTwoCuts.mono : ∀ a0 k, LeO (impl_CountTwoCuts.f k a0) (impl_CountTwoCuts.f (k + 1) a0) := by
  intro a0 k
  obtain ⟨ih0, ih1⟩ := impl_CountTwoCuts.mono_l k
  unfold impl_CountTwoCuts.f
  repeat' first
      | (with_reducible exact ih0 _ _ _ _ _ _)
      | (with_reducible exact ih1 _ _ _ _ _ _ _ _ _ _)
      | (with_reducible exact impl_allCuts.mono _ _)
      | (with_reducible exact impl_isOrder.mono _ _)
      | (with_reducible exact impl_runCuts.mono _ _ _)
      | (with_reducible exact impl_tidied.mono _ _)
      | (with_reducible exact LeO.refl _)
      | (with_reducible exact LeO.none _)
      | (with_reducible refine LeO.ite ?_ ?_)
      | (with_reducible refine LeO.bind ?_ (fun _ => ?_))
      | exact ih0 _ _ _ _ _ _
      | exact ih1 _ _ _ _ _ _ _ _ _ _
      | exact impl_allCuts.mono _ _
      | exact impl_isOrder.mono _ _
      | exact impl_runCuts.mono _ _ _
      | exact impl_tidied.mono _ _
      | exact LeO.none _
      | refine LeO.ite ?_ ?_
      | refine LeO.bind ?_ (fun _ => ?_)
set_option maxHeartbeats 8000000 in
set_option maxRecDepth 100000 in
theorem impl_CountTwoCuts.calls (k : Nat) (A0 : Option Addr) (c0 : Nat) (l0 : List Int) (r1 : Int) (r2 : Bool) (w : World) (hr0 : Kd.C (Kd.int .i64) w A0 l0.length l0) (hc0 : l0.length ≤ c0) (h : impl_CountTwoCuts.f k l0 = some (r1, r2)) :
    Calls Try.prog 41 #[.slice A0 l0.length c0] w fun e w' => e = .returned (.tuple #[.int .i64 r1, .bool r2]) ∧ Below w.heap.size w w' := by
  have HR0 := Aside0.mk hr0
  have HC0 := Aside0.mk hc0
  clear hr0 hc0
  have HB := Aside0.mk (Below.refl w.heap.size w)
  have H : ((impl_isOrder.f k l0).bind fun t229 => (if t229 = true then ((impl_allCuts.f k (l0.length : Int)).bind fun t233 => (impl_CountTwoCuts.l0 k l0 (([] : List (List Int))) t233 t233 (t233.length : Int) 0)) else (some (0, false)))) = some (r1, r2) := h
  clear h
  replace H := Option.bind_eq_some_iff.mp H
  obtain ⟨t229, A20, H⟩ := H
  replace H : (if t229 = true then ((impl_allCuts.f k (l0.length : Int)).bind fun t233 => (impl_CountTwoCuts.l0 k l0 (([] : List (List Int))) t233 t233 (t233.length : Int) 0)) else (some (0, false))) = some (r1, r2) := H
  have A2 := Aside0.mk A20
  clear A20
  by_cases c3 : t229 = true
  · subst c3
    have H1 : ((impl_allCuts.f k (l0.length : Int)).bind fun t233 => (impl_CountTwoCuts.l0 k l0 (([] : List (List Int))) t233 t233 (t233.length : Int) 0)) = some (r1, r2) := by rw [if_pos rfl] at H; exact H
    clear H
    have H := H1
    clear H1
    obtain ⟨y230, hy230⟩ : ∃ y_ : List (List Int), y_ = (([] : List (List Int))) := ⟨_, rfl⟩
    replace H : ((impl_allCuts.f k (l0.length : Int)).bind fun t233 => (impl_CountTwoCuts.l0 k l0 y230 t233 t233 (t233.length : Int) 0)) = some (r1, r2) := by first | (rw [hy230]; with_reducible exact H) | (have H2_ := (Option.bind_some _ _).symm.trans H; rw [hy230]; with_reducible exact H2_) | (have H2_ := (Option.bind_some _ _).symm.trans H; with_reducible exact H2_) | with_reducible exact H | (rw [hy230]; exact H) | exact H
    have Ny230 := Aside0.mk hy230
    clear hy230
    replace H := Option.bind_eq_some_iff.mp H
    obtain ⟨t233, A40, H⟩ := H
    replace H : (impl_CountTwoCuts.l0 k l0 y230 t233 t233 (t233.length : Int) 0) = some (r1, r2) := H
    have A4 := Aside0.mk A40
    clear A40
    have H' := Aside0.mk H
    clear H
    go_enter Try.func41, Try.ntmps41
    go_wp2_with (first | ((with_reducible refine gate_callee (f := 50) rfl ?_); refine goesL_ (some 11) rfl rfl Try.func50 (by kernel_rfl) rfl #[.slice A0 l0.length c0] rfl (by (try simp only [List.map_toArray, List.map_cons, List.map_nil]); first | done | rfl | (simp only [List.length_drop, List.length_take]; rfl)) ?_; (with_reducible refine (impl_isOrder.calls k _ _ l0 true _ ?side1 ?side2 A2.out).mono ?_); (case side1 => repeat (first | exact HR0.out | (with_reducible refine Kd.C_alloc ?_ _) | (with_reducible refine Kd.C_drewN ?_ _) | (with_reducible refine Kd.C_drew ?_))); (case side2 => exact HC0.out); rintro e w' ⟨rfl, ⟨nd, rfl⟩⟩; refine ⟨_, rfl, ?_⟩) | ((with_reducible refine gate_dst (N := 13) rfl ?_); refine Kd.S_lit (Kd.slice 3 (Kd.int .i64)) _ 22 ?hg (N := 13) ?hd (xs := ([] : List (List Int))) (inner := []) (ok := fun _ => True) (okp := fun _ => True) ?hr ?hp (fun _ hk => hk) trivial (Below.refl _ _) (Nat.le_refl _) (by simp) ?_; (case hd => rfl); (case hg => rfl); (case hr => first | (go_simp; done) | (go_simp; rfl)); (case hp => exact (Reps.none _ _)); intro v231 w5 ho6 hb hg_ hnew_; clear hg_ hnew_; (first | rw [← Ny230.out] at ho6 | (simp only [Int.reduceToNat] at ho6; rw [← Ny230.out] at ho6)); have n0_ := Aside0.mk (Kd.S_lower ho6 (below_size (by repeat (first | (with_reducible first | exact HB.out | apply below_alloc | apply pw_below_drewN | apply below_drew1) | exact HB.out)))); have n1_ := Aside0.mk (below_step (by repeat (first | (with_reducible first | exact HB.out | apply below_alloc | apply pw_below_drewN | apply below_drew1) | exact HB.out)) hb); clear HB; have HO232 := n0_; have HB := n1_; clear n0_ n1_; clear hb ho6) | ((with_reducible refine gate_callee (f := 63) rfl ?_); refine goesL_ (some 16) rfl rfl Try.func63 (by kernel_rfl) rfl #[.int .i64 (l0.length : Int)] rfl (by (try simp only [List.map_toArray, List.map_cons, List.map_nil]); first | done | rfl | (simp only [List.length_drop, List.length_take]; rfl)) ?_; (with_reducible refine (impl_allCuts.calls k (l0.length : Int) t233 _ A4.out).mono ?_); rintro e w7 ⟨v234, rfl, ho0, hb⟩; refine ⟨_, rfl, ?_⟩; have n0_ := Aside0.mk (Kd.S_elder' (by (with_reducible repeat (first | apply Kd.S_alloc | apply Kd.S_drewN | apply Kd.S_drew)); exact HO232.out) (Kd.S_base ho0) hb); have n1_ := Aside0.mk (Kd.S_lower (Kd.S_new' ho0 (Kd.S_lt (by (with_reducible repeat (first | apply Kd.S_alloc | apply Kd.S_drewN | apply Kd.S_drew)); exact HO232.out))) (below_size (by repeat (first | (with_reducible first | exact HB.out | apply below_alloc | apply pw_below_drewN | apply below_drew1) | exact HB.out)))); have n2_ := Aside0.mk (below_step (by repeat (first | (with_reducible first | exact HB.out | apply below_alloc | apply pw_below_drewN | apply below_drew1) | exact HB.out)) hb); clear HO232; clear HB; have HO232 := n0_; have HO235 := n1_; have HB := n2_; clear n0_ n1_ n2_; (try clear hb); (try clear hb2); (try clear hk); (try clear hi); (try clear ho0); obtain ⟨Ao8, co8, eo8⟩ := Kd.S_slice HO235.out; subst eo8))
    go_loopg [4, 19] k (fun kq v4 v19 w' => ∃ (x4_1 : List (List Int)) (x19_1 : Int), v19 = .int .i64 x19_1 ∧ Aside0 (impl_CountTwoCuts.l0 kq l0 x4_1 t233 t233 (t233.length : Int) x19_1 = some (r1, r2)) ∧ Aside0 (kq ≤ k) ∧ Aside0 (Kd.S (Kd.slice 3 (Kd.int .i64)) 22 w' w.heap.size (fun k_ => some k_ ≠ ((.slice Ao8 t233.length co8) : Value).ownBlock ∧ some k_ ≠ ((.slice Ao8 t233.length co8) : Value).ownBlock) v4 x4_1) ∧ Aside0 (Kd.S (Kd.slice 3 (Kd.int .i64)) 22 w' w.heap.size (fun k_ => some k_ ≠ (v4 : Value).ownBlock) (.slice Ao8 t233.length co8) t233) ∧ Aside0 (Kd.S (Kd.slice 3 (Kd.int .i64)) 22 w' w.heap.size (fun k_ => some k_ ≠ (v4 : Value).ownBlock) (.slice Ao8 t233.length co8) t233) ∧ Aside0 (Below w.heap.size w w'))
    case atStart => exact ⟨(y230), (0), (by first | rfl | (simp; done) | (simp [*]; done)), H', ⟨Nat.le_refl _⟩, ⟨by (with_reducible repeat (first | apply Kd.S_alloc | apply Kd.S_drewN | apply Kd.S_drew)); exact Kd.S_mono HO232.out (fun _ hk => by first | exact ⟨hk.2, hk.2⟩ | (simp only [own_map, ne_eq] at hk ⊢; simp only [hk, and_self, not_false_eq_true]; done) | (simp only [own_map, ne_eq] at hk ⊢; simp [hk]; done))⟩, ⟨by (with_reducible repeat (first | apply Kd.S_alloc | apply Kd.S_drewN | apply Kd.S_drew)); exact Kd.S_mono HO235.out (fun _ hk => hk.2)⟩, ⟨by (with_reducible repeat (first | apply Kd.S_alloc | apply Kd.S_drewN | apply Kd.S_drew)); exact Kd.S_mono HO235.out (fun _ hk => hk.2)⟩, ⟨by repeat (first | (with_reducible first | exact HB.out | apply below_alloc | apply pw_below_drewN | apply below_drew1) | exact HB.out)⟩⟩
    case round =>
      clear H'
      try clear p2
      try clear c3
      try clear c4
      try clear c5
      try clear c6
      obtain ⟨x4_1, x19_1, rfl, HA, HK1, HO_4, HO_5, HO_17, HB⟩ := hrel
      cases gk with
      | zero => exact absurd HA.out (by simp [impl_CountTwoCuts.l0])
      | succ k1 =>
        have H := HA.out
        clear HA
        simp only [impl_CountTwoCuts.l0] at H
        by_cases c9 : x19_1 < (t233.length : Int)
        · rw [if_pos c9] at H
          have c9b0 : decide (x19_1 < (t233.length : Int)) = true := decide_eq_true c9
          clear c9
          by_cases c10 : 0 ≤ x19_1
          · rw [if_pos c10] at H
            have c10b0 : decide (0 ≤ x19_1) = true := decide_eq_true c10
            clear c10
            by_cases c11 : x19_1 < (t233.length : Int)
            · rw [if_pos c11] at H
              have c11b0 : decide (x19_1 < (t233.length : Int)) = true := decide_eq_true c11
              clear c11
              have H' := Aside0.mk H
              clear H
              have p239 : 0 ≤ (x19_1 : Int) := of_decide_eq_true (by first | (with_reducible assumption) | assumption)
              have q239 : x19_1 < (t233.length : Int) := of_decide_eq_true (by first | (with_reducible assumption) | assumption)
              obtain ⟨ad239, A239_0, c239_0, e239, hx239_0, hl239_0, hi239_0⟩ := at_L2 (Kd.S_reads' HO_17.out).2.2 x19_1 p239 q239
              cases e239
              obtain ⟨ce239, hce239, hMe239, hcc239⟩ := Kd.S_get HO_17.out [] x19_1 p239 (by first | exact q239 | exact of_decide_eq_true (by first | (with_reducible assumption) | assumption) | (have e_ := (Kd.S_reads' HO_17.out).1; omega))
              obtain ⟨ve239_0, rfl, ge239_0⟩ := hMe239
              have hv239_0 := hcc239 0 _ rfl
              rw [Nat.add_zero, show ((Kd.slice 3 (Kd.int .i64))).sz = 1 from rfl, Nat.mul_one] at hv239_0
              replace hv239_0 := Option.some.inj (hv239_0.symm.trans hx239_0)
              rw [hv239_0] at ge239_0
              have HL239_0 := Aside0.mk (show Kd.R (Kd.int .i64) 3 _ _ _ _ (rd_L2 t233 x19_1) from ge239_0)
              clear hv239_0 ge239_0
              clear hcc239 hce239
              have HR239_0 := Aside0.mk hi239_0
              have HC239_0 := Aside0.mk hl239_0
              clear hi239_0 hl239_0
              replace p239 := eq_true p239
              replace q239 := eq_true q239
              go_wp2
              go_loopg [4, 25] k1 (fun kq v4 v25 w' => ∃ (x4_2 : List (List Int)) (x25_2 : Int), v25 = .int .i64 x25_2 ∧ Aside0 (impl_CountTwoCuts.l1 kq l0 x4_2 t233 (rd_L2 t233 x19_1) t233 (t233.length : Int) x19_1 t233 (t233.length : Int) x25_2 = some (r1, r2)) ∧ Aside0 (kq ≤ k1) ∧ Aside0 (Kd.S (Kd.slice 3 (Kd.int .i64)) 22 w' w.heap.size (fun k_ => some k_ ≠ ((.slice (some ad239) t233.length co8) : Value).ownBlock ∧ some k_ ≠ ((.slice (some ad239) t233.length co8) : Value).ownBlock ∧ some k_ ≠ ((.slice (some ad239) t233.length co8) : Value).ownBlock) v4 x4_2) ∧ Aside0 (Kd.S (Kd.slice 3 (Kd.int .i64)) 22 w' w.heap.size (fun k_ => some k_ ≠ (v4 : Value).ownBlock) (.slice (some ad239) t233.length co8) t233) ∧ Aside0 (Kd.S (Kd.slice 3 (Kd.int .i64)) 22 w' w.heap.size (fun k_ => some k_ ≠ (v4 : Value).ownBlock) (.slice (some ad239) t233.length co8) t233) ∧ Aside0 (Kd.S (Kd.slice 3 (Kd.int .i64)) 22 w' w.heap.size (fun k_ => some k_ ≠ (v4 : Value).ownBlock) (.slice (some ad239) t233.length co8) t233) ∧ Aside0 (Kd.R (Kd.int .i64) 3 w' w.heap.size (fun k_ => some k_ ≠ (v4 : Value).ownBlock ∧ some k_ ≠ (.slice (some ad239) t233.length co8 : Value).ownBlock) (.slice A239_0 (rd_L2 t233 x19_1).length c239_0) (rd_L2 t233 x19_1)) ∧ Aside0 (Below w.heap.size w w'))
              case atStart => exact ⟨(x4_1), (0), (by first | rfl | (simp; done) | (simp [*]; done)), H', ⟨Nat.le_refl _⟩, ⟨by (with_reducible repeat (first | apply Kd.S_alloc | apply Kd.S_drewN | apply Kd.S_drew)); exact Kd.S_mono HO_4.out (fun _ hk => by first | exact ⟨hk.1, ⟨hk.2, hk.1⟩⟩ | (simp only [own_map, ne_eq] at hk ⊢; simp only [hk, and_self, not_false_eq_true]; done) | (simp only [own_map, ne_eq] at hk ⊢; simp [hk]; done))⟩, ⟨by (with_reducible repeat (first | apply Kd.S_alloc | apply Kd.S_drewN | apply Kd.S_drew)); exact HO_5.out⟩, ⟨by (with_reducible repeat (first | apply Kd.S_alloc | apply Kd.S_drewN | apply Kd.S_drew)); exact HO_17.out⟩, ⟨by (with_reducible repeat (first | apply Kd.S_alloc | apply Kd.S_drewN | apply Kd.S_drew)); exact HO_5.out⟩, HL239_0, ⟨by repeat (first | (with_reducible first | exact HB.out | apply below_alloc | apply pw_below_drewN | apply below_drew1) | exact HB.out)⟩⟩
              case round =>
                clear H'
                try clear c1
                try clear c2
                try clear p2
                try clear q2
                try clear hx2
                try clear c3
                try clear c4
                try clear c5
                try clear c6
                try clear c9
                try clear c9b0
                try clear c10
                try clear c10b0
                try clear c11
                try clear c11b0
                try clear hx239_0
                try clear p2
                try clear p239
                try clear q239
                clear HL239_0 HR239_0
                obtain ⟨x4_2, x25_2, rfl, HA, HK2, HO_4, HO_5, HO_17, HO_23, HL239_0, HB⟩ := hrel
                cases gk with
                | zero => exact absurd HA.out (by simp [impl_CountTwoCuts.l1])
                | succ k2 =>
                  have H := HA.out
                  clear HA
                  simp only [impl_CountTwoCuts.l1] at H
                  by_cases c12 : x25_2 < (t233.length : Int)
                  · rw [if_pos c12] at H
                    have c12b0 : decide (x25_2 < (t233.length : Int)) = true := decide_eq_true c12
                    clear c12
                    by_cases c13 : 0 ≤ x25_2
                    · rw [if_pos c13] at H
                      have c13b0 : decide (0 ≤ x25_2) = true := decide_eq_true c13
                      clear c13
                      by_cases c14 : x25_2 < (t233.length : Int)
                      · rw [if_pos c14] at H
                        have c14b0 : decide (x25_2 < (t233.length : Int)) = true := decide_eq_true c14
                        clear c14
                        replace H := Option.bind_eq_some_iff.mp H
                        obtain ⟨t241, A150, H⟩ := H
                        replace H : ((impl_runCuts.f k2 t241 (rd_L2 t233 x25_2)).bind fun t244 => (if x4_2.length < 5864062014805 then (impl_CountTwoCuts.l1 k2 l0 (x4_2 ++ [t244]) t233 (rd_L2 t233 x19_1) t233 (t233.length : Int) x19_1 t233 (t233.length : Int) (wrap64 (x25_2 + 1))) else (none))) = some (r1, r2) := H
                        have A15 := Aside0.mk A150
                        clear A150
                        replace H := Option.bind_eq_some_iff.mp H
                        obtain ⟨t244, A160, H⟩ := H
                        replace H : (if x4_2.length < 5864062014805 then (impl_CountTwoCuts.l1 k2 l0 (x4_2 ++ [t244]) t233 (rd_L2 t233 x19_1) t233 (t233.length : Int) x19_1 t233 (t233.length : Int) (wrap64 (x25_2 + 1))) else (none)) = some (r1, r2) := H
                        have A16 := Aside0.mk A160
                        clear A160
                        by_cases c17 : x4_2.length < 5864062014805
                        · rw [if_pos c17] at H
                          have LMc17 := Aside0.mk c17
                          clear c17
                          obtain ⟨y247, hy247⟩ : ∃ y_ : List (List Int), y_ = (x4_2 ++ [t244]) := ⟨_, rfl⟩
                          replace H : (impl_CountTwoCuts.l1 k2 l0 y247 t233 (rd_L2 t233 x19_1) t233 (t233.length : Int) x19_1 t233 (t233.length : Int) (wrap64 (x25_2 + 1))) = some (r1, r2) := by first | (rw [hy247]; with_reducible exact H) | (have H2_ := (Option.bind_some _ _).symm.trans H; rw [hy247]; with_reducible exact H2_) | (have H2_ := (Option.bind_some _ _).symm.trans H; with_reducible exact H2_) | with_reducible exact H | (rw [hy247]; exact H) | exact H
                          have Ny247 := Aside0.mk hy247
                          clear hy247
                          have H' := Aside0.mk H
                          clear H
                          have p240 : 0 ≤ (x25_2 : Int) := of_decide_eq_true (by first | (with_reducible assumption) | assumption)
                          have q240 : x25_2 < (t233.length : Int) := of_decide_eq_true (by first | (with_reducible assumption) | assumption)
                          obtain ⟨ad240, A240_0, c240_0, e240, hx240_0, hl240_0, hi240_0⟩ := at_L2 (Kd.S_reads' HO_23.out).2.2 x25_2 p240 q240
                          obtain rfl : ad239 = ad240 := (by injection e240)
                          obtain ⟨ce240, hce240, hMe240, hcc240⟩ := Kd.S_get HO_23.out [] x25_2 p240 (by first | exact q240 | exact of_decide_eq_true (by first | (with_reducible assumption) | assumption) | (have e_ := (Kd.S_reads' HO_23.out).1; omega))
                          obtain ⟨ve240_0, rfl, ge240_0⟩ := hMe240
                          have hv240_0 := hcc240 0 _ rfl
                          rw [Nat.add_zero, show ((Kd.slice 3 (Kd.int .i64))).sz = 1 from rfl, Nat.mul_one] at hv240_0
                          replace hv240_0 := Option.some.inj (hv240_0.symm.trans hx240_0)
                          rw [hv240_0] at ge240_0
                          have HL240_0 := Aside0.mk (show Kd.R (Kd.int .i64) 3 _ _ _ _ (rd_L2 t233 x25_2) from ge240_0)
                          clear hv240_0 ge240_0
                          clear hcc240 hce240
                          have HR240_0 := Aside0.mk hi240_0
                          have HC240_0 := Aside0.mk hl240_0
                          clear hi240_0 hl240_0
                          replace p240 := eq_true p240
                          replace q240 := eq_true q240
                          go_wp2_with (first | ((with_reducible refine gate_callee (f := 52) rfl ?_); refine goesL_ (some 32) rfl rfl Try.func52 (by kernel_rfl) rfl #[.slice A0 l0.length c0, .slice A239_0 (rd_L2 t233 x19_1).length c239_0] rfl (by (try simp only [List.map_toArray, List.map_cons, List.map_nil]); first | done | rfl | (simp only [List.length_drop, List.length_take]; rfl)) ?_; (with_reducible refine (impl_runCuts.calls k2 (fun k_ => k_ < w.heap.size) _ _ l0 _ _ (rd_L2 t233 x19_1) t241 _ ?side1 ?side2 ?side3 A15.out).mono ?_); (case side1 => exact Kd.V_mk HC0.out (Kd.F_below (Kd.C_F (Kd.heap_int .i64) HR0.out) (by repeat (first | (with_reducible first | exact HB.out | apply below_alloc | apply pw_below_drewN | apply below_drew1) | exact HB.out)))); (case side2 => repeat (first | exact (Kd.R_reads' HL239_0.out).2.2 | (with_reducible refine Kd.C_alloc ?_ _) | (with_reducible refine Kd.C_drewN ?_ _) | (with_reducible refine Kd.C_drew ?_))); (case side3 => exact HC239_0.out); rintro e w18 ⟨v242, rfl, ho0, hb⟩; refine ⟨_, rfl, ?_⟩; have n0_ := Aside0.mk (Kd.S_elder' (by (with_reducible repeat (first | apply Kd.S_alloc | apply Kd.S_drewN | apply Kd.S_drew)); exact HO_4.out) (Kd.R_base ho0) hb); have n1_ := Aside0.mk (Kd.S_elder' (by (with_reducible repeat (first | apply Kd.S_alloc | apply Kd.S_drewN | apply Kd.S_drew)); exact HO_5.out) (Kd.R_base ho0) hb); have n2_ := Aside0.mk (Kd.S_elder' (by (with_reducible repeat (first | apply Kd.S_alloc | apply Kd.S_drewN | apply Kd.S_drew)); exact HO_17.out) (Kd.R_base ho0) hb); have n3_ := Aside0.mk (Kd.S_elder' (by (with_reducible repeat (first | apply Kd.S_alloc | apply Kd.S_drewN | apply Kd.S_drew)); exact HO_23.out) (Kd.R_base ho0) hb); have n4_ := Aside0.mk (Kd.R_elder' (by (with_reducible repeat (first | apply Kd.R_alloc | apply Kd.R_drewN | apply Kd.R_drew)); exact HL240_0.out) (Kd.R_base ho0) hb); have m9_ := Aside0.mk (Kd.R_elder' (by (with_reducible repeat (first | apply Kd.R_alloc | apply Kd.R_drewN | apply Kd.R_drew)); exact HL239_0.out) (Kd.R_base ho0) hb); have n5_ := Aside0.mk (Kd.R_lower (Kd.R_new' (Kd.R_mono (ok' := fun k_ => True) ho0 (fun _ hk_ => trivial)) (Kd.R_lt (by (with_reducible repeat (first | apply Kd.R_alloc | apply Kd.R_drewN | apply Kd.R_drew)); exact HL240_0.out))) (below_size (by repeat (first | (with_reducible first | exact HB.out | apply below_alloc | apply pw_below_drewN | apply below_drew1) | exact HB.out)))); have n6_ := Aside0.mk (Kd.C_below (by repeat (first | (with_reducible exact HR240_0.out) | (with_reducible refine Kd.C_alloc ?_ _) | (with_reducible refine Kd.C_drewN ?_ _) | (with_reducible refine Kd.C_drew ?_) | exact HR240_0.out)) hb); have n7_ := Aside0.mk (below_step (by repeat (first | (with_reducible first | exact HB.out | apply below_alloc | apply pw_below_drewN | apply below_drew1) | exact HB.out)) hb); clear HO_4; clear HO_5; clear HO_17; clear HO_23; clear HL240_0 HL239_0; clear HR240_0; clear HB; have HO_4 := n0_; have HO_5 := n1_; have HO_17 := n2_; have HO_23 := n3_; have HL240_0 := n4_; have HL239_0 := m9_; have HO243 := n5_; have HR240_0 := n6_; have HB := n7_; clear n0_ n1_ n2_ n3_ n4_ n5_ n6_ n7_; (try clear m9_); (try clear hb); (try clear hb2); (try clear hk); (try clear hi); (try clear ho0); obtain ⟨Ao19, co19, eo19⟩ := Kd.R_slice HO243.out; subst eo19) | ((with_reducible refine gate_callee (f := 52) rfl ?_); refine goesL_ (some 34) rfl rfl Try.func52 (by kernel_rfl) rfl #[.slice Ao19 t241.length co19, .slice A240_0 (rd_L2 t233 x25_2).length c240_0] rfl (by (try simp only [List.map_toArray, List.map_cons, List.map_nil]); first | done | rfl | (simp only [List.length_drop, List.length_take]; rfl)) ?_; (with_reducible refine (impl_runCuts.calls k2 (fun k_ => some k_ = (.slice Ao19 t241.length co19 : Value).ownBlock) _ _ t241 _ _ (rd_L2 t233 x25_2) t244 _ ?side1 ?side2 ?side3 A16.out).mono ?_); (case side1 => exact Kd.R_V (Kd.R_tight rfl (Kd.R_apart' (Kd.R_apart' (Kd.R_apart' (Kd.R_apart' (HO243.out) (Kd.S_typed HO_4.out) (by decide)) (Kd.S_typed HO_5.out) (by decide)) (Kd.S_typed HO_17.out) (by decide)) (Kd.S_typed HO_23.out) (by decide)))); (case side2 => repeat (first | exact (by repeat (first | (with_reducible exact HR240_0.out) | (with_reducible refine Kd.C_alloc ?_ _) | (with_reducible refine Kd.C_drewN ?_ _) | (with_reducible refine Kd.C_drew ?_) | exact HR240_0.out)) | (with_reducible refine Kd.C_alloc ?_ _) | (with_reducible refine Kd.C_drewN ?_ _) | (with_reducible refine Kd.C_drew ?_))); (case side3 => exact HC240_0.out); rintro e w20 ⟨v245, rfl, ho0, hb⟩; refine ⟨_, rfl, ?_⟩; have n0_ := Aside0.mk (Kd.S_elder' (by (with_reducible repeat (first | apply Kd.S_alloc | apply Kd.S_drewN | apply Kd.S_drew)); exact HO_4.out) (Kd.R_base ho0) hb); have n1_ := Aside0.mk (Kd.S_elder' (by (with_reducible repeat (first | apply Kd.S_alloc | apply Kd.S_drewN | apply Kd.S_drew)); exact HO_5.out) (Kd.R_base ho0) hb); have n2_ := Aside0.mk (Kd.S_elder' (by (with_reducible repeat (first | apply Kd.S_alloc | apply Kd.S_drewN | apply Kd.S_drew)); exact HO_17.out) (Kd.R_base ho0) hb); have n3_ := Aside0.mk (Kd.S_elder' (by (with_reducible repeat (first | apply Kd.S_alloc | apply Kd.S_drewN | apply Kd.S_drew)); exact HO_23.out) (Kd.R_base ho0) hb); have n4_ := Aside0.mk (Kd.R_elder' (by (with_reducible repeat (first | apply Kd.R_alloc | apply Kd.R_drewN | apply Kd.R_drew)); exact HL240_0.out) (Kd.R_base ho0) hb); have m9_ := Aside0.mk (Kd.R_elder' (by (with_reducible repeat (first | apply Kd.R_alloc | apply Kd.R_drewN | apply Kd.R_drew)); exact HL239_0.out) (Kd.R_base ho0) hb); have n5_ := Aside0.mk (Kd.R_elder' (by (with_reducible repeat (first | apply Kd.R_alloc | apply Kd.R_drewN | apply Kd.R_drew)); exact HO243.out) (Kd.R_base ho0) hb); have n6_ := Aside0.mk (Kd.R_lower (Kd.R_new' (Kd.R_new' (Kd.R_mono (ok' := fun k_ => True) ho0 (fun _ hk_ => trivial)) (Kd.R_lt (by (with_reducible repeat (first | apply Kd.R_alloc | apply Kd.R_drewN | apply Kd.R_drew)); exact HL240_0.out))) (Kd.R_lt (by (with_reducible repeat (first | apply Kd.R_alloc | apply Kd.R_drewN | apply Kd.R_drew)); exact HO243.out))) (below_size (by repeat (first | (with_reducible first | exact HB.out | apply below_alloc | apply pw_below_drewN | apply below_drew1) | exact HB.out)))); have n7_ := Aside0.mk (Kd.C_below (by repeat (first | (with_reducible exact HR240_0.out) | (with_reducible refine Kd.C_alloc ?_ _) | (with_reducible refine Kd.C_drewN ?_ _) | (with_reducible refine Kd.C_drew ?_) | exact HR240_0.out)) hb); have n8_ := Aside0.mk (below_step (by repeat (first | (with_reducible first | exact HB.out | apply below_alloc | apply pw_below_drewN | apply below_drew1) | exact HB.out)) hb); clear HO_4; clear HO_5; clear HO_17; clear HO_23; clear HL240_0 HL239_0; clear HO243; clear HR240_0; clear HB; have HO_4 := n0_; have HO_5 := n1_; have HO_17 := n2_; have HO_23 := n3_; have HL240_0 := n4_; have HL239_0 := m9_; have HO243 := n5_; have HO246 := n6_; have HR240_0 := n7_; have HB := n8_; clear n0_ n1_ n2_ n3_ n4_ n5_ n6_ n7_ n8_; (try clear m9_); (try clear hb); (try clear hb2); (try clear hk); (try clear hi); (try clear ho0); obtain ⟨Ao22, co22, eo22⟩ := Kd.R_slice HO246.out; subst eo22) | ((with_reducible refine gate_builtin (b := .append) (xs := #[.tmp 29, .tmp 35]) rfl ?_); at_builtin; refine Kd.S_append (Kd.slice 3 (Kd.int .i64)) (w0 := w) w.heap.size rfl (.tmp 29) (.tmp 35) 41 22 (.slice none 0 0) 24 rfl Try.underlying41 info22 rfl (by decide) (by omega) u4 x4_2 t244 [.slice Ao22 t244.length co22] (fun k_ => some k_ ≠ (.slice (some ad239) t233.length co8 : Value).ownBlock ∧ some k_ ≠ (.slice (some ad239) t233.length co8 : Value).ownBlock ∧ some k_ ≠ (.slice (some ad239) t233.length co8 : Value).ownBlock ∧ some k_ ≠ (.slice Ao19 t241.length co19 : Value).ownBlock) (fun k_ => some k_ = (.slice Ao22 t244.length co22 : Value).ownBlock) rfl rfl ?aP (fun k_ hk_ => ((Kd.R_mono (ok' := fun k_ => ((fun k_ => some k_ ≠ (.slice (some ad239) t233.length co8 : Value).ownBlock ∧ some k_ ≠ (.slice (some ad239) t233.length co8 : Value).ownBlock ∧ some k_ ≠ (.slice (some ad239) t233.length co8 : Value).ownBlock ∧ some k_ ≠ (.slice Ao19 t241.length co19 : Value).ownBlock)) k_ ∧ some k_ ≠ (u4 : Value).ownBlock) (Kd.R_apart' (Kd.R_apart' (Kd.R_apart' (Kd.R_apart' (HO246.out) (Kd.S_typed HO_5.out) (by decide)) (Kd.S_typed HO_17.out) (by decide)) (Kd.S_typed HO_23.out) (by decide)) (Kd.S_typed HO_4.out) (by decide)) (fun k_ hk => by first | exact ⟨⟨hk.1.1.1.2, ⟨hk.1.1.2, ⟨hk.1.2, hk.1.1.1.1.2⟩⟩⟩, hk.2⟩ | (simp only [own_map, ne_eq] at hk ⊢; simp only [hk, and_self, not_false_eq_true]; done) | (simp only [own_map, ne_eq] at hk ⊢; simp [hk]; done)))).1 k_ hk_.symm) ?aF ?aO ?aB ?aS ?aL ?_; (case aP => exact Kd.M_row (Kd.R_mono (Kd.R_tight rfl (Kd.R_mono (ok' := fun k_ => ((fun k_ => some k_ ≠ (.slice (some ad239) t233.length co8 : Value).ownBlock ∧ some k_ ≠ (.slice (some ad239) t233.length co8 : Value).ownBlock ∧ some k_ ≠ (.slice (some ad239) t233.length co8 : Value).ownBlock ∧ some k_ ≠ (.slice Ao19 t241.length co19 : Value).ownBlock)) k_ ∧ some k_ ≠ (u4 : Value).ownBlock) (Kd.R_apart' (Kd.R_apart' (Kd.R_apart' (Kd.R_apart' (HO246.out) (Kd.S_typed HO_5.out) (by decide)) (Kd.S_typed HO_17.out) (by decide)) (Kd.S_typed HO_23.out) (by decide)) (Kd.S_typed HO_4.out) (by decide)) (fun k_ hk => by first | exact ⟨⟨hk.1.1.1.2, ⟨hk.1.1.2, ⟨hk.1.2, hk.1.1.1.1.2⟩⟩⟩, hk.2⟩ | (simp only [own_map, ne_eq] at hk ⊢; simp only [hk, and_self, not_false_eq_true]; done) | (simp only [own_map, ne_eq] at hk ⊢; simp [hk]; done)))) (fun _ h_ => h_))); (case aB => exact (by repeat (first | (with_reducible first | exact HB.out | apply below_alloc | apply pw_below_drewN | apply below_drew1) | exact HB.out))); (case aF => exact (fun k_ hk => ⟨Kd.fresh' (Kd.S_lt (by (with_reducible repeat (first | apply Kd.S_alloc | apply Kd.S_drewN | apply Kd.S_drew)); exact HO_5.out)) k_ hk, Kd.fresh' (Kd.S_lt (by (with_reducible repeat (first | apply Kd.S_alloc | apply Kd.S_drewN | apply Kd.S_drew)); exact HO_17.out)) k_ hk, Kd.fresh' (Kd.S_lt (by (with_reducible repeat (first | apply Kd.S_alloc | apply Kd.S_drewN | apply Kd.S_drew)); exact HO_23.out)) k_ hk, Kd.fresh' (Kd.R_lt (by (with_reducible repeat (first | apply Kd.R_alloc | apply Kd.R_drewN | apply Kd.R_drew)); exact HO243.out)) k_ hk⟩)); (case aO => exact (by (with_reducible repeat (first | apply Kd.S_alloc | apply Kd.S_drewN | apply Kd.S_drew)); exact Kd.S_mono HO_4.out (fun k_ hk => ⟨⟨hk.1.1.1, ⟨hk.1.1.2.1, ⟨hk.1.1.2.2, hk.1.2⟩⟩⟩, fun e_ => hk.2 e_⟩))); (case aS => exact (below_size (by repeat (first | (with_reducible first | exact HB.out | apply below_alloc | apply pw_below_drewN | apply below_drew1) | exact HB.out)))); (case aL => have := LMc17.out; omega); intro v248 w21 ho hb hg hat; rw [← Ny247.out] at ho; have n0_ := Aside0.mk (Kd.S_after (ok := (fun k_ => some k_ ≠ (.slice Ao19 t241.length co19 : Value).ownBlock ∧ some k_ ≠ (.slice Ao22 t244.length co22 : Value).ownBlock)) (by (with_reducible repeat (first | apply Kd.S_alloc | apply Kd.S_drewN | apply Kd.S_drew)); exact Kd.S_mono HO_5.out (fun _ hk => by first | exact ⟨⟨hk.1.2, hk.2⟩, hk.1.1⟩ | (simp only [own_map, ne_eq] at hk ⊢; simp only [hk, and_self, not_false_eq_true]; done) | (simp only [own_map, ne_eq] at hk ⊢; simp [hk]; done))) hg hat); have n1_ := Aside0.mk (Kd.S_after (ok := (fun k_ => some k_ ≠ (.slice Ao19 t241.length co19 : Value).ownBlock ∧ some k_ ≠ (.slice Ao22 t244.length co22 : Value).ownBlock)) (by (with_reducible repeat (first | apply Kd.S_alloc | apply Kd.S_drewN | apply Kd.S_drew)); exact Kd.S_mono HO_17.out (fun _ hk => by first | exact ⟨⟨hk.1.2, hk.2⟩, hk.1.1⟩ | (simp only [own_map, ne_eq] at hk ⊢; simp only [hk, and_self, not_false_eq_true]; done) | (simp only [own_map, ne_eq] at hk ⊢; simp [hk]; done))) hg hat); have n2_ := Aside0.mk (Kd.S_after (ok := (fun k_ => some k_ ≠ (.slice Ao19 t241.length co19 : Value).ownBlock ∧ some k_ ≠ (.slice Ao22 t244.length co22 : Value).ownBlock)) (by (with_reducible repeat (first | apply Kd.S_alloc | apply Kd.S_drewN | apply Kd.S_drew)); exact Kd.S_mono HO_23.out (fun _ hk => by first | exact ⟨⟨hk.1.2, hk.2⟩, hk.1.1⟩ | (simp only [own_map, ne_eq] at hk ⊢; simp only [hk, and_self, not_false_eq_true]; done) | (simp only [own_map, ne_eq] at hk ⊢; simp [hk]; done))) hg hat); have n3_ := Aside0.mk (Kd.R_after (ok := (fun k_ => some k_ ≠ (.slice (some ad239) t233.length co8 : Value).ownBlock ∧ some k_ ≠ (.slice Ao19 t241.length co19 : Value).ownBlock ∧ some k_ ≠ (.slice Ao22 t244.length co22 : Value).ownBlock)) (by (with_reducible repeat (first | apply Kd.R_alloc | apply Kd.R_drewN | apply Kd.R_drew)); exact Kd.R_mono HL240_0.out (fun _ hk => by first | exact ⟨⟨hk.1.1.2, ⟨hk.1.2, hk.2⟩⟩, hk.1.1.1⟩ | (simp only [own_map, ne_eq] at hk ⊢; simp only [hk, and_self, not_false_eq_true]; done) | (simp only [own_map, ne_eq] at hk ⊢; simp [hk]; done))) hg hat); have m9_ := Aside0.mk (Kd.R_after (ok := (fun k_ => some k_ ≠ (.slice (some ad239) t233.length co8 : Value).ownBlock ∧ some k_ ≠ (.slice Ao19 t241.length co19 : Value).ownBlock ∧ some k_ ≠ (.slice Ao22 t244.length co22 : Value).ownBlock)) (by (with_reducible repeat (first | apply Kd.R_alloc | apply Kd.R_drewN | apply Kd.R_drew)); exact Kd.R_mono HL239_0.out (fun _ hk => by first | exact ⟨⟨hk.1.1.2, ⟨hk.1.2, hk.2⟩⟩, hk.1.1.1⟩ | (simp only [own_map, ne_eq] at hk ⊢; simp only [hk, and_self, not_false_eq_true]; done) | (simp only [own_map, ne_eq] at hk ⊢; simp [hk]; done))) hg hat); have n4_ := Aside0.mk (Kd.R_over' (by (with_reducible repeat (first | apply Kd.R_alloc | apply Kd.R_drewN | apply Kd.R_drew)); exact HO243.out) (Kd.S_typed (by (with_reducible repeat (first | apply Kd.S_alloc | apply Kd.S_drewN | apply Kd.S_drew)); exact HO_4.out)) (by decide) hg); have n5_ := Aside0.mk (hb); have n6_ := Aside0.mk (ho); clear HO_5; clear HO_17; clear HO_23; clear HL240_0 HL239_0; clear HO243; clear HB; clear HO_4; clear HO246; have HO_5 := n0_; have HO_17 := n1_; have HO_23 := n2_; have HL240_0 := n3_; have HL239_0 := m9_; have HO243 := n4_; have HB := n5_; have HO249 := n6_; clear n0_ n1_ n2_ n3_ n4_ n5_ n6_; (try clear m9_); clear ho hb hg hat))
                          go_roundg k2
                          case measure => have := HK1.out; have := HK2.out; omega
                          case rel => exact ⟨(y247), (wrap64 (x25_2 + 1)), (by first | rfl | (simp; done) | (simp [*]; done)), H', ⟨by have := HK1.out; have := HK2.out; omega⟩, ⟨by (with_reducible repeat (first | apply Kd.S_alloc | apply Kd.S_drewN | apply Kd.S_drew)); exact Kd.S_mono HO249.out (fun _ hk => by first | exact ⟨hk.1, ⟨hk.2.1, hk.2.2.1⟩⟩ | (simp only [own_map, ne_eq] at hk ⊢; simp only [hk, and_self, not_false_eq_true]; done) | (simp only [own_map, ne_eq] at hk ⊢; simp [hk]; done))⟩, ⟨by (with_reducible repeat (first | apply Kd.S_alloc | apply Kd.S_drewN | apply Kd.S_drew)); exact Kd.S_mono HO_5.out (fun _ hk => hk.2)⟩, ⟨by (with_reducible repeat (first | apply Kd.S_alloc | apply Kd.S_drewN | apply Kd.S_drew)); exact Kd.S_mono HO_17.out (fun _ hk => hk.2)⟩, ⟨by (with_reducible repeat (first | apply Kd.S_alloc | apply Kd.S_drewN | apply Kd.S_drew)); exact Kd.S_mono HO_23.out (fun _ hk => hk.2)⟩, ⟨Kd.R_mono HL239_0.out (fun _ hk => by first | exact ⟨hk.2, hk.1.1⟩ | (simp only [own_map, ne_eq] at hk ⊢; simp only [hk, and_self, not_false_eq_true]; done) | (simp only [own_map, ne_eq] at hk ⊢; simp [hk]; done))⟩, ⟨by repeat (first | (with_reducible first | exact HB.out | apply below_alloc | apply pw_below_drewN | apply below_drew1) | exact HB.out)⟩⟩
                        · rw [if_neg c17] at H
                          exact absurd H (by simp)
                      · rw [if_neg c14] at H
                        exact absurd H (by simp)
                    · rw [if_neg c13] at H
                      exact absurd H (by simp)
                  · rw [if_neg c12] at H
                    have c12b0 : decide (x25_2 < (t233.length : Int)) = false := decide_eq_false c12
                    clear c12
                    have H' := Aside0.mk H
                    clear H
                    go_wp2
                    go_roundg k2
                    case measure => have := HK1.out; have := HK2.out; omega
                    case rel => exact ⟨(x4_2), (wrap64 (x19_1 + 1)), (by first | rfl | (simp; done) | (simp [*]; done)), H', ⟨by have := HK1.out; have := HK2.out; omega⟩, ⟨by (with_reducible repeat (first | apply Kd.S_alloc | apply Kd.S_drewN | apply Kd.S_drew)); exact Kd.S_mono HO_4.out (fun _ hk => by first | exact ⟨hk.1, hk.2.1⟩ | (simp only [own_map, ne_eq] at hk ⊢; simp only [hk, and_self, not_false_eq_true]; done) | (simp only [own_map, ne_eq] at hk ⊢; simp [hk]; done))⟩, ⟨by (with_reducible repeat (first | apply Kd.S_alloc | apply Kd.S_drewN | apply Kd.S_drew)); exact HO_5.out⟩, ⟨by (with_reducible repeat (first | apply Kd.S_alloc | apply Kd.S_drewN | apply Kd.S_drew)); exact HO_17.out⟩, ⟨by repeat (first | (with_reducible first | exact HB.out | apply below_alloc | apply pw_below_drewN | apply below_drew1) | exact HB.out)⟩⟩
            · rw [if_neg c11] at H
              exact absurd H (by simp)
          · rw [if_neg c10] at H
            exact absurd H (by simp)
        · rw [if_neg c9] at H
          have c9b0 : decide (x19_1 < (t233.length : Int)) = false := decide_eq_false c9
          clear c9
          replace H := Option.bind_eq_some_iff.mp H
          obtain ⟨t236, A230, H⟩ := H
          replace H : (some ((t236.length : Int), true)) = some (r1, r2) := H
          have A23 := Aside0.mk A230
          clear A230
          simp only [Option.some.injEq, Prod.mk.injEq] at H
          obtain ⟨rfl, rfl⟩ := H
          obtain ⟨Ao24, co24, eo24⟩ := Kd.S_slice HO_4.out
          subst eo24
          go_wp2_with (first | ((with_reducible refine gate_callee (f := 75) rfl ?_); refine goesL_ (some 40) rfl rfl Try.func75 (by kernel_rfl) rfl #[.slice Ao24 x4_1.length co24] rfl (by (try simp only [List.map_toArray, List.map_cons, List.map_nil]); first | done | rfl | (simp only [List.length_drop, List.length_take]; rfl)) ?_; refine (impl_tidied.calls k1 _ _ x4_1 t236 w _ HB.out HO_4.out A23.out).mono ?_; rintro e w25 ⟨v237, rfl, ho0, hb, hk⟩; refine ⟨_, rfl, ?_⟩; have HO238 := Aside0.mk ho0; have n4_ := Aside0.mk hb; clear HO_4 HO_5 HO_17 HB; have HB := n4_; clear n4_ hb hk ho0; obtain ⟨Ao26, co26, eo26⟩ := Kd.S_slice HO238.out; subst eo26))
          go_ret2
          exact ⟨by first | rfl | (simp [errW_none, errW_some] <;> rfl) | (simp [*, errW_none, errW_some] <;> rfl), by repeat (first | (with_reducible first | exact HB.out | apply below_alloc | apply pw_below_drewN | apply below_drew1) | exact HB.out)⟩
  · replace c3 := Bool.eq_false_iff.mpr c3
    subst c3
    have H1 : (some (0, false)) = some (r1, r2) := by rw [if_neg (show ¬ (false = true) by decide)] at H; exact H
    clear H
    have H := H1
    clear H1
    simp only [Option.some.injEq, Prod.mk.injEq] at H
    obtain ⟨rfl, rfl⟩ := H
    go_enter Try.func41, Try.ntmps41
    go_wp2_with (first | ((with_reducible refine gate_callee (f := 50) rfl ?_); refine goesL_ (some 11) rfl rfl Try.func50 (by kernel_rfl) rfl #[.slice A0 l0.length c0] rfl (by (try simp only [List.map_toArray, List.map_cons, List.map_nil]); first | done | rfl | (simp only [List.length_drop, List.length_take]; rfl)) ?_; (with_reducible refine (impl_isOrder.calls k _ _ l0 false _ ?side1 ?side2 A2.out).mono ?_); (case side1 => repeat (first | exact HR0.out | (with_reducible refine Kd.C_alloc ?_ _) | (with_reducible refine Kd.C_drewN ?_ _) | (with_reducible refine Kd.C_drew ?_))); (case side2 => exact HC0.out); rintro e w' ⟨rfl, ⟨nd, rfl⟩⟩; refine ⟨_, rfl, ?_⟩))
    go_ret2
    exact ⟨by first | rfl | (simp [errW_none, errW_some] <;> rfl) | (simp [*, errW_none, errW_some] <;> rfl), by repeat (first | (with_reducible first | exact HB.out | apply below_alloc | apply pw_below_drewN | apply below_drew1) | exact HB.out)⟩


end Go.Proofs.Ytgmhehgjmlokdaa.PFnExactCountTwoCuts
