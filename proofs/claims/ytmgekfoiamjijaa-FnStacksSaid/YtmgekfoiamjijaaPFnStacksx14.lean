-- laid by mkprint.py, a program of this claim's writer, over the kit's print program; parts of it are typed by hand
import Derived.Test.YtmgekfoiamjijaaPFnStacksx0
import Derived.Test.YtmgekfoiamjijaaPFnStacksx3
import Derived.Test.YtmgekfoiamjijaaPFnStacksx7
import Derived.Test.YtmgekfoiamjijaaPFnStacksx9
import Derived.Test.YtmgekfoiamjijaaPFnStacksx11
import Derived.Test.YtmgekfoiamjijaaPFnStacksx12
import Derived.Test.YtmgekfoiamjijaaPFnStacksx13
namespace Go.Proofs.Ytmgekfoiamjijaa.PFnStacks
open Go.RowKit Go.Proofs.YtmgekfoiamjijaaW.PrintWords Go.Proofs.YtmgekfoiamjijaaW.PrintLast Go.Proofs.YtmgekfoiamjijaaW.PrintMore
attribute [local go_sem] max2_int min2_int max_two min_two max_three min_three max_four min_four
set_option linter.unusedVariables false
set_option linter.unusedSimpArgs false
def spec_HardestOrder.f (k : Nat) (a0 : Int) : Option (List Int × Int × Bool) := (spec_l3Size.f a0).bind fun t => if t = true then ((spec_l2Orders.f k a0).bind fun all => if all.length < 17592186044416 ∧ 0 < all.length then ((bestL (spec_l7Fewest.f k) all all.length 0 (rowOf all 0) (0)).bind fun x => some (x.1, x.2, true)) else none) else some ([], 0, false)
theorem spec_HardestOrder.mono : ∀ a0 k, LeO (spec_HardestOrder.f k a0) (spec_HardestOrder.f (k + 1) a0) := fun a0 k => LeO.bind (LeO.refl _) (fun t => LeO.ite (LeO.bind (spec_l2Orders.mono _ _) (fun all => LeO.ite (LeO.bind (bestL_mono (fun x => spec_l7Fewest.mono _ _) _ _ _ _ _) (fun _ => LeO.refl _)) (LeO.none _))) (LeO.refl _))
set_option maxHeartbeats 8000000 in
set_option maxRecDepth 100000 in
theorem spec_HardestOrder.calls (k : Nat) (a0 : Int) (r1 : List Int) (r2 : Int) (r3 : Bool) (w : World) (h : spec_HardestOrder.f k a0 = some (r1, r2, r3)) :
    Calls Try.prog 34 #[.int .i64 a0] w fun e w' => ∃ v0_ : Value, e = .returned (.tuple #[v0_, .int .i64 r2, .bool r3]) ∧ Kd.R (Kd.int .i64) 3 w' w.heap.size (fun _ => True) v0_ r1 ∧ Below w.heap.size w w' := by
  have HB := Aside0.mk (Below.refl w.heap.size w)
  obtain ⟨t, h1, H⟩ := Option.bind_eq_some_iff.mp h
  have A1 := Aside0.mk h1
  clear h h1
  cases t with
  | false =>
    rw [if_neg (by simp)] at H
    obtain ⟨rfl, rfl, rfl⟩ : ([] : List Int) = r1 ∧ (0 : Int) = r2 ∧ false = r3 := by simpa using H
    clear H
    go_enter Try.func34, Try.ntmps34
    (repeat ((fail_if_success (with_reducible refine gate_dst (N := 13) rfl ?_)); first | ((with_reducible refine gate_callee (f := 64) rfl ?_); refine goesL_ (some 11) rfl rfl Try.func64 (by kernel_rfl) rfl #[.int .i64 a0] rfl (by (try simp only [List.map_toArray, List.map_cons, List.map_nil]); first | done | rfl) ?_; (with_reducible refine (spec_l3Size.calls a0 false _ A1.out).mono ?_); rintro e w' ⟨rfl, ⟨nd, rfl⟩⟩; refine ⟨_, rfl, ?_⟩) | go_values | go_skip | go_guarded | go_step | go_upon))
    refine Kd.R_lit (Kd.int .i64) _ 3 ?hg (N := 13) ?hd (xs := ([] : List Int)) (inner := []) (ok := fun _ => True) (okp := fun _ => True) ?hr ?hp (fun _ hk => hk) trivial (Below.refl _ _) (Nat.le_refl _) (by simp) ?_
    case hd => rfl
    case hg => rfl
    case hr => first | (go_simp; done) | (go_simp; rfl)
    case hp => exact (Reps.none _ _)
    intro v13 w9 ho hb hg_ hnew_
    clear hg_ hnew_
    have HV := Aside0.mk (Kd.R_lower ho (below_size (by repeat (first | (with_reducible first | exact HB.out | apply below_alloc | apply pw_below_drewN | apply below_drew1) | exact HB.out))))
    have n0_ := Aside0.mk (below_step (by repeat (first | (with_reducible first | exact HB.out | apply below_alloc | apply pw_below_drewN | apply below_drew1) | exact HB.out)) hb)
    clear HB hb ho
    have HB := n0_
    clear n0_
    obtain ⟨Av, cv, rfl⟩ := Kd.R_slice HV.out
    go_wp2
    go_ret3
    exact ⟨_, rfl, HV.out, HB.out⟩
  | true =>
    rw [if_pos rfl] at H
    obtain ⟨all, h1, H⟩ := Option.bind_eq_some_iff.mp H
    have A2 := Aside0.mk h1
    clear h1
    by_cases hall : all.length < 17592186044416 ∧ 0 < all.length
    case neg => rw [if_neg hall] at H; exact absurd H (by simp)
    rw [if_pos hall] at H
    obtain ⟨⟨b_, m_⟩, h1, H⟩ := Option.bind_eq_some_iff.mp H
    obtain ⟨rfl, rfl, rfl⟩ : b_ = r1 ∧ m_ = r2 ∧ true = r3 := by simpa using H
    have A3 := Aside0.mk h1
    have AL := Aside0.mk hall
    clear h1 H hall
    go_enter Try.func34, Try.ntmps34
    (repeat ((fail_if_success (with_reducible refine gate_dst (N := 15) rfl ?_)); first | ((with_reducible refine gate_callee (f := 64) rfl ?_); refine goesL_ (some 11) rfl rfl Try.func64 (by kernel_rfl) rfl #[.int .i64 a0] rfl (by (try simp only [List.map_toArray, List.map_cons, List.map_nil]); first | done | rfl) ?_; (with_reducible refine (spec_l3Size.calls a0 true _ A1.out).mono ?_); rintro e w' ⟨rfl, ⟨nd, rfl⟩⟩; refine ⟨_, rfl, ?_⟩) | go_values | go_skip | go_guarded | go_step | go_upon))
    refine goesL_ (some 15) rfl rfl Try.func65 (by kernel_rfl) rfl #[.int .i64 a0] rfl (by (try simp only [List.map_toArray, List.map_cons, List.map_nil]); first | done | rfl) ?_
    refine (spec_l2Orders.calls k a0 all _ A2.out).mono ?_
    rintro e w9 ⟨va, rfl, ho, hb⟩
    refine ⟨_, rfl, ?_⟩
    have HS := Aside0.mk (Kd.S_lower ho (below_size (by repeat (first | (with_reducible first | exact HB.out | apply below_alloc | apply pw_below_drewN | apply below_drew1) | exact HB.out))))
    have n0_ := Aside0.mk (below_step (by repeat (first | (with_reducible first | exact HB.out | apply below_alloc | apply pw_below_drewN | apply below_drew1) | exact HB.out)) hb)
    clear HB hb ho
    have HB := n0_
    clear n0_
    obtain ⟨As, cs, rfl⟩ := Kd.S_slice HS.out
    obtain ⟨ad0, Ab0, cb0, e0_, hx0, _, _, hR0⟩ := rowAt_ HS.out 0 (by omega) (by have := AL.out; omega)
    subst e0_
    have HV := Aside0.mk hR0
    clear hR0
    have p0_ : (0 < all.length) = True := eq_true (by have := AL.out; omega)
    have hx0b : w9.cell? ad0 = some (.slice Ab0 (rowOf all 0).length cb0) := by have := hx0; simpa [Addr.add] using this
    skip
    go_wp2
    go_loopg [6, 7, 8] all.length (fun kq v6 v7 v8 w' => ∃ (i m : Int) (b : List Int) (vb : Value), v6 = vb ∧ v7 = .int .i64 m ∧ v8 = .int .i64 i ∧ Aside0 (bestL (spec_l7Fewest.f k) all kq i b m = some (b_, m_)) ∧ Aside0 (0 ≤ i ∧ i + (kq : Int) = (all.length : Int)) ∧ Aside0 (Kd.S (Kd.slice 3 (Kd.int .i64)) 24 w' w.heap.size (fun _ => True) (.slice (some ad0) all.length cs) all) ∧ Aside0 (Kd.R (Kd.int .i64) 3 w' w.heap.size (fun _ => True) vb b) ∧ Aside0 (Below w.heap.size w w'))
    case atStart => exact ⟨0, 0, (rowOf all 0), _, rfl, rfl, rfl, A3, ⟨by omega, by omega⟩, HS, HV, HB⟩
    case round =>
      clear A3 HS HV HB hx0 hx0b
      obtain ⟨i, m, b, vb, rfl, rfl, rfl, HA, HI, HS, HV, HB⟩ := hrel
      obtain ⟨Ab, cb, rfl⟩ := Kd.R_slice HV.out
      cases gk with
      | zero =>
        have c1 : decide (i < (all.length : Int)) = false := decide_eq_false (by have := HI.out.2; omega)
        have c1b : (i < (all.length : Int)) = False := eq_false (by have := HI.out.2; omega)
        obtain ⟨rfl, rfl⟩ := Prod.mk.inj (Option.some.inj (show some (b, m) = some (b_, m_) from HA.out))
        go_wp2
        go_ret3
        exact ⟨_, rfl, HV.out, HB.out⟩
      | succ d =>
        obtain ⟨v, hv, H⟩ := Option.bind_eq_some_iff.1 (show (((spec_l7Fewest.f k) (rowOf all i)).bind fun v => if v > m then bestL (spec_l7Fewest.f k) all d (i + 1) (rowOf all i) v else bestL (spec_l7Fewest.f k) all d (i + 1) b m) = some (b_, m_) from HA.out)
        have AV := Aside0.mk hv
        clear hv HA
        have c1 : decide (i < (all.length : Int)) = true := decide_eq_true (by have := HI.out.2; omega)
        have p1 : (0 ≤ i) = True := eq_true HI.out.1
        have p2 : (i < (all.length : Int)) = True := eq_true (by have := HI.out.2; omega)
        obtain ⟨i1, hi1⟩ : ∃ i1 : Int, i1 = i + 1 := ⟨_, rfl⟩
        have z2 : wrap64 (i + 1) = i1 := by rw [hi1]; exact IntWalk.wrap64_in _ (by have h1_ := HI.out; have h2_ := AL.out; omega)
        have HI1 := Aside0.mk (show 0 ≤ i1 ∧ i1 + (d : Int) = (all.length : Int) by have := HI.out; omega)
        rw [← hi1] at H
        clear hi1
        obtain ⟨ad, A1_, c1_, e1_, hx, hlc, hC, hR⟩ := rowAt_ HS.out i HI.out.1 (by have := HI.out.2; omega)
        cases e1_
        have HR := Aside0.mk hR
        have HC := Aside0.mk hC
        have HLC := Aside0.mk hlc
        clear hR hC hlc
        (repeat ((fail_if_success (with_reducible refine gate_callee (f := 54) rfl ?_)); first | go_values | go_skip | go_guarded | go_step | go_upon))
        refine goesL_ (some 29) rfl rfl Try.func54 (by kernel_rfl) rfl #[.slice A1_ (rowOf all i).length c1_] rfl (by (try simp only [List.map_toArray, List.map_cons, List.map_nil]); first | done | rfl) ?_
        refine (spec_l7Fewest.calls k A1_ c1_ (rowOf all i) v _ ?side1 HLC.out AV.out).mono ?_
        case side1 => exact HC.out
        rintro e w5 ⟨rfl, hb⟩
        refine ⟨_, rfl, ?_⟩
        have n0_ := Aside0.mk (below_step (by repeat (first | (with_reducible first | exact HB.out | apply below_alloc | apply pw_below_drewN | apply below_drew1) | exact HB.out)) hb)
        have n1_ := Aside0.mk (Kd.S_below HS.out hb)
        have n2_ := Aside0.mk (Kd.R_below HV.out hb)
        have n3_ := Aside0.mk (Kd.R_below HR.out hb)
        clear HB HS HV HR HC hb hx
        have HB := n0_
        have HS := n1_
        have HV := n2_
        have HR := n3_
        clear n0_ n1_ n2_ n3_
        obtain ⟨ad2, A2_, c2_, e2_, hx2, _, _, hR2⟩ := rowAt_ HS.out i HI.out.1 (by have := HI.out.2; omega)
        cases e2_
        have HR2 := Aside0.mk hR2
        clear hR2
        by_cases hm : v > m
        · rw [if_pos hm] at H
          have c2 : decide (m < v) = true := decide_eq_true hm
          have H' := Aside0.mk H
          clear H hm
          go_wp2
          go_roundg d
          case measure => omega
          case rel => exact ⟨i1, v, (rowOf all i), _, (by first | rfl | rw [z2]), (by first | rfl | rw [z2]), (by first | rfl | rw [z2]), H', HI1, HS, HR2, HB⟩
        · rw [if_neg hm] at H
          have c2 : decide (m < v) = false := decide_eq_false hm
          have H' := Aside0.mk H
          clear H hm
          go_wp2
          go_roundg d
          case measure => omega
          case rel => exact ⟨i1, m, b, _, (by first | rfl | rw [z2]), (by first | rfl | rw [z2]), (by first | rfl | rw [z2]), H', HI1, HS, HV, HB⟩
def spec_l1Cur_size3.f (s0 : List Int) (s1 : Int) (s2 : Int) : Option (Int × Int × Int) := (spec_l1Cur_pick.f s0 s1 s2 24).bind fun t => (let m := wrap64 (6 + wrap64 (Int.tdiv t.1 8)); if 0 ≤ m ∧ m ≤ 9 then spec_l1Cur_among.f s0 t.2.1 t.2.2 (([4, 5, 3, 6, 2, 1, 0, 8, 7] : List Int).take m.toNat) else none)
set_option maxHeartbeats 8000000 in
set_option maxRecDepth 100000 in
theorem spec_l1Cur_size3.calls (g : Nat) (s0 : List Int) (s1 : Int) (s2 : Int) (r1 : Int) (r2 : Int) (r3 : Int) (w0 w : World) (hI : IsS69 w0 w g s0 s1 s2) (hB : Below w0.heap.size w0 w) (h : spec_l1Cur_size3.f s0 s1 s2 = some (r1, r2, r3)) :
    Calls Try.prog 88 #[.pointer (some ⟨g, 0, none⟩)] w fun e w' => e = .returned (.int .i64 r1) ∧ IsS69 w0 w' g s0 r2 r3 ∧ Below w0.heap.size w0 w' ∧ KeepBut w w' g none := by
  have HI := Aside0.mk hI
  have HB := Aside0.mk hB
  have HK := Aside0.mk (KeepBut.refl w g none)
  obtain ⟨⟨pA, u1, u2⟩, h1, h2⟩ := Option.bind_eq_some_iff.1 h
  have A1 := Aside0.mk h1
  clear hI hB h h1
  obtain ⟨qA, hqA⟩ : ∃ q, q = wrap64 (Int.tdiv pA 8) := ⟨_, rfl⟩
  obtain ⟨mA, hmmA⟩ : ∃ m, m = wrap64 (6 + qA) := ⟨_, rfl⟩
  have zqA : wrap64 (Int.tdiv pA 8) = qA := hqA.symm
  have zmA : wrap64 (6 + qA) = mA := hmmA.symm
  have zqA_ : IntKind.i64.wrap (Int.tdiv pA 8) = qA := (i64_w _).trans zqA
  have zmA_ : IntKind.i64.wrap (6 + qA) = mA := (i64_w _).trans zmA
  simp only [zqA, zmA] at h2
  by_cases hmA : 0 ≤ mA ∧ mA ≤ 9
  case neg => rw [if_neg hmA] at h2; exact absurd h2 (by simp)
  rw [if_pos hmA] at h2
  have HMA := Aside0.mk hmA
  have A2 := Aside0.mk h2
  clear h2 hmA hqA hmmA
  go_enter Try.func88, Try.ntmps88
  obtain ⟨yA, hyA⟩ : ∃ y : List Int, y = [4, 5, 3, 6, 2, 1, 0, 8, 7] := ⟨_, rfl⟩
  (repeat ((fail_if_success (with_reducible refine gate_dst (N := 4) rfl ?_)); first | go_values | go_skip | go_guarded | go_step | go_upon | go_back | go_simp))
  refine Kd.R_lit (Kd.int .i64) _ 3 ?hg (N := 4) ?hd (xs := ([4, 5, 3, 6, 2, 1, 0, 8, 7] : List Int)) (inner := [.int .i64 (4), .int .i64 (5), .int .i64 (3), .int .i64 (6), .int .i64 (2), .int .i64 (1), .int .i64 (0), .int .i64 (8), .int .i64 (7)]) (ok := fun _ => True) (okp := fun _ => True) ?hr ?hp (fun _ hk => hk) trivial (Below.refl _ _) (Nat.le_refl _) (by simp) ?_
  case hd => rfl
  case hg => rfl
  case hr => first | (go_simp; done) | (go_simp; rfl)
  case hp => exact (Reps.one (show Kd.M (Kd.int .i64) _ _ _ (4) [.int .i64 (4)] from rfl) (Reps.one (show Kd.M (Kd.int .i64) _ _ _ (5) [.int .i64 (5)] from rfl) (Reps.one (show Kd.M (Kd.int .i64) _ _ _ (3) [.int .i64 (3)] from rfl) (Reps.one (show Kd.M (Kd.int .i64) _ _ _ (6) [.int .i64 (6)] from rfl) (Reps.one (show Kd.M (Kd.int .i64) _ _ _ (2) [.int .i64 (2)] from rfl) (Reps.one (show Kd.M (Kd.int .i64) _ _ _ (1) [.int .i64 (1)] from rfl) (Reps.one (show Kd.M (Kd.int .i64) _ _ _ (0) [.int .i64 (0)] from rfl) (Reps.one (show Kd.M (Kd.int .i64) _ _ _ (8) [.int .i64 (8)] from rfl) (Reps.one (show Kd.M (Kd.int .i64) _ _ _ (7) [.int .i64 (7)] from rfl) (Reps.none _ _))))))))))
  intro vA w1 ho hb hg_ hnew_
  clear hg_ hnew_
  rw [← hyA] at ho
  have NYA := Aside0.mk hyA
  clear hyA
  have HVA := Aside0.mk (Kd.R_lower (Kd.R_mono (ok' := fun k_ => k_ ≠ g) (Kd.R_bound ho) (fun k_ h_ => by have h1_ := HI.out.lt; have h2_ := h_.2.1; exact fun h3_ => by omega)) HB.out.size)
  have ni_ := Aside0.mk (HI.out.below hb)
  have nb_ := Aside0.mk (below_step HB.out hb)
  have nk_ := Aside0.mk (KeepBut.trans HK.out (KeepBut.of_below hb g none) (.inl rfl))
  clear HI HB HK hb ho
  have HI := ni_
  have HB := nb_
  have HK := nk_
  clear ni_ nb_ nk_
  obtain ⟨bA, cA, eA, _, _, _⟩ := Kd.R_form HVA.out (by rw [NYA.out]; decide)
  subst eA
  have CCA := Aside0.mk (Kd.R_reads' HVA.out).2.1
  rw [← NYA.out] at A2
  (repeat ((fail_if_success (with_reducible refine gate_callee (f := 52) rfl ?_)); first | go_values | go_skip | go_guarded | go_step | go_upon | go_back | go_simp))
  refine goesL_ (some 6) rfl rfl Try.func52 (by kernel_rfl) rfl #[.pointer (some ⟨g, 0, none⟩), .int .i64 24] rfl (by (try simp only [List.map_toArray, List.map_cons, List.map_nil]); first | done | rfl) ?_
  refine (spec_l1Cur_pick.calls g s0 s1 s2 24 pA u1 u2 w0 _ HI.out HB.out A1.out).mono ?_
  rintro e w2 ⟨rfl, hi, hb, hk⟩
  refine ⟨_, rfl, ?_⟩
  have nA_ := Aside0.mk (Kd.R_keep HVA.out hk (fun _ h => h))
  have nk_ := Aside0.mk (KeepBut.trans HK.out hk (.inl rfl))
  clear HI HB HK hk HVA
  have HI := Aside0.mk hi
  have HB := Aside0.mk hb
  have HK := nk_
  clear nk_ hi hb
  have HVA := nA_
  have p1_A : (0 ≤ mA) = True := eq_true HMA.out.1
  have p2_A : (mA ≤ (cA : Int)) = True := eq_true (by have h1_ := HMA.out.2; have h2_ := CCA.out; have h3_ : yA.length = 9 := (by rw [NYA.out]; rfl); omega)
  (repeat ((fail_if_success (with_reducible refine gate_callee (f := 51) rfl ?_)); first | go_values | go_skip | go_guarded | go_step | go_upon | go_back | go_simp))
  obtain ⟨zA, hzA⟩ : ∃ z : List Int, z = yA.take mA.toNat := ⟨_, rfl⟩
  have hlA : mA.toNat = zA.length := by rw [hzA, List.length_take]; have h1_ := HMA.out; have h3_ : yA.length = 9 := (by rw [NYA.out]; rfl); omega
  refine goesL_ (some 10) rfl rfl Try.func51 (by kernel_rfl) rfl #[.pointer (some ⟨g, 0, none⟩), .slice (some ⟨bA, 0, none⟩) mA.toNat cA] rfl (by (try simp only [List.map_toArray, List.map_cons, List.map_nil]); first | done | rfl) ?_
  have hCA : Kd.C (Kd.int .i64) w2 (some ⟨bA, 0, none⟩) zA.length zA := by rw [hzA]; exact Kd.C_take (Kd.R_reads' HVA.out).2.2 (by have h1_ := HMA.out; have h3_ : yA.length = 9 := (by rw [NYA.out]; rfl); omega)
  rw [hlA]
  refine (spec_l1Cur_among.calls g s0 u1 u2 (some ⟨bA, 0, none⟩) cA zA r1 r2 r3 w0 _ HI.out HB.out hCA (by have := CCA.out; rw [← hlA]; have h1_ := HMA.out; have h3_ : yA.length = 9 := (by rw [NYA.out]; rfl); omega) (fun ad e_ _ => by cases e_; exact HVA.out.1 _ rfl) (show Aside0 (spec_l1Cur_among.f s0 u1 u2 zA = some (r1, r2, r3)) from ⟨by rw [hzA]; exact A2.out⟩).out).mono ?_
  rintro e w3 ⟨rfl, hi, hb, hk⟩
  refine ⟨_, rfl, ?_⟩
  have nk_ := Aside0.mk (KeepBut.trans HK.out hk (.inl rfl))
  clear HI HB HK hk HVA hCA hlA hzA
  have HI := Aside0.mk hi
  have HB := Aside0.mk hb
  have HK := nk_
  clear nk_ hi hb
  go_wp2
  go_ret
  exact ⟨rfl, HI.out, HB.out, HK.out⟩
def spec_DrawCountQueueable.f (l0 : List Int) : Option (Int × Int) := (spec_l1Cur_size3.f l0 0 0).bind fun s => ((spec_l1Cur_pick.f l0 s.2.1 s.2.2 24).bind fun t => (let m := wrap64 (4 + wrap64 (Int.tdiv t.1 11)); if 0 ≤ m ∧ m ≤ 6 then spec_l1Cur_among.f l0 t.2.1 t.2.2 (([2, 3, 1, 4, 0, 5] : List Int).take m.toNat) else none)).bind fun x => some (s.1, x.1)
set_option maxHeartbeats 8000000 in
set_option maxRecDepth 100000 in
theorem spec_DrawCountQueueable.calls (A0 : Option Addr) (c0 : Nat) (l0 : List Int) (r1 : Int) (r2 : Int) (w0 : World) (hr0 : Kd.C (Kd.int .u8) w0 A0 l0.length l0) (hc0 : l0.length ≤ c0) (h : spec_DrawCountQueueable.f l0 = some (r1, r2)) :
    Calls Try.prog 66 #[.slice A0 l0.length c0] w0 fun e w' => e = .returned (.tuple #[.int .i64 r1, .int .i64 r2]) ∧ Below w0.heap.size w0 w' := by
  have HB := Aside0.mk (Below.refl w0.heap.size w0)
  have HR0 := Aside0.mk hr0
  clear hr0 hc0
  obtain ⟨⟨n1, na, nb⟩, h1, hh⟩ := Option.bind_eq_some_iff.1 h
  have AS := Aside0.mk h1
  obtain ⟨⟨rr, ra, rb⟩, h2, h3⟩ := Option.bind_eq_some_iff.1 hh
  clear h hh h1
  obtain ⟨rfl, rfl⟩ := Prod.mk.inj (Option.some.inj h3)
  clear h3
  obtain ⟨⟨pA, uA1, uA2⟩, h1, h2⟩ := Option.bind_eq_some_iff.1 h2
  have A1 := Aside0.mk h1
  clear h1
  obtain ⟨qA, hqA⟩ : ∃ q, q = wrap64 (Int.tdiv pA 11) := ⟨_, rfl⟩
  obtain ⟨mA, hmmA⟩ : ∃ m, m = wrap64 (4 + qA) := ⟨_, rfl⟩
  have zqA : wrap64 (Int.tdiv pA 11) = qA := hqA.symm
  have zmA : wrap64 (4 + qA) = mA := hmmA.symm
  have zqA_ : IntKind.i64.wrap (Int.tdiv pA 11) = qA := (i64_w _).trans zqA
  have zmA_ : IntKind.i64.wrap (4 + qA) = mA := (i64_w _).trans zmA
  simp only [zqA, zmA] at h2
  by_cases hbA : 0 ≤ mA ∧ mA ≤ 6
  case neg => rw [if_neg hbA] at h2; exact absurd h2 (by simp)
  rw [if_pos hbA] at h2
  have HMA := Aside0.mk hbA
  have A2 := Aside0.mk h2
  clear h2 hbA hqA hmmA
  go_enter Try.func66, Try.ntmps66
  (repeat ((fail_if_success (with_reducible refine gate_dst (N := 7) rfl ?_)); first | go_values | go_skip | go_guarded | go_step | go_upon | go_back | go_simp))
  refine box_event ?hg (N := 7) ?hd (cs := #[.slice A0 l0.length c0, .int .i64 0, .int .u64 0]) (t := 69) ?hr ?_
  case hd => rfl
  case hg => rfl
  case hr => first | (go_simp; done) | (go_simp; rfl)
  intro g hg w1 hbox hb
  have HI := Aside0.mk (show IsS69 w0 w1 g l0 0 0 from ⟨A0, c0, hbox, by rw [hg]; exact below_size (by repeat (first | (with_reducible first | exact HB.out | apply below_alloc | apply pw_below_drewN | apply below_drew1) | exact HB.out)), HR0.out⟩)
  have nb_ := Aside0.mk (below_step (by repeat (first | (with_reducible first | exact HB.out | apply below_alloc | apply pw_below_drewN | apply below_drew1) | exact HB.out)) hb)
  clear HB hg hb hbox
  have HB := nb_
  clear nb_
  have HK := Aside0.mk (KeepBut.refl w1 g none)
  (repeat ((fail_if_success (with_reducible refine gate_callee (f := 88) rfl ?_)); first | go_values | go_skip | go_guarded | go_step | go_upon | go_back | go_simp))
  refine goesL_ (some 9) rfl rfl Try.func88 (by kernel_rfl) rfl #[.pointer (some ⟨g, 0, none⟩)] rfl (by (try simp only [List.map_toArray, List.map_cons, List.map_nil]); first | done | rfl) ?_
  refine (spec_l1Cur_size3.calls g l0 0 0 n1 na nb w0 _ HI.out HB.out AS.out).mono ?_
  rintro e w2 ⟨rfl, hi, hb, hk⟩
  refine ⟨_, rfl, ?_⟩
  have nk_ := Aside0.mk (KeepBut.trans HK.out hk (.inl rfl))
  clear HI HB HK hk
  have HI := Aside0.mk hi
  have HB := Aside0.mk hb
  have HK := nk_
  clear nk_ hi hb
  obtain ⟨yA, hyA⟩ : ∃ y : List Int, y = [2, 3, 1, 4, 0, 5] := ⟨_, rfl⟩
  (repeat ((fail_if_success (with_reducible refine gate_dst (N := 11) rfl ?_)); first | go_values | go_skip | go_guarded | go_step | go_upon | go_back | go_simp))
  refine Kd.R_lit (Kd.int .i64) _ 3 ?hg (N := 11) ?hd (xs := ([2, 3, 1, 4, 0, 5] : List Int)) (inner := [.int .i64 (2), .int .i64 (3), .int .i64 (1), .int .i64 (4), .int .i64 (0), .int .i64 (5)]) (ok := fun _ => True) (okp := fun _ => True) ?hr ?hp (fun _ hk => hk) trivial (Below.refl _ _) (Nat.le_refl _) (by simp) ?_
  case hd => rfl
  case hg => rfl
  case hr => first | (go_simp; done) | (go_simp; rfl)
  case hp => exact (Reps.one (show Kd.M (Kd.int .i64) _ _ _ (2) [.int .i64 (2)] from rfl) (Reps.one (show Kd.M (Kd.int .i64) _ _ _ (3) [.int .i64 (3)] from rfl) (Reps.one (show Kd.M (Kd.int .i64) _ _ _ (1) [.int .i64 (1)] from rfl) (Reps.one (show Kd.M (Kd.int .i64) _ _ _ (4) [.int .i64 (4)] from rfl) (Reps.one (show Kd.M (Kd.int .i64) _ _ _ (0) [.int .i64 (0)] from rfl) (Reps.one (show Kd.M (Kd.int .i64) _ _ _ (5) [.int .i64 (5)] from rfl) (Reps.none _ _)))))))
  intro vA w3 ho hb hg_ hnew_
  clear hg_ hnew_
  rw [← hyA] at ho
  have NYA := Aside0.mk hyA
  clear hyA
  have HVA := Aside0.mk (Kd.R_lower (Kd.R_mono (ok' := fun k_ => k_ ≠ g) (Kd.R_bound ho) (fun k_ h_ => by have h1_ := HI.out.lt; have h2_ := h_.2.1; exact fun h3_ => by omega)) HB.out.size)
  have ni_ := Aside0.mk (HI.out.below hb)
  have nb_ := Aside0.mk (below_step HB.out hb)
  have nk_ := Aside0.mk (KeepBut.trans HK.out (KeepBut.of_below hb g none) (.inl rfl))
  clear HI HB HK hb ho
  have HI := ni_
  have HB := nb_
  have HK := nk_
  clear ni_ nb_ nk_
  obtain ⟨bA, cA, eA, _, _, _⟩ := Kd.R_form HVA.out (by rw [NYA.out]; decide)
  subst eA
  have CCA := Aside0.mk (Kd.R_reads' HVA.out).2.1
  rw [← NYA.out] at A2
  (repeat ((fail_if_success (with_reducible refine gate_callee (f := 52) rfl ?_)); first | go_values | go_skip | go_guarded | go_step | go_upon | go_back | go_simp))
  refine goesL_ (some 13) rfl rfl Try.func52 (by kernel_rfl) rfl #[.pointer (some ⟨g, 0, none⟩), .int .i64 24] rfl (by (try simp only [List.map_toArray, List.map_cons, List.map_nil]); first | done | rfl) ?_
  refine (spec_l1Cur_pick.calls g l0 na nb 24 pA uA1 uA2 w0 _ HI.out HB.out A1.out).mono ?_
  rintro e w4 ⟨rfl, hi, hb, hk⟩
  refine ⟨_, rfl, ?_⟩
  have nA_ := Aside0.mk (Kd.R_keep HVA.out hk (fun _ h => h))
  have nk_ := Aside0.mk (KeepBut.trans HK.out hk (.inl rfl))
  clear HI HB HK hk HVA
  have HI := Aside0.mk hi
  have HB := Aside0.mk hb
  have HK := nk_
  clear nk_ hi hb
  have HVA := nA_
  have p1_A : (0 ≤ mA) = True := eq_true HMA.out.1
  have p2_A : (mA ≤ (cA : Int)) = True := eq_true (by have h1_ := HMA.out.2; have h2_ := CCA.out; have h3_ : yA.length = 6 := (by rw [NYA.out]; rfl); omega)
  (repeat ((fail_if_success (with_reducible refine gate_callee (f := 51) rfl ?_)); first | go_values | go_skip | go_guarded | go_step | go_upon | go_back | go_simp))
  obtain ⟨zA, hzA⟩ : ∃ z : List Int, z = yA.take mA.toNat := ⟨_, rfl⟩
  have hlA : mA.toNat = zA.length := by rw [hzA, List.length_take]; have h1_ := HMA.out; have h3_ : yA.length = 6 := (by rw [NYA.out]; rfl); omega
  refine goesL_ (some 17) rfl rfl Try.func51 (by kernel_rfl) rfl #[.pointer (some ⟨g, 0, none⟩), .slice (some ⟨bA, 0, none⟩) mA.toNat cA] rfl (by (try simp only [List.map_toArray, List.map_cons, List.map_nil]); first | done | rfl) ?_
  have hCA : Kd.C (Kd.int .i64) w4 (some ⟨bA, 0, none⟩) zA.length zA := by rw [hzA]; exact Kd.C_take (Kd.R_reads' HVA.out).2.2 (by have h1_ := HMA.out; have h3_ : yA.length = 6 := (by rw [NYA.out]; rfl); omega)
  rw [hlA]
  refine (spec_l1Cur_among.calls g l0 uA1 uA2 (some ⟨bA, 0, none⟩) cA zA rr ra rb w0 _ HI.out HB.out hCA (by have := CCA.out; rw [← hlA]; have h1_ := HMA.out; have h3_ : yA.length = 6 := (by rw [NYA.out]; rfl); omega) (fun ad e_ _ => by cases e_; exact HVA.out.1 _ rfl) (show Aside0 (spec_l1Cur_among.f l0 uA1 uA2 zA = some (rr, ra, rb)) from ⟨by rw [hzA]; exact A2.out⟩).out).mono ?_
  rintro e w5 ⟨rfl, hi, hb, hk⟩
  refine ⟨_, rfl, ?_⟩
  have nk_ := Aside0.mk (KeepBut.trans HK.out hk (.inl rfl))
  clear HI HB HK hk HVA hCA hlA hzA
  have HI := Aside0.mk hi
  have HB := Aside0.mk hb
  have HK := nk_
  clear nk_ hi hb
  go_wp2
  go_ret2
  exact ⟨rfl, HB.out⟩
def spec_DrawCountBeside.f (l0 : List Int) : Option (Int × Int) := (spec_DrawCountQueueable.f l0).bind fun bt395 => (some (bt395.1, bt395.2))
set_option maxHeartbeats 8000000 in
set_option maxRecDepth 100000 in
theorem spec_DrawCountBeside.calls (A0 : Option Addr) (c0 : Nat) (l0 : List Int) (r1 : Int) (r2 : Int) (w : World) (hr0 : Kd.C (Kd.int .u8) w A0 l0.length l0) (hc0 : l0.length ≤ c0) (h : spec_DrawCountBeside.f l0 = some (r1, r2)) :
    Calls Try.prog 35 #[.slice A0 l0.length c0] w fun e w' => e = .returned (.tuple #[.int .i64 r1, .int .i64 r2]) ∧ Below w.heap.size w w' := by
  have HR0 := Aside0.mk hr0
  have HC0 := Aside0.mk hc0
  clear hr0 hc0
  have HB := Aside0.mk (Below.refl w.heap.size w)
  have H : ((spec_DrawCountQueueable.f l0).bind fun bt395 => (some (bt395.1, bt395.2))) = some (r1, r2) := h
  clear h
  replace H := Option.bind_eq_some_iff.mp H
  obtain ⟨⟨t395, t396⟩, A20, H⟩ := H
  replace H : (some (t395, t396)) = some (r1, r2) := H
  have A2 := Aside0.mk A20
  clear A20
  simp only [Option.some.injEq, Prod.mk.injEq] at H
  obtain ⟨rfl, rfl⟩ := H
  go_enter Try.func35, Try.ntmps35
  go_wp2_with (first | ((with_reducible refine gate_callee (f := 66) rfl ?_); refine goesL_ (some 5) rfl rfl Try.func66 (by kernel_rfl) rfl #[.slice A0 l0.length c0] rfl (by (try simp only [List.map_toArray, List.map_cons, List.map_nil]); first | done | rfl | (simp only [List.length_drop, List.length_take]; rfl)) ?_; (with_reducible refine (spec_DrawCountQueueable.calls _ _ l0 t395 t396 _ ?side1 ?side2 A2.out).mono ?_); (case side1 => repeat (first | exact HR0.out | (with_reducible refine Kd.C_alloc ?_ _) | (with_reducible refine Kd.C_drewN ?_ _) | (with_reducible refine Kd.C_drew ?_))); (case side2 => exact HC0.out); rintro e w3 ⟨rfl, hb⟩; refine ⟨_, rfl, ?_⟩; have n0_ := Aside0.mk (below_step (by repeat (first | (with_reducible first | exact HB.out | apply below_alloc | apply pw_below_drewN | apply below_drew1) | exact HB.out)) hb); clear HB; have HB := n0_; clear n0_; (try clear hb); (try clear hb2); (try clear hk); (try clear hi)))
  go_ret2
  exact ⟨by first | rfl | (simp [errW_none, errW_some] <;> rfl) | (simp [*, errW_none, errW_some] <;> rfl), by repeat (first | (with_reducible first | exact HB.out | apply below_alloc | apply pw_below_drewN | apply below_drew1) | exact HB.out)⟩
mutual
def impl_CountBeside.j0 : Nat → Int → Int → Bool → Option (Int × Bool)
  | 0, _, _, _ => none
  | k + 1, x0, x1, x16 => if x16 = true then (some (0, false)) else ((impl_allOrders.f k x0).bind fun t399 => (impl_CountBeside.l0 k x1 0 t399 (t399.length : Int) 0))
def impl_CountBeside.l0 : Nat → Int → Int → List (List Int) → Int → Int → Option (Int × Bool)
  | 0, _, _, _, _, _ => none
  | k + 1, x1, x6, x18, x19, x20 => if x20 < x19 then (if 0 ≤ x20 then (if x20 < (x18.length : Int) then ((impl_fewestStacks.f k (rd_L5 x18 x20)).bind fun t403 => (if t403 ≤ x1 then (impl_CountBeside.l0 k x1 (wrap64 (x6 + 1)) x18 x19 (wrap64 (x20 + 1))) else (impl_CountBeside.l0 k x1 x6 x18 x19 (wrap64 (x20 + 1))))) else (none)) else (none)) else (some (x6, true))
end
def impl_CountBeside.f (k : Nat) (a0 : Int) (a1 : Int) : Option (Int × Bool) := (impl_isSize.f a0).bind fun t397 => (if t397 = true then ((impl_isStacks.f a1).bind fun t398 => (impl_CountBeside.j0 k a0 a1 (!t398))) else (impl_CountBeside.j0 k a0 a1 true))
theorem impl_CountBeside.mono_l : ∀ k, (∀ y0 y1 y2, LeO (impl_CountBeside.j0 k y0 y1 y2) (impl_CountBeside.j0 (k + 1) y0 y1 y2)) ∧ (∀ y0 y1 y2 y3 y4, LeO (impl_CountBeside.l0 k y0 y1 y2 y3 y4) (impl_CountBeside.l0 (k + 1) y0 y1 y2 y3 y4))
  | 0 => ⟨fun _ _ _ r h => by simp [impl_CountBeside.j0] at h, fun _ _ _ _ _ r h => by simp [impl_CountBeside.l0] at h⟩
  | k + 1 => by
    obtain ⟨ih0, ih1⟩ := impl_CountBeside.mono_l k
    refine ⟨?_, ?_⟩
    · intro y0 y1 y2
      unfold impl_CountBeside.j0
      repeat' first
      | (with_reducible exact ih0 _ _ _)
      | (with_reducible exact ih1 _ _ _ _ _)
      | (with_reducible exact impl_allOrders.mono _ _)
      | (with_reducible exact impl_fewestStacks.mono _ _)
      | (with_reducible exact LeO.refl _)
      | (with_reducible exact LeO.none _)
      | (with_reducible refine LeO.ite ?_ ?_)
      | (with_reducible refine LeO.bind ?_ (fun _ => ?_))
      | exact ih0 _ _ _
      | exact ih1 _ _ _ _ _
      | exact impl_allOrders.mono _ _
      | exact impl_fewestStacks.mono _ _
      | exact LeO.none _
      | refine LeO.ite ?_ ?_
      | refine LeO.bind ?_ (fun _ => ?_)
    · intro y0 y1 y2 y3 y4
      unfold impl_CountBeside.l0
      repeat' first
      | (with_reducible exact ih0 _ _ _)
      | (with_reducible exact ih1 _ _ _ _ _)
      | (with_reducible exact impl_allOrders.mono _ _)
      | (with_reducible exact impl_fewestStacks.mono _ _)
      | (with_reducible exact LeO.refl _)
      | (with_reducible exact LeO.none _)
      | (with_reducible refine LeO.ite ?_ ?_)
      | (with_reducible refine LeO.bind ?_ (fun _ => ?_))
      | exact ih0 _ _ _
      | exact ih1 _ _ _ _ _
      | exact impl_allOrders.mono _ _
      | exact impl_fewestStacks.mono _ _
      | exact LeO.none _
      | refine LeO.ite ?_ ?_
      | refine LeO.bind ?_ (fun _ => ?_)
theorem impl_CountBeside.mono : ∀ a0 a1 k, LeO (impl_CountBeside.f k a0 a1) (impl_CountBeside.f (k + 1) a0 a1) := by
  intro a0 a1 k
  obtain ⟨ih0, ih1⟩ := impl_CountBeside.mono_l k
  unfold impl_CountBeside.f
  repeat' first
      | (with_reducible exact ih0 _ _ _)
      | (with_reducible exact ih1 _ _ _ _ _)
      | (with_reducible exact impl_allOrders.mono _ _)
      | (with_reducible exact impl_fewestStacks.mono _ _)
      | (with_reducible exact LeO.refl _)
      | (with_reducible exact LeO.none _)
      | (with_reducible refine LeO.ite ?_ ?_)
      | (with_reducible refine LeO.bind ?_ (fun _ => ?_))
      | exact ih0 _ _ _
      | exact ih1 _ _ _ _ _
      | exact impl_allOrders.mono _ _
      | exact impl_fewestStacks.mono _ _
      | exact LeO.none _
      | refine LeO.ite ?_ ?_
      | refine LeO.bind ?_ (fun _ => ?_)
set_option maxHeartbeats 8000000 in
set_option maxRecDepth 100000 in
theorem impl_CountBeside.calls (k : Nat) (a0 : Int) (a1 : Int) (r1 : Int) (r2 : Bool) (w : World) (h : impl_CountBeside.f k a0 a1 = some (r1, r2)) :
    Calls Try.prog 36 #[.int .i64 a0, .int .i64 a1] w fun e w' => e = .returned (.tuple #[.int .i64 r1, .bool r2]) ∧ Below w.heap.size w w' := by
  have HB := Aside0.mk (Below.refl w.heap.size w)
  have H : ((impl_isSize.f a0).bind fun t397 => (if t397 = true then ((impl_isStacks.f a1).bind fun t398 => (impl_CountBeside.j0 k a0 a1 (!t398))) else (impl_CountBeside.j0 k a0 a1 true))) = some (r1, r2) := h
  clear h
  have HC3 := Aside0.mk H
  clear H
  go_enter Try.func36, Try.ntmps36
  go_upto_region 1 with (fail)
  go_cut [16] (fun v16 wc => ∃ (kq : Nat) (x16_2 : Bool), v16 = .bool x16_2 ∧ Aside0 (impl_CountBeside.j0 kq a0 a1 x16_2 = some (r1, r2)) ∧ Aside0 (kq ≤ k) ∧ Aside0 (Below w.heap.size w wc))
  case first =>
    have H := HC3.out
    clear HC3
    replace H := Option.bind_eq_some_iff.mp H
    obtain ⟨t397, A40, H⟩ := H
    replace H : (if t397 = true then ((impl_isStacks.f a1).bind fun t398 => (impl_CountBeside.j0 k a0 a1 (!t398))) else (impl_CountBeside.j0 k a0 a1 true)) = some (r1, r2) := H
    have A4 := Aside0.mk A40
    clear A40
    by_cases c5 : t397 = true
    · subst c5
      have H1 : ((impl_isStacks.f a1).bind fun t398 => (impl_CountBeside.j0 k a0 a1 (!t398))) = some (r1, r2) := by rw [if_pos rfl] at H; exact H
      clear H
      have H := H1
      clear H1
      replace H := Option.bind_eq_some_iff.mp H
      obtain ⟨t398, A60, H⟩ := H
      replace H : (impl_CountBeside.j0 k a0 a1 (!t398)) = some (r1, r2) := H
      have A6 := Aside0.mk A60
      clear A60
      have H' := Aside0.mk H
      clear H
      go_wp2_with (first | ((with_reducible refine gate_callee (f := 62) rfl ?_); refine goesL_ (some 10) rfl rfl Try.func62 (by kernel_rfl) rfl #[.int .i64 a0] rfl (by (try simp only [List.map_toArray, List.map_cons, List.map_nil]); first | done | rfl | (simp only [List.length_drop, List.length_take]; rfl)) ?_; (with_reducible refine (impl_isSize.calls a0 true _ A4.out).mono ?_); rintro e w' ⟨rfl, ⟨nd, rfl⟩⟩; refine ⟨_, rfl, ?_⟩) | (go_at_call 58; (with_reducible refine (impl_isStacks.calls a1 t398 _ A6.out).mono ?_); rintro e w' ⟨rfl, ⟨nd, rfl⟩⟩))
      go_meet
      case rel => exact ⟨_, (!t398), (by first | rfl | (simp; done) | (simp [*]; done)), H', ⟨by first | omega | exact Nat.le_refl _⟩, ⟨by repeat (first | (with_reducible first | exact HB.out | apply below_alloc | apply pw_below_drewN | apply below_drew1) | exact HB.out)⟩⟩
    · replace c5 := Bool.eq_false_iff.mpr c5
      subst c5
      have H1 : (impl_CountBeside.j0 k a0 a1 true) = some (r1, r2) := by rw [if_neg (show ¬ (false = true) by decide)] at H; exact H
      clear H
      have H := H1
      clear H1
      have H' := Aside0.mk H
      clear H
      go_wp2_with (first | ((with_reducible refine gate_callee (f := 62) rfl ?_); refine goesL_ (some 10) rfl rfl Try.func62 (by kernel_rfl) rfl #[.int .i64 a0] rfl (by (try simp only [List.map_toArray, List.map_cons, List.map_nil]); first | done | rfl | (simp only [List.length_drop, List.length_take]; rfl)) ?_; (with_reducible refine (impl_isSize.calls a0 false _ A4.out).mono ?_); rintro e w' ⟨rfl, ⟨nd, rfl⟩⟩; refine ⟨_, rfl, ?_⟩))
      go_meet
      case rel => exact ⟨_, (true), (by first | rfl | (simp; done) | (simp [*]; done)), H', ⟨by first | omega | exact Nat.le_refl _⟩, ⟨by repeat (first | (with_reducible first | exact HB.out | apply below_alloc | apply pw_below_drewN | apply below_drew1) | exact HB.out)⟩⟩
  case rest =>
    clear HC3
    try clear p2
    try clear c3
    try clear c5
    try clear c6
    obtain ⟨kq, x16_2, rfl, HA, HJ2, HB⟩ := hcut
    cases kq with
    | zero => exact absurd HA.out (by simp [impl_CountBeside.j0])
    | succ kj2 =>
      have H := HA.out
      clear HA
      simp only [impl_CountBeside.j0] at H
      by_cases c7 : x16_2 = true
      · subst c7
        have H1 : (some (0, false)) = some (r1, r2) := by rw [if_pos rfl] at H; exact H
        clear H
        have H := H1
        clear H1
        simp only [Option.some.injEq, Prod.mk.injEq] at H
        obtain ⟨rfl, rfl⟩ := H
        go_wp2
        go_ret2
        exact ⟨by first | rfl | (simp [errW_none, errW_some] <;> rfl) | (simp [*, errW_none, errW_some] <;> rfl), by repeat (first | (with_reducible first | exact HB.out | apply below_alloc | apply pw_below_drewN | apply below_drew1) | exact HB.out)⟩
      · replace c7 := Bool.eq_false_iff.mpr c7
        subst c7
        have H1 : ((impl_allOrders.f kj2 a0).bind fun t399 => (impl_CountBeside.l0 kj2 a1 0 t399 (t399.length : Int) 0)) = some (r1, r2) := by rw [if_neg (show ¬ (false = true) by decide)] at H; exact H
        clear H
        have H := H1
        clear H1
        replace H := Option.bind_eq_some_iff.mp H
        obtain ⟨t399, A80, H⟩ := H
        replace H : (impl_CountBeside.l0 kj2 a1 0 t399 (t399.length : Int) 0) = some (r1, r2) := H
        have A8 := Aside0.mk A80
        clear A80
        have H' := Aside0.mk H
        clear H
        go_wp2_with (first | ((with_reducible refine gate_callee (f := 63) rfl ?_); refine goesL_ (some 18) rfl rfl Try.func63 (by kernel_rfl) rfl #[.int .i64 a0] rfl (by (try simp only [List.map_toArray, List.map_cons, List.map_nil]); first | done | rfl | (simp only [List.length_drop, List.length_take]; rfl)) ?_; (with_reducible refine (impl_allOrders.calls kj2 a0 t399 _ A8.out).mono ?_); rintro e w9 ⟨v400, rfl, ho0, hb⟩; refine ⟨_, rfl, ?_⟩; have n0_ := Aside0.mk (Kd.S_lower ho0 (below_size (by repeat (first | (with_reducible first | exact HB.out | apply below_alloc | apply pw_below_drewN | apply below_drew1) | exact HB.out)))); have n1_ := Aside0.mk (below_step (by repeat (first | (with_reducible first | exact HB.out | apply below_alloc | apply pw_below_drewN | apply below_drew1) | exact HB.out)) hb); clear HB; have HO401 := n0_; have HB := n1_; clear n0_ n1_; (try clear hb); (try clear hb2); (try clear hk); (try clear hi); (try clear ho0); obtain ⟨Ao10, co10, eo10⟩ := Kd.S_slice HO401.out; subst eo10))
        go_loopg [6, 20] kj2 (fun kq v6 v20 w' => ∃ (x6_2 : Int) (x20_2 : Int), v6 = .int .i64 x6_2 ∧ v20 = .int .i64 x20_2 ∧ Aside0 (impl_CountBeside.l0 kq a1 x6_2 t399 (t399.length : Int) x20_2 = some (r1, r2)) ∧ Aside0 (kq ≤ kj2) ∧ Aside0 (Kd.S (Kd.slice 3 (Kd.int .i64)) 24 w' w.heap.size (fun _ => True) (.slice Ao10 t399.length co10) t399) ∧ Aside0 (Below w.heap.size w w'))
        case atStart => exact ⟨(0), (0), (by first | rfl | (simp; done) | (simp [*]; done)), (by first | rfl | (simp; done) | (simp [*]; done)), H', ⟨Nat.le_refl _⟩, ⟨by (with_reducible repeat (first | apply Kd.S_alloc | apply Kd.S_drewN | apply Kd.S_drew)); exact HO401.out⟩, ⟨by repeat (first | (with_reducible first | exact HB.out | apply below_alloc | apply pw_below_drewN | apply below_drew1) | exact HB.out)⟩⟩
        case round =>
          clear H'
          try clear p2
          try clear c3
          try clear c5
          try clear c6
          try clear c7
          try clear p2
          obtain ⟨x6_2, x20_2, rfl, rfl, HA, HK2, HO_18, HB⟩ := hrel
          cases gk with
          | zero => exact absurd HA.out (by simp [impl_CountBeside.l0])
          | succ k2 =>
            have H := HA.out
            clear HA
            simp only [impl_CountBeside.l0] at H
            by_cases c11 : x20_2 < (t399.length : Int)
            · rw [if_pos c11] at H
              have c11b0 : decide (x20_2 < (t399.length : Int)) = true := decide_eq_true c11
              clear c11
              by_cases c12 : 0 ≤ x20_2
              · rw [if_pos c12] at H
                have c12b0 : decide (0 ≤ x20_2) = true := decide_eq_true c12
                clear c12
                by_cases c13 : x20_2 < (t399.length : Int)
                · rw [if_pos c13] at H
                  have c13b0 : decide (x20_2 < (t399.length : Int)) = true := decide_eq_true c13
                  clear c13
                  replace H := Option.bind_eq_some_iff.mp H
                  obtain ⟨t403, A140, H⟩ := H
                  replace H : (if t403 ≤ a1 then (impl_CountBeside.l0 k2 a1 (wrap64 (x6_2 + 1)) t399 (t399.length : Int) (wrap64 (x20_2 + 1))) else (impl_CountBeside.l0 k2 a1 x6_2 t399 (t399.length : Int) (wrap64 (x20_2 + 1)))) = some (r1, r2) := H
                  have A14 := Aside0.mk A140
                  clear A140
                  by_cases c15 : t403 ≤ a1
                  · rw [if_pos c15] at H
                    have c15b0 : decide (t403 ≤ a1) = true := decide_eq_true c15
                    clear c15
                    have H' := Aside0.mk H
                    clear H
                    have p402 : 0 ≤ (x20_2 : Int) := of_decide_eq_true (by first | (with_reducible assumption) | assumption)
                    have q402 : x20_2 < (t399.length : Int) := of_decide_eq_true (by first | (with_reducible assumption) | assumption)
                    obtain ⟨ad402, A402_0, c402_0, e402, hx402_0, hl402_0, hi402_0⟩ := at_L5 (Kd.S_reads' HO_18.out).2.2 x20_2 p402 q402
                    cases e402
                    obtain ⟨ce402, hce402, hMe402, hcc402⟩ := Kd.S_get HO_18.out [] x20_2 p402 (by first | exact q402 | exact of_decide_eq_true (by first | (with_reducible assumption) | assumption) | (have e_ := (Kd.S_reads' HO_18.out).1; omega))
                    obtain ⟨ve402_0, rfl, ge402_0⟩ := hMe402
                    have hv402_0 := hcc402 0 _ rfl
                    rw [Nat.add_zero, show ((Kd.slice 3 (Kd.int .i64))).sz = 1 from rfl, Nat.mul_one] at hv402_0
                    replace hv402_0 := Option.some.inj (hv402_0.symm.trans hx402_0)
                    rw [hv402_0] at ge402_0
                    have HL402_0 := Aside0.mk (show Kd.R (Kd.int .i64) 3 _ _ _ _ (rd_L5 t399 x20_2) from ge402_0)
                    clear hv402_0 ge402_0
                    clear hcc402 hce402
                    have HR402_0 := Aside0.mk hi402_0
                    have HC402_0 := Aside0.mk hl402_0
                    clear hi402_0 hl402_0
                    replace p402 := eq_true p402
                    replace q402 := eq_true q402
                    go_wp2_with (first | ((with_reducible refine gate_callee (f := 53) rfl ?_); refine goesL_ (some 25) rfl rfl Try.func53 (by kernel_rfl) rfl #[.slice A402_0 (rd_L5 t399 x20_2).length c402_0] rfl (by (try simp only [List.map_toArray, List.map_cons, List.map_nil]); first | done | rfl | (simp only [List.length_drop, List.length_take]; rfl)) ?_; (with_reducible refine (impl_fewestStacks.calls k2 _ _ (rd_L5 t399 x20_2) t403 _ ?side1 ?side2 A14.out).mono ?_); (case side1 => repeat (first | exact (by repeat (first | (with_reducible exact HR402_0.out) | (with_reducible refine Kd.C_alloc ?_ _) | (with_reducible refine Kd.C_drewN ?_ _) | (with_reducible refine Kd.C_drew ?_) | exact HR402_0.out)) | (with_reducible refine Kd.C_alloc ?_ _) | (with_reducible refine Kd.C_drewN ?_ _) | (with_reducible refine Kd.C_drew ?_))); (case side2 => exact HC402_0.out); rintro e w16 ⟨rfl, hb⟩; refine ⟨_, rfl, ?_⟩; have n0_ := Aside0.mk (Kd.S_below (by (with_reducible repeat (first | apply Kd.S_alloc | apply Kd.S_drewN | apply Kd.S_drew)); exact HO_18.out) hb); have n1_ := Aside0.mk (Kd.R_below (by (with_reducible repeat (first | apply Kd.R_alloc | apply Kd.R_drewN | apply Kd.R_drew)); exact HL402_0.out) hb); have n2_ := Aside0.mk (Kd.C_below (by repeat (first | (with_reducible exact HR402_0.out) | (with_reducible refine Kd.C_alloc ?_ _) | (with_reducible refine Kd.C_drewN ?_ _) | (with_reducible refine Kd.C_drew ?_) | exact HR402_0.out)) hb); have n3_ := Aside0.mk (below_step (by repeat (first | (with_reducible first | exact HB.out | apply below_alloc | apply pw_below_drewN | apply below_drew1) | exact HB.out)) hb); clear HO_18; clear HL402_0; clear HR402_0; clear HB; have HO_18 := n0_; have HL402_0 := n1_; have HR402_0 := n2_; have HB := n3_; clear n0_ n1_ n2_ n3_; (try clear hb); (try clear hb2); (try clear hk); (try clear hi)))
                    go_roundg k2
                    case measure => have := HJ2.out; have := HK2.out; omega
                    case rel => exact ⟨(wrap64 (x6_2 + 1)), (wrap64 (x20_2 + 1)), (by first | rfl | (simp; done) | (simp [*]; done)), (by first | rfl | (simp; done) | (simp [*]; done)), H', ⟨by have := HJ2.out; have := HK2.out; omega⟩, ⟨by (with_reducible repeat (first | apply Kd.S_alloc | apply Kd.S_drewN | apply Kd.S_drew)); exact HO_18.out⟩, ⟨by repeat (first | (with_reducible first | exact HB.out | apply below_alloc | apply pw_below_drewN | apply below_drew1) | exact HB.out)⟩⟩
                  · rw [if_neg c15] at H
                    have c15b0 : decide (t403 ≤ a1) = false := decide_eq_false c15
                    clear c15
                    have H' := Aside0.mk H
                    clear H
                    have p402 : 0 ≤ (x20_2 : Int) := of_decide_eq_true (by first | (with_reducible assumption) | assumption)
                    have q402 : x20_2 < (t399.length : Int) := of_decide_eq_true (by first | (with_reducible assumption) | assumption)
                    obtain ⟨ad402, A402_0, c402_0, e402, hx402_0, hl402_0, hi402_0⟩ := at_L5 (Kd.S_reads' HO_18.out).2.2 x20_2 p402 q402
                    cases e402
                    obtain ⟨ce402, hce402, hMe402, hcc402⟩ := Kd.S_get HO_18.out [] x20_2 p402 (by first | exact q402 | exact of_decide_eq_true (by first | (with_reducible assumption) | assumption) | (have e_ := (Kd.S_reads' HO_18.out).1; omega))
                    obtain ⟨ve402_0, rfl, ge402_0⟩ := hMe402
                    have hv402_0 := hcc402 0 _ rfl
                    rw [Nat.add_zero, show ((Kd.slice 3 (Kd.int .i64))).sz = 1 from rfl, Nat.mul_one] at hv402_0
                    replace hv402_0 := Option.some.inj (hv402_0.symm.trans hx402_0)
                    rw [hv402_0] at ge402_0
                    have HL402_0 := Aside0.mk (show Kd.R (Kd.int .i64) 3 _ _ _ _ (rd_L5 t399 x20_2) from ge402_0)
                    clear hv402_0 ge402_0
                    clear hcc402 hce402
                    have HR402_0 := Aside0.mk hi402_0
                    have HC402_0 := Aside0.mk hl402_0
                    clear hi402_0 hl402_0
                    replace p402 := eq_true p402
                    replace q402 := eq_true q402
                    go_wp2_with (first | ((with_reducible refine gate_callee (f := 53) rfl ?_); refine goesL_ (some 25) rfl rfl Try.func53 (by kernel_rfl) rfl #[.slice A402_0 (rd_L5 t399 x20_2).length c402_0] rfl (by (try simp only [List.map_toArray, List.map_cons, List.map_nil]); first | done | rfl | (simp only [List.length_drop, List.length_take]; rfl)) ?_; (with_reducible refine (impl_fewestStacks.calls k2 _ _ (rd_L5 t399 x20_2) t403 _ ?side1 ?side2 A14.out).mono ?_); (case side1 => repeat (first | exact (by repeat (first | (with_reducible exact HR402_0.out) | (with_reducible refine Kd.C_alloc ?_ _) | (with_reducible refine Kd.C_drewN ?_ _) | (with_reducible refine Kd.C_drew ?_) | exact HR402_0.out)) | (with_reducible refine Kd.C_alloc ?_ _) | (with_reducible refine Kd.C_drewN ?_ _) | (with_reducible refine Kd.C_drew ?_))); (case side2 => exact HC402_0.out); rintro e w17 ⟨rfl, hb⟩; refine ⟨_, rfl, ?_⟩; have n0_ := Aside0.mk (Kd.S_below (by (with_reducible repeat (first | apply Kd.S_alloc | apply Kd.S_drewN | apply Kd.S_drew)); exact HO_18.out) hb); have n1_ := Aside0.mk (Kd.R_below (by (with_reducible repeat (first | apply Kd.R_alloc | apply Kd.R_drewN | apply Kd.R_drew)); exact HL402_0.out) hb); have n2_ := Aside0.mk (Kd.C_below (by repeat (first | (with_reducible exact HR402_0.out) | (with_reducible refine Kd.C_alloc ?_ _) | (with_reducible refine Kd.C_drewN ?_ _) | (with_reducible refine Kd.C_drew ?_) | exact HR402_0.out)) hb); have n3_ := Aside0.mk (below_step (by repeat (first | (with_reducible first | exact HB.out | apply below_alloc | apply pw_below_drewN | apply below_drew1) | exact HB.out)) hb); clear HO_18; clear HL402_0; clear HR402_0; clear HB; have HO_18 := n0_; have HL402_0 := n1_; have HR402_0 := n2_; have HB := n3_; clear n0_ n1_ n2_ n3_; (try clear hb); (try clear hb2); (try clear hk); (try clear hi)))
                    go_roundg k2
                    case measure => have := HJ2.out; have := HK2.out; omega
                    case rel => exact ⟨(x6_2), (wrap64 (x20_2 + 1)), (by first | rfl | (simp; done) | (simp [*]; done)), (by first | rfl | (simp; done) | (simp [*]; done)), H', ⟨by have := HJ2.out; have := HK2.out; omega⟩, ⟨by (with_reducible repeat (first | apply Kd.S_alloc | apply Kd.S_drewN | apply Kd.S_drew)); exact HO_18.out⟩, ⟨by repeat (first | (with_reducible first | exact HB.out | apply below_alloc | apply pw_below_drewN | apply below_drew1) | exact HB.out)⟩⟩
                · rw [if_neg c13] at H
                  exact absurd H (by simp)
              · rw [if_neg c12] at H
                exact absurd H (by simp)
            · rw [if_neg c11] at H
              have c11b0 : decide (x20_2 < (t399.length : Int)) = false := decide_eq_false c11
              clear c11
              simp only [Option.some.injEq, Prod.mk.injEq] at H
              obtain ⟨rfl, rfl⟩ := H
              go_wp2
              go_ret2
              exact ⟨by first | rfl | (simp [errW_none, errW_some] <;> rfl) | (simp [*, errW_none, errW_some] <;> rfl), by repeat (first | (with_reducible first | exact HB.out | apply below_alloc | apply pw_below_drewN | apply below_drew1) | exact HB.out)⟩
end Go.Proofs.Ytmgekfoiamjijaa.PFnStacks
