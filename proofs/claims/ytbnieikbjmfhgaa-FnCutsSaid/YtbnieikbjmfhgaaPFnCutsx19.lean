-- laid by mkprint.py, a program of this claim's writer, over the kit's print program; parts of it are typed by hand
import Derived.Test.YtbnieikbjmfhgaaPFnCutsx0
import Derived.Test.YtbnieikbjmfhgaaPFnCutsx1
import Derived.Test.YtbnieikbjmfhgaaPFnCutsx3
import Derived.Test.YtbnieikbjmfhgaaPFnCutsx5
import Derived.Test.YtbnieikbjmfhgaaPFnCutsx7
import Derived.Test.YtbnieikbjmfhgaaPFnCutsx8
import Derived.Test.YtbnieikbjmfhgaaPFnCutsx10
import Derived.Test.YtbnieikbjmfhgaaPFnCutsx12
import Derived.Test.YtbnieikbjmfhgaaPFnCutsx13
import Derived.Test.YtbnieikbjmfhgaaPFnCutsx14
import Derived.Test.YtbnieikbjmfhgaaPFnCutsx15
import Derived.Test.YtbnieikbjmfhgaaPFnCutsx16
import Derived.Test.YtbnieikbjmfhgaaPFnCutsx17
import Derived.Test.YtbnieikbjmfhgaaPFnCutsx18
namespace Go.Proofs.Ytbnieikbjmfhgaa.PFnCuts
open Go.RowKit Go.Proofs.YtbnieikbjmfhgaaW.PrintWords Go.Proofs.YtbnieikbjmfhgaaW.PrintLast Go.Proofs.YtbnieikbjmfhgaaW.PrintMore
attribute [local go_sem] max2_int min2_int max_two min_two max_three min_three max_four min_four
set_option linter.unusedVariables false
set_option linter.unusedSimpArgs false
theorem gate_if {P : Program} (id : Nat) {ops : Array Oper} {dr : Bool} {x y : Code} {Q : Exit → Act → World → Prop} {a : Act} {w : World} (h : (((Code.region id ops dr).seq x).seq y).wp P Q a w) : (((Code.region id ops dr).seq x).seq y).wp P Q a w := h
theorem wp_joina {P : Program} {x y : Code} {Q : Exit → Act → World → Prop} {a : Act} {w : World} (R : Act → Act → World → Prop) (hx : x.wp P (Exit.then (R a) Q) a w) (hy : ∀ a' w', R a a' w' → y.wp P Q a' w') : (x.seq y).wp P Q a w :=
  wp_seq (wp_mono hx (by intro e a w h; cases e <;> first | exact hy _ _ h | exact h))
def overL : List Value → List Value → List Value
  | l, [] => l
  | _ :: l, x :: xs => x :: overL l xs
  | [], _ :: _ => []
def setRun : List Value → Nat → List Value → List Value
  | l, 0, xs => overL l xs
  | a :: l, n + 1, xs => a :: setRun l n xs
  | [], _ + 1, _ => []
theorem overL_nil (l : List Value) : overL l [] = l := by cases l <;> rfl
theorem overL_cons (a x : Value) (l xs : List Value) : overL (a :: l) (x :: xs) = x :: overL l xs := rfl
theorem setRun_zero (l xs : List Value) : setRun l 0 xs = overL l xs := by cases l <;> rfl
theorem setRun_succ (a : Value) (l : List Value) (n : Nat) (xs : List Value) : setRun (a :: l) (n + 1) xs = a :: setRun l n xs := rfl
def putRuns (a : Act) (r : List (Nat × List Value)) : Act := ⟨(r.foldl (fun l p => setRun l p.1 p.2) a.tmps.toList).toArray, a.defers⟩
structure laws_FnCuts.Fact (k : Nat) (l0 : List Int) (o : List Int) (cu : List Int) (out : List Int) (ok : Bool) (n : Int) (li : List Int) (ac : Bool) (a : List Int) (b : List Int) (tc : List Int) (one : Bool) (m : Int) (kk : Int) (at_ : List Int) (two : Bool) (x : List Int) (rank : Int) (three : Bool) (wd : ByteArray) (p : List Int) (q : List Int) (first : List Int) (second : List Int) (five : Bool) (mid : List Int) (w2d : ByteArray) : Prop where
  f55 : laws_rBig.f l0 = some (false)
  f58 : spec_DrawRunCuts.f k l0 = some (o, cu)
  f64 : impl_RunCuts.f k o cu = some (out, ok)
  f70 : spec_RunCuts.f k o cu = some (out, ok)
  f79 : laws_rInts.f k out out = some (true)
  f84 : spec_DrawAreCuts.f k l0 = some (n, li)
  f89 : impl_AreCuts.f k n li = some (ac)
  f92 : spec_AreCuts.f k n li = some (ac)
  f96 : spec_DrawCutsTo.f k l0 = some (a, b)
  f102 : impl_CutsTo.f k a b = some (tc, one)
  f108 : spec_CutsTo.f k a b = some (tc, one)
  f117 : laws_rInts.f k tc tc = some (true)
  f122 : spec_DrawCutsAt.f l0 = some (m, kk)
  f128 : impl_CutsAt.f k m kk = some (at_, two)
  f134 : spec_CutsAt.f k m kk = some (at_, two)
  f143 : laws_rInts.f k at_ at_ = some (true)
  f147 : spec_DrawRankOfCuts.f k l0 = some (x)
  f150 : impl_RankOfCuts.f k x = some (rank, three)
  f155 : spec_RankOfCuts.f k x = some (rank, three)
  f168 : impl_CutsWord.f k x = some (wd, three)
  f173 : spec_CutsWord.f k x = some (wd, three)
  f191 : spec_DrawTwoCuts.f k l0 = some (p, q)
  f197 : impl_TwoCuts.f k p q = some (first, second, five)
  f204 : spec_TwoCuts.f k p q = some (first, second, five)
  f214 : laws_rInts.f k first first = some (true)
  f220 : laws_rInts.f k second second = some (true)
  bb : laws_rInts.f k b b = some true
  qq : laws_rInts.f k q q = some true
  oo : laws_rInts.f k o o = some true
  l1 : one = true → impl_RunCuts.f k a tc = some (b, true)
  l2 : two = true → impl_RankOfCuts.f k at_ = some (kk, true)
  l3 : three = true → impl_IsWord.f k wd = some true
  l4 : five = true → impl_RunCuts.f k p first = some (mid, true)
  l5 : five = true → impl_RunCuts.f k mid second = some (q, true)
  l6 : ok = true → impl_RunCuts.f k out cu = some (o, true)
  l7 : ok = true → impl_CutsWord.f k cu = some (w2d, true)
  l8 : ok = true → impl_RunWord.f k o w2d = some (out, true)
set_option maxHeartbeats 16000000 in
set_option maxRecDepth 100000 in
theorem laws_FnCuts.calls (A0 : Option Addr) (c0 : Nat) (k : Nat) (l0 : List Int) (o : List Int) (cu : List Int) (out : List Int) (ok : Bool) (n : Int) (li : List Int) (ac : Bool) (a : List Int) (b : List Int) (tc : List Int) (one : Bool) (m : Int) (kk : Int) (at_ : List Int) (two : Bool) (x : List Int) (rank : Int) (three : Bool) (wd : ByteArray) (p : List Int) (q : List Int) (first : List Int) (second : List Int) (five : Bool) (mid : List Int) (w2d : ByteArray) (w : World) (hr0 : Kd.C (Kd.int .u8) w A0 l0.length l0) (hc0 : l0.length ≤ c0) (hF : laws_FnCuts.Fact k l0 o cu out ok n li ac a b tc one m kk at_ two x rank three wd p q first second five mid w2d) :
    Calls Try.prog 3 #[.slice A0 l0.length c0] w fun e w' => e = .returned (.bool true) ∧ Below w.heap.size w w' := by
  have HR0 := Aside0.mk hr0
  have HC0 := Aside0.mk hc0
  have HF := Aside0.mk hF
  have HB := Aside0.mk (Below.refl w.heap.size w)
  clear hr0 hc0 hF
  go_enter Try.func3, Try.ntmps3
  have q_ok : (ok != ok) = false := bne_self_eq_false ok
  have q_ac : (ac != ac) = false := bne_self_eq_false ac
  have q_one : (one != one) = false := bne_self_eq_false one
  have q_two : (two != two) = false := bne_self_eq_false two
  have q_three : (three != three) = false := bne_self_eq_false three
  have q_rank : (rank != rank) = false := bne_self_eq_false rank
  have q_five : (five != five) = false := bne_self_eq_false five
  have q_wd : (wd != wd) = false := by rw [bne, (Go.MapKept.bytes_beq wd wd).mpr rfl]; rfl
  (repeat ((fail_if_success (with_reducible refine gate_dst (N := 55) rfl ?_)); first | go_values | go_skip | go_guarded | go_step | go_upon))
  refine goesL_ (some 55) rfl rfl Try.func5 (by kernel_rfl) rfl #[.slice A0 l0.length c0] rfl (by (try simp only [List.map_toArray, List.map_cons, List.map_nil]); first | done | rfl) ?_
  refine (laws_rBig.calls A0 c0 l0 false _ (Kd.C_below HR0.out HB.out) HC0.out HF.out.f55).mono ?_
  rintro e w1 ⟨rfl, hdr⟩
  have hb := hdr.below
  clear hdr
  refine ⟨_, rfl, ?_⟩
  have nB := Aside0.mk (below_step HB.out hb)
  clear HB hb
  have HB := nB
  clear nB
  (repeat ((fail_if_success (with_reducible refine gate_dst (N := 58) rfl ?_)); first | go_values | go_skip | go_guarded | go_step | go_upon))
  refine goesL_ (some 58) rfl rfl Try.func6 (by kernel_rfl) rfl #[.slice A0 l0.length c0] rfl (by (try simp only [List.map_toArray, List.map_cons, List.map_nil]); first | done | rfl) ?_
  refine (spec_DrawRunCuts.calls k A0 c0 l0 o cu _ (Kd.C_below HR0.out HB.out) HC0.out HF.out.f58).mono ?_
  rintro e w2 ⟨v0_, v1_, rfl, ho0, ho1, hb⟩
  refine ⟨_, rfl, ?_⟩
  obtain ⟨ARO, cRO, e_RO⟩ := Kd.R_slice ho0
  subst e_RO
  have nn0_ := Aside0.mk (Kd.R_lower (Kd.R_mono ho0 (fun _ _ => trivial)) HB.out.size)
  obtain ⟨ARC, cRC, e_RC⟩ := Kd.R_slice ho1
  subst e_RC
  have nn1_ := Aside0.mk (Kd.R_lower (Kd.R_mono ho1 (fun _ _ => trivial)) HB.out.size)
  have nB := Aside0.mk (below_step HB.out hb)
  clear HB hb  ho0 ho1
  have HB := nB
  clear nB
  have RO := nn0_
  clear nn0_
  have RC := nn1_
  clear nn1_
  (repeat ((fail_if_success (with_reducible refine gate_dst (N := 64) rfl ?_)); first | go_values | go_skip | go_guarded | go_step | go_upon))
  refine goesL_ (some 64) rfl rfl Try.func7 (by kernel_rfl) rfl #[.slice ARO o.length cRO, .slice ARC cu.length cRC] rfl (by (try simp only [List.map_toArray, List.map_cons, List.map_nil]); first | done | rfl) ?_
  refine (impl_RunCuts.calls k ARO cRO o ARC cRC cu out ok _ (Kd.R_reads' RO.out).2.2 (Kd.R_reads' RO.out).2.1 (Kd.R_reads' RC.out).2.2 (Kd.R_reads' RC.out).2.1 HF.out.f64).mono ?_
  rintro e w3 ⟨v0_, rfl, ho0, hb⟩
  refine ⟨_, rfl, ?_⟩
  obtain ⟨ARU, cRU, e_RU⟩ := Kd.R_slice ho0
  subst e_RU
  have nn0_ := Aside0.mk (Kd.R_lower (Kd.R_mono ho0 (fun _ _ => trivial)) HB.out.size)
  have nRO_ := Aside0.mk (Kd.R_below RO.out hb)
  have nRC_ := Aside0.mk (Kd.R_below RC.out hb)
  have nB := Aside0.mk (below_step HB.out hb)
  clear HB hb RO RC ho0
  have HB := nB
  clear nB
  have RO := nRO_
  clear nRO_
  have RC := nRC_
  clear nRC_
  have RU := nn0_
  clear nn0_
  (repeat ((fail_if_success (with_reducible refine gate_dst (N := 70) rfl ?_)); first | go_values | go_skip | go_guarded | go_step | go_upon))
  refine goesL_ (some 70) rfl rfl Try.func8 (by kernel_rfl) rfl #[.slice ARO o.length cRO, .slice ARC cu.length cRC] rfl (by (try simp only [List.map_toArray, List.map_cons, List.map_nil]); first | done | rfl) ?_
  refine (spec_RunCuts.calls k ARO cRO o ARC cRC cu out ok _ (Kd.R_reads' RO.out).2.2 (Kd.R_reads' RO.out).2.1 (Kd.R_reads' RC.out).2.2 (Kd.R_reads' RC.out).2.1 HF.out.f70).mono ?_
  rintro e w4 ⟨v0_, rfl, ho0, hb⟩
  refine ⟨_, rfl, ?_⟩
  obtain ⟨ARV, cRV, e_RV⟩ := Kd.R_slice ho0
  subst e_RV
  have nn0_ := Aside0.mk (Kd.R_lower (Kd.R_mono ho0 (fun _ _ => trivial)) HB.out.size)
  have nRO_ := Aside0.mk (Kd.R_below RO.out hb)
  have nRC_ := Aside0.mk (Kd.R_below RC.out hb)
  have nRU_ := Aside0.mk (Kd.R_below RU.out hb)
  have nB := Aside0.mk (below_step HB.out hb)
  clear HB hb RO RC RU ho0
  have HB := nB
  clear nB
  have RO := nRO_
  clear nRO_
  have RC := nRC_
  clear nRC_
  have RU := nRU_
  clear nRU_
  have RV := nn0_
  clear nn0_
  (repeat ((fail_if_success (with_reducible refine gate_dst (N := 79) rfl ?_)); first | go_values | go_skip | go_guarded | go_step | go_upon))
  refine goesG_ (some 79) rfl rfl Try.func9 (by kernel_rfl) rfl #[.slice ARU out.length cRU, .slice ARV out.length cRV] rfl (by (try simp only [List.map_toArray, List.map_cons, List.map_nil]); first | done | rfl) ?_
  refine (laws_rInts.calls k ARU cRU out ARV cRV out true _ (Kd.R_reads' RU.out).2.2 (Kd.R_reads' RU.out).2.1 (Kd.R_reads' RV.out).2.2 (Kd.R_reads' RV.out).2.1 HF.out.f79).mono ?_
  rintro e w5 ⟨rfl, hdr⟩
  have hb := hdr.below
  clear hdr
  refine ⟨_, rfl, ?_⟩
  have nRO_ := Aside0.mk (Kd.R_below RO.out hb)
  have nRC_ := Aside0.mk (Kd.R_below RC.out hb)
  have nRU_ := Aside0.mk (Kd.R_below RU.out hb)
  have nRV_ := Aside0.mk (Kd.R_below RV.out hb)
  have nB := Aside0.mk (below_step HB.out hb)
  clear HB hb RO RC RU RV
  have HB := nB
  clear nB
  have RO := nRO_
  clear nRO_
  have RC := nRC_
  clear nRC_
  have RU := nRU_
  clear nRU_
  have RV := nRV_
  clear nRV_
  clear RV
  (repeat ((fail_if_success (with_reducible refine gate_dst (N := 84) rfl ?_)); first | go_values | go_skip | go_guarded | go_step | go_upon))
  refine goesL_ (some 84) rfl rfl Try.func10 (by kernel_rfl) rfl #[.slice A0 l0.length c0] rfl (by (try simp only [List.map_toArray, List.map_cons, List.map_nil]); first | done | rfl) ?_
  refine (spec_DrawAreCuts.calls k A0 c0 l0 n li _ (Kd.C_below HR0.out HB.out) HC0.out HF.out.f84).mono ?_
  rintro e w6 ⟨v0_, rfl, ho0, hb⟩
  refine ⟨_, rfl, ?_⟩
  obtain ⟨ARL, cRL, e_RL⟩ := Kd.R_slice ho0
  subst e_RL
  have nn0_ := Aside0.mk (Kd.R_lower (Kd.R_mono ho0 (fun _ _ => trivial)) HB.out.size)
  have nRO_ := Aside0.mk (Kd.R_below RO.out hb)
  have nRC_ := Aside0.mk (Kd.R_below RC.out hb)
  have nRU_ := Aside0.mk (Kd.R_below RU.out hb)
  have nB := Aside0.mk (below_step HB.out hb)
  clear HB hb RO RC RU ho0
  have HB := nB
  clear nB
  have RO := nRO_
  clear nRO_
  have RC := nRC_
  clear nRC_
  have RU := nRU_
  clear nRU_
  have RL := nn0_
  clear nn0_
  (repeat ((fail_if_success (with_reducible refine gate_dst (N := 89) rfl ?_)); first | go_values | go_skip | go_guarded | go_step | go_upon))
  refine goesL_ (some 89) rfl rfl Try.func11 (by kernel_rfl) rfl #[.int .i64 n, .slice ARL li.length cRL] rfl (by (try simp only [List.map_toArray, List.map_cons, List.map_nil]); first | done | rfl) ?_
  refine (impl_AreCuts.calls k n ARL cRL li ac _ (Kd.R_reads' RL.out).2.2 (Kd.R_reads' RL.out).2.1 HF.out.f89).mono ?_
  rintro e w7 ⟨rfl, hdr⟩
  have hb := hdr.below
  clear hdr
  refine ⟨_, rfl, ?_⟩
  have nRO_ := Aside0.mk (Kd.R_below RO.out hb)
  have nRC_ := Aside0.mk (Kd.R_below RC.out hb)
  have nRU_ := Aside0.mk (Kd.R_below RU.out hb)
  have nRL_ := Aside0.mk (Kd.R_below RL.out hb)
  have nB := Aside0.mk (below_step HB.out hb)
  clear HB hb RO RC RU RL
  have HB := nB
  clear nB
  have RO := nRO_
  clear nRO_
  have RC := nRC_
  clear nRC_
  have RU := nRU_
  clear nRU_
  have RL := nRL_
  clear nRL_
  (repeat ((fail_if_success (with_reducible refine gate_dst (N := 92) rfl ?_)); first | go_values | go_skip | go_guarded | go_step | go_upon))
  refine goesL_ (some 92) rfl rfl Try.func12 (by kernel_rfl) rfl #[.int .i64 n, .slice ARL li.length cRL] rfl (by (try simp only [List.map_toArray, List.map_cons, List.map_nil]); first | done | rfl) ?_
  refine (spec_AreCuts.calls k n ARL cRL li ac _ (Kd.R_reads' RL.out).2.2 (Kd.R_reads' RL.out).2.1 HF.out.f92).mono ?_
  rintro e w8 ⟨rfl, hdr⟩
  have hb := hdr.below
  clear hdr
  refine ⟨_, rfl, ?_⟩
  have nRO_ := Aside0.mk (Kd.R_below RO.out hb)
  have nRC_ := Aside0.mk (Kd.R_below RC.out hb)
  have nRU_ := Aside0.mk (Kd.R_below RU.out hb)
  have nRL_ := Aside0.mk (Kd.R_below RL.out hb)
  have nB := Aside0.mk (below_step HB.out hb)
  clear HB hb RO RC RU RL
  have HB := nB
  clear nB
  have RO := nRO_
  clear nRO_
  have RC := nRC_
  clear nRC_
  have RU := nRU_
  clear nRU_
  have RL := nRL_
  clear nRL_
  clear RL
  (repeat ((fail_if_success (with_reducible refine gate_dst (N := 96) rfl ?_)); first | go_values | go_skip | go_guarded | go_step | go_upon))
  refine goesL_ (some 96) rfl rfl Try.func13 (by kernel_rfl) rfl #[.slice A0 l0.length c0] rfl (by (try simp only [List.map_toArray, List.map_cons, List.map_nil]); first | done | rfl) ?_
  refine (spec_DrawCutsTo.calls k A0 c0 l0 a b _ (Kd.C_below HR0.out HB.out) HC0.out HF.out.f96).mono ?_
  rintro e w9 ⟨v0_, v1_, rfl, ho0, ho1, hb⟩
  refine ⟨_, rfl, ?_⟩
  obtain ⟨ARA, cRA, e_RA⟩ := Kd.R_slice ho0
  subst e_RA
  have nn0_ := Aside0.mk (Kd.R_lower (Kd.R_mono ho0 (fun _ _ => trivial)) HB.out.size)
  obtain ⟨ARB, cRB, e_RB⟩ := Kd.R_slice ho1
  subst e_RB
  have nn1_ := Aside0.mk (Kd.R_lower (Kd.R_mono ho1 (fun _ _ => trivial)) HB.out.size)
  have nRO_ := Aside0.mk (Kd.R_below RO.out hb)
  have nRC_ := Aside0.mk (Kd.R_below RC.out hb)
  have nRU_ := Aside0.mk (Kd.R_below RU.out hb)
  have nB := Aside0.mk (below_step HB.out hb)
  clear HB hb RO RC RU ho0 ho1
  have HB := nB
  clear nB
  have RO := nRO_
  clear nRO_
  have RC := nRC_
  clear nRC_
  have RU := nRU_
  clear nRU_
  have RA := nn0_
  clear nn0_
  have RB := nn1_
  clear nn1_
  (repeat ((fail_if_success (with_reducible refine gate_dst (N := 102) rfl ?_)); first | go_values | go_skip | go_guarded | go_step | go_upon))
  refine goesL_ (some 102) rfl rfl Try.func14 (by kernel_rfl) rfl #[.slice ARA a.length cRA, .slice ARB b.length cRB] rfl (by (try simp only [List.map_toArray, List.map_cons, List.map_nil]); first | done | rfl) ?_
  refine (impl_CutsTo.calls k ARA cRA a ARB cRB b tc one _ (Kd.R_reads' RA.out).2.2 (Kd.R_reads' RA.out).2.1 (Kd.R_reads' RB.out).2.2 (Kd.R_reads' RB.out).2.1 HF.out.f102).mono ?_
  rintro e w10 ⟨v0_, rfl, ho0, hb⟩
  refine ⟨_, rfl, ?_⟩
  obtain ⟨ART, cRT, e_RT⟩ := Kd.R_slice ho0
  subst e_RT
  have nn0_ := Aside0.mk (Kd.R_lower (Kd.R_mono ho0 (fun _ _ => trivial)) HB.out.size)
  have nRO_ := Aside0.mk (Kd.R_below RO.out hb)
  have nRC_ := Aside0.mk (Kd.R_below RC.out hb)
  have nRU_ := Aside0.mk (Kd.R_below RU.out hb)
  have nRA_ := Aside0.mk (Kd.R_below RA.out hb)
  have nRB_ := Aside0.mk (Kd.R_below RB.out hb)
  have nB := Aside0.mk (below_step HB.out hb)
  clear HB hb RO RC RU RA RB ho0
  have HB := nB
  clear nB
  have RO := nRO_
  clear nRO_
  have RC := nRC_
  clear nRC_
  have RU := nRU_
  clear nRU_
  have RA := nRA_
  clear nRA_
  have RB := nRB_
  clear nRB_
  have RT := nn0_
  clear nn0_
  (repeat ((fail_if_success (with_reducible refine gate_dst (N := 108) rfl ?_)); first | go_values | go_skip | go_guarded | go_step | go_upon))
  refine goesL_ (some 108) rfl rfl Try.func15 (by kernel_rfl) rfl #[.slice ARA a.length cRA, .slice ARB b.length cRB] rfl (by (try simp only [List.map_toArray, List.map_cons, List.map_nil]); first | done | rfl) ?_
  refine (spec_CutsTo.calls k ARA cRA a ARB cRB b tc one _ (Kd.R_reads' RA.out).2.2 (Kd.R_reads' RA.out).2.1 (Kd.R_reads' RB.out).2.2 (Kd.R_reads' RB.out).2.1 HF.out.f108).mono ?_
  rintro e w11 ⟨v0_, rfl, ho0, hb⟩
  refine ⟨_, rfl, ?_⟩
  obtain ⟨ARV, cRV, e_RV⟩ := Kd.R_slice ho0
  subst e_RV
  have nn0_ := Aside0.mk (Kd.R_lower (Kd.R_mono ho0 (fun _ _ => trivial)) HB.out.size)
  have nRO_ := Aside0.mk (Kd.R_below RO.out hb)
  have nRC_ := Aside0.mk (Kd.R_below RC.out hb)
  have nRU_ := Aside0.mk (Kd.R_below RU.out hb)
  have nRA_ := Aside0.mk (Kd.R_below RA.out hb)
  have nRB_ := Aside0.mk (Kd.R_below RB.out hb)
  have nRT_ := Aside0.mk (Kd.R_below RT.out hb)
  have nB := Aside0.mk (below_step HB.out hb)
  clear HB hb RO RC RU RA RB RT ho0
  have HB := nB
  clear nB
  have RO := nRO_
  clear nRO_
  have RC := nRC_
  clear nRC_
  have RU := nRU_
  clear nRU_
  have RA := nRA_
  clear nRA_
  have RB := nRB_
  clear nRB_
  have RT := nRT_
  clear nRT_
  have RV := nn0_
  clear nn0_
  (repeat ((fail_if_success (with_reducible refine gate_dst (N := 117) rfl ?_)); first | go_values | go_skip | go_guarded | go_step | go_upon))
  refine goesG_ (some 117) rfl rfl Try.func9 (by kernel_rfl) rfl #[.slice ART tc.length cRT, .slice ARV tc.length cRV] rfl (by (try simp only [List.map_toArray, List.map_cons, List.map_nil]); first | done | rfl) ?_
  refine (laws_rInts.calls k ART cRT tc ARV cRV tc true _ (Kd.R_reads' RT.out).2.2 (Kd.R_reads' RT.out).2.1 (Kd.R_reads' RV.out).2.2 (Kd.R_reads' RV.out).2.1 HF.out.f117).mono ?_
  rintro e w12 ⟨rfl, hdr⟩
  have hb := hdr.below
  clear hdr
  refine ⟨_, rfl, ?_⟩
  have nRO_ := Aside0.mk (Kd.R_below RO.out hb)
  have nRC_ := Aside0.mk (Kd.R_below RC.out hb)
  have nRU_ := Aside0.mk (Kd.R_below RU.out hb)
  have nRA_ := Aside0.mk (Kd.R_below RA.out hb)
  have nRB_ := Aside0.mk (Kd.R_below RB.out hb)
  have nRT_ := Aside0.mk (Kd.R_below RT.out hb)
  have nRV_ := Aside0.mk (Kd.R_below RV.out hb)
  have nB := Aside0.mk (below_step HB.out hb)
  clear HB hb RO RC RU RA RB RT RV
  have HB := nB
  clear nB
  have RO := nRO_
  clear nRO_
  have RC := nRC_
  clear nRC_
  have RU := nRU_
  clear nRU_
  have RA := nRA_
  clear nRA_
  have RB := nRB_
  clear nRB_
  have RT := nRT_
  clear nRT_
  have RV := nRV_
  clear nRV_
  clear RV
  (repeat ((fail_if_success (with_reducible refine gate_dst (N := 122) rfl ?_)); first | go_values | go_skip | go_guarded | go_step | go_upon))
  refine goesL_ (some 122) rfl rfl Try.func16 (by kernel_rfl) rfl #[.slice A0 l0.length c0] rfl (by (try simp only [List.map_toArray, List.map_cons, List.map_nil]); first | done | rfl) ?_
  refine (spec_DrawCutsAt.calls A0 c0 l0 m kk _ (Kd.C_below HR0.out HB.out) HC0.out HF.out.f122).mono ?_
  rintro e w13 ⟨rfl, hb⟩
  refine ⟨_, rfl, ?_⟩
  have nRO_ := Aside0.mk (Kd.R_below RO.out hb)
  have nRC_ := Aside0.mk (Kd.R_below RC.out hb)
  have nRU_ := Aside0.mk (Kd.R_below RU.out hb)
  have nRA_ := Aside0.mk (Kd.R_below RA.out hb)
  have nRB_ := Aside0.mk (Kd.R_below RB.out hb)
  have nRT_ := Aside0.mk (Kd.R_below RT.out hb)
  have nB := Aside0.mk (below_step HB.out hb)
  clear HB hb RO RC RU RA RB RT
  have HB := nB
  clear nB
  have RO := nRO_
  clear nRO_
  have RC := nRC_
  clear nRC_
  have RU := nRU_
  clear nRU_
  have RA := nRA_
  clear nRA_
  have RB := nRB_
  clear nRB_
  have RT := nRT_
  clear nRT_
  (repeat ((fail_if_success (with_reducible refine gate_dst (N := 128) rfl ?_)); first | go_values | go_skip | go_guarded | go_step | go_upon))
  refine goesL_ (some 128) rfl rfl Try.func17 (by kernel_rfl) rfl #[.int .i64 m, .int .i64 kk] rfl (by (try simp only [List.map_toArray, List.map_cons, List.map_nil]); first | done | rfl) ?_
  refine (impl_CutsAt.calls k m kk at_ two _ HF.out.f128).mono ?_
  rintro e w14 ⟨v0_, rfl, ho0, hb⟩
  refine ⟨_, rfl, ?_⟩
  obtain ⟨ARAT, cRAT, e_RAT⟩ := Kd.R_slice ho0
  subst e_RAT
  have nn0_ := Aside0.mk (Kd.R_lower (Kd.R_mono ho0 (fun _ _ => trivial)) HB.out.size)
  have nRO_ := Aside0.mk (Kd.R_below RO.out hb)
  have nRC_ := Aside0.mk (Kd.R_below RC.out hb)
  have nRU_ := Aside0.mk (Kd.R_below RU.out hb)
  have nRA_ := Aside0.mk (Kd.R_below RA.out hb)
  have nRB_ := Aside0.mk (Kd.R_below RB.out hb)
  have nRT_ := Aside0.mk (Kd.R_below RT.out hb)
  have nB := Aside0.mk (below_step HB.out hb)
  clear HB hb RO RC RU RA RB RT ho0
  have HB := nB
  clear nB
  have RO := nRO_
  clear nRO_
  have RC := nRC_
  clear nRC_
  have RU := nRU_
  clear nRU_
  have RA := nRA_
  clear nRA_
  have RB := nRB_
  clear nRB_
  have RT := nRT_
  clear nRT_
  have RAT := nn0_
  clear nn0_
  (repeat ((fail_if_success (with_reducible refine gate_dst (N := 134) rfl ?_)); first | go_values | go_skip | go_guarded | go_step | go_upon))
  refine goesL_ (some 134) rfl rfl Try.func18 (by kernel_rfl) rfl #[.int .i64 m, .int .i64 kk] rfl (by (try simp only [List.map_toArray, List.map_cons, List.map_nil]); first | done | rfl) ?_
  refine (spec_CutsAt.calls k m kk at_ two _ HF.out.f134).mono ?_
  rintro e w15 ⟨v0_, rfl, ho0, hb⟩
  refine ⟨_, rfl, ?_⟩
  obtain ⟨ARV, cRV, e_RV⟩ := Kd.R_slice ho0
  subst e_RV
  have nn0_ := Aside0.mk (Kd.R_lower (Kd.R_mono ho0 (fun _ _ => trivial)) HB.out.size)
  have nRO_ := Aside0.mk (Kd.R_below RO.out hb)
  have nRC_ := Aside0.mk (Kd.R_below RC.out hb)
  have nRU_ := Aside0.mk (Kd.R_below RU.out hb)
  have nRA_ := Aside0.mk (Kd.R_below RA.out hb)
  have nRB_ := Aside0.mk (Kd.R_below RB.out hb)
  have nRT_ := Aside0.mk (Kd.R_below RT.out hb)
  have nRAT_ := Aside0.mk (Kd.R_below RAT.out hb)
  have nB := Aside0.mk (below_step HB.out hb)
  clear HB hb RO RC RU RA RB RT RAT ho0
  have HB := nB
  clear nB
  have RO := nRO_
  clear nRO_
  have RC := nRC_
  clear nRC_
  have RU := nRU_
  clear nRU_
  have RA := nRA_
  clear nRA_
  have RB := nRB_
  clear nRB_
  have RT := nRT_
  clear nRT_
  have RAT := nRAT_
  clear nRAT_
  have RV := nn0_
  clear nn0_
  (repeat ((fail_if_success (with_reducible refine gate_dst (N := 143) rfl ?_)); first | go_values | go_skip | go_guarded | go_step | go_upon))
  refine goesG_ (some 143) rfl rfl Try.func9 (by kernel_rfl) rfl #[.slice ARAT at_.length cRAT, .slice ARV at_.length cRV] rfl (by (try simp only [List.map_toArray, List.map_cons, List.map_nil]); first | done | rfl) ?_
  refine (laws_rInts.calls k ARAT cRAT at_ ARV cRV at_ true _ (Kd.R_reads' RAT.out).2.2 (Kd.R_reads' RAT.out).2.1 (Kd.R_reads' RV.out).2.2 (Kd.R_reads' RV.out).2.1 HF.out.f143).mono ?_
  rintro e w16 ⟨rfl, hdr⟩
  have hb := hdr.below
  clear hdr
  refine ⟨_, rfl, ?_⟩
  have nRO_ := Aside0.mk (Kd.R_below RO.out hb)
  have nRC_ := Aside0.mk (Kd.R_below RC.out hb)
  have nRU_ := Aside0.mk (Kd.R_below RU.out hb)
  have nRA_ := Aside0.mk (Kd.R_below RA.out hb)
  have nRB_ := Aside0.mk (Kd.R_below RB.out hb)
  have nRT_ := Aside0.mk (Kd.R_below RT.out hb)
  have nRAT_ := Aside0.mk (Kd.R_below RAT.out hb)
  have nRV_ := Aside0.mk (Kd.R_below RV.out hb)
  have nB := Aside0.mk (below_step HB.out hb)
  clear HB hb RO RC RU RA RB RT RAT RV
  have HB := nB
  clear nB
  have RO := nRO_
  clear nRO_
  have RC := nRC_
  clear nRC_
  have RU := nRU_
  clear nRU_
  have RA := nRA_
  clear nRA_
  have RB := nRB_
  clear nRB_
  have RT := nRT_
  clear nRT_
  have RAT := nRAT_
  clear nRAT_
  have RV := nRV_
  clear nRV_
  clear RV
  (repeat ((fail_if_success (with_reducible refine gate_dst (N := 147) rfl ?_)); first | go_values | go_skip | go_guarded | go_step | go_upon))
  refine goesL_ (some 147) rfl rfl Try.func19 (by kernel_rfl) rfl #[.slice A0 l0.length c0] rfl (by (try simp only [List.map_toArray, List.map_cons, List.map_nil]); first | done | rfl) ?_
  refine (spec_DrawRankOfCuts.calls k A0 c0 l0 x _ (Kd.C_below HR0.out HB.out) HC0.out HF.out.f147).mono ?_
  rintro e w17 ⟨v0_, rfl, ho0, hb⟩
  refine ⟨_, rfl, ?_⟩
  obtain ⟨ARX, cRX, e_RX⟩ := Kd.R_slice ho0
  subst e_RX
  have nn0_ := Aside0.mk (Kd.R_lower (Kd.R_mono ho0 (fun _ _ => trivial)) HB.out.size)
  have nRO_ := Aside0.mk (Kd.R_below RO.out hb)
  have nRC_ := Aside0.mk (Kd.R_below RC.out hb)
  have nRU_ := Aside0.mk (Kd.R_below RU.out hb)
  have nRA_ := Aside0.mk (Kd.R_below RA.out hb)
  have nRB_ := Aside0.mk (Kd.R_below RB.out hb)
  have nRT_ := Aside0.mk (Kd.R_below RT.out hb)
  have nRAT_ := Aside0.mk (Kd.R_below RAT.out hb)
  have nB := Aside0.mk (below_step HB.out hb)
  clear HB hb RO RC RU RA RB RT RAT ho0
  have HB := nB
  clear nB
  have RO := nRO_
  clear nRO_
  have RC := nRC_
  clear nRC_
  have RU := nRU_
  clear nRU_
  have RA := nRA_
  clear nRA_
  have RB := nRB_
  clear nRB_
  have RT := nRT_
  clear nRT_
  have RAT := nRAT_
  clear nRAT_
  have RX := nn0_
  clear nn0_
  (repeat ((fail_if_success (with_reducible refine gate_dst (N := 150) rfl ?_)); first | go_values | go_skip | go_guarded | go_step | go_upon))
  refine goesL_ (some 150) rfl rfl Try.func20 (by kernel_rfl) rfl #[.slice ARX x.length cRX] rfl (by (try simp only [List.map_toArray, List.map_cons, List.map_nil]); first | done | rfl) ?_
  refine (impl_RankOfCuts.calls k ARX cRX x rank three _ (Kd.R_reads' RX.out).2.2 (Kd.R_reads' RX.out).2.1 HF.out.f150).mono ?_
  rintro e w18 ⟨rfl, hb⟩
  refine ⟨_, rfl, ?_⟩
  have nRO_ := Aside0.mk (Kd.R_below RO.out hb)
  have nRC_ := Aside0.mk (Kd.R_below RC.out hb)
  have nRU_ := Aside0.mk (Kd.R_below RU.out hb)
  have nRA_ := Aside0.mk (Kd.R_below RA.out hb)
  have nRB_ := Aside0.mk (Kd.R_below RB.out hb)
  have nRT_ := Aside0.mk (Kd.R_below RT.out hb)
  have nRAT_ := Aside0.mk (Kd.R_below RAT.out hb)
  have nRX_ := Aside0.mk (Kd.R_below RX.out hb)
  have nB := Aside0.mk (below_step HB.out hb)
  clear HB hb RO RC RU RA RB RT RAT RX
  have HB := nB
  clear nB
  have RO := nRO_
  clear nRO_
  have RC := nRC_
  clear nRC_
  have RU := nRU_
  clear nRU_
  have RA := nRA_
  clear nRA_
  have RB := nRB_
  clear nRB_
  have RT := nRT_
  clear nRT_
  have RAT := nRAT_
  clear nRAT_
  have RX := nRX_
  clear nRX_
  (repeat ((fail_if_success (with_reducible refine gate_dst (N := 155) rfl ?_)); first | go_values | go_skip | go_guarded | go_step | go_upon))
  refine goesL_ (some 155) rfl rfl Try.func21 (by kernel_rfl) rfl #[.slice ARX x.length cRX] rfl (by (try simp only [List.map_toArray, List.map_cons, List.map_nil]); first | done | rfl) ?_
  refine (spec_RankOfCuts.calls k ARX cRX x rank three _ (Kd.R_reads' RX.out).2.2 (Kd.R_reads' RX.out).2.1 HF.out.f155).mono ?_
  rintro e w19 ⟨rfl, hb⟩
  refine ⟨_, rfl, ?_⟩
  have nRO_ := Aside0.mk (Kd.R_below RO.out hb)
  have nRC_ := Aside0.mk (Kd.R_below RC.out hb)
  have nRU_ := Aside0.mk (Kd.R_below RU.out hb)
  have nRA_ := Aside0.mk (Kd.R_below RA.out hb)
  have nRB_ := Aside0.mk (Kd.R_below RB.out hb)
  have nRT_ := Aside0.mk (Kd.R_below RT.out hb)
  have nRAT_ := Aside0.mk (Kd.R_below RAT.out hb)
  have nRX_ := Aside0.mk (Kd.R_below RX.out hb)
  have nB := Aside0.mk (below_step HB.out hb)
  clear HB hb RO RC RU RA RB RT RAT RX
  have HB := nB
  clear nB
  have RO := nRO_
  clear nRO_
  have RC := nRC_
  clear nRC_
  have RU := nRU_
  clear nRU_
  have RA := nRA_
  clear nRA_
  have RB := nRB_
  clear nRB_
  have RT := nRT_
  clear nRT_
  have RAT := nRAT_
  clear nRAT_
  have RX := nRX_
  clear nRX_
  (repeat ((fail_if_success (with_reducible refine gate_dst (N := 168) rfl ?_)); first | go_values | go_skip | go_guarded | go_step | go_upon))
  refine goesL_ (some 168) rfl rfl Try.func22 (by kernel_rfl) rfl #[.slice ARX x.length cRX] rfl (by (try simp only [List.map_toArray, List.map_cons, List.map_nil]); first | done | rfl) ?_
  refine (impl_CutsWord.calls k ARX cRX x wd three _ (Kd.R_reads' RX.out).2.2 (Kd.R_reads' RX.out).2.1 HF.out.f168).mono ?_
  rintro e w20 ⟨rfl, hb⟩
  refine ⟨_, rfl, ?_⟩
  have nRO_ := Aside0.mk (Kd.R_below RO.out hb)
  have nRC_ := Aside0.mk (Kd.R_below RC.out hb)
  have nRU_ := Aside0.mk (Kd.R_below RU.out hb)
  have nRA_ := Aside0.mk (Kd.R_below RA.out hb)
  have nRB_ := Aside0.mk (Kd.R_below RB.out hb)
  have nRT_ := Aside0.mk (Kd.R_below RT.out hb)
  have nRAT_ := Aside0.mk (Kd.R_below RAT.out hb)
  have nRX_ := Aside0.mk (Kd.R_below RX.out hb)
  have nB := Aside0.mk (below_step HB.out hb)
  clear HB hb RO RC RU RA RB RT RAT RX
  have HB := nB
  clear nB
  have RO := nRO_
  clear nRO_
  have RC := nRC_
  clear nRC_
  have RU := nRU_
  clear nRU_
  have RA := nRA_
  clear nRA_
  have RB := nRB_
  clear nRB_
  have RT := nRT_
  clear nRT_
  have RAT := nRAT_
  clear nRAT_
  have RX := nRX_
  clear nRX_
  (repeat ((fail_if_success (with_reducible refine gate_dst (N := 173) rfl ?_)); first | go_values | go_skip | go_guarded | go_step | go_upon))
  refine goesL_ (some 173) rfl rfl Try.func23 (by kernel_rfl) rfl #[.slice ARX x.length cRX] rfl (by (try simp only [List.map_toArray, List.map_cons, List.map_nil]); first | done | rfl) ?_
  refine (spec_CutsWord.calls k ARX cRX x wd three _ (Kd.R_reads' RX.out).2.2 (Kd.R_reads' RX.out).2.1 HF.out.f173).mono ?_
  rintro e w21 ⟨rfl, hdr⟩
  have hb := hdr.below
  clear hdr
  refine ⟨_, rfl, ?_⟩
  have nRO_ := Aside0.mk (Kd.R_below RO.out hb)
  have nRC_ := Aside0.mk (Kd.R_below RC.out hb)
  have nRU_ := Aside0.mk (Kd.R_below RU.out hb)
  have nRA_ := Aside0.mk (Kd.R_below RA.out hb)
  have nRB_ := Aside0.mk (Kd.R_below RB.out hb)
  have nRT_ := Aside0.mk (Kd.R_below RT.out hb)
  have nRAT_ := Aside0.mk (Kd.R_below RAT.out hb)
  have nRX_ := Aside0.mk (Kd.R_below RX.out hb)
  have nB := Aside0.mk (below_step HB.out hb)
  clear HB hb RO RC RU RA RB RT RAT RX
  have HB := nB
  clear nB
  have RO := nRO_
  clear nRO_
  have RC := nRC_
  clear nRC_
  have RU := nRU_
  clear nRU_
  have RA := nRA_
  clear nRA_
  have RB := nRB_
  clear nRB_
  have RT := nRT_
  clear nRT_
  have RAT := nRAT_
  clear nRAT_
  have RX := nRX_
  clear nRX_
  clear RX
  (repeat ((fail_if_success (with_reducible refine gate_dst (N := 191) rfl ?_)); first | go_values | go_skip | go_guarded | go_step | go_upon))
  refine goesL_ (some 191) rfl rfl Try.func24 (by kernel_rfl) rfl #[.slice A0 l0.length c0] rfl (by (try simp only [List.map_toArray, List.map_cons, List.map_nil]); first | done | rfl) ?_
  refine (spec_DrawTwoCuts.calls k A0 c0 l0 p q _ (Kd.C_below HR0.out HB.out) HC0.out HF.out.f191).mono ?_
  rintro e w22 ⟨v0_, v1_, rfl, ho0, ho1, hb⟩
  refine ⟨_, rfl, ?_⟩
  obtain ⟨ARP, cRP, e_RP⟩ := Kd.R_slice ho0
  subst e_RP
  have nn0_ := Aside0.mk (Kd.R_lower (Kd.R_mono ho0 (fun _ _ => trivial)) HB.out.size)
  obtain ⟨ARQ, cRQ, e_RQ⟩ := Kd.R_slice ho1
  subst e_RQ
  have nn1_ := Aside0.mk (Kd.R_lower (Kd.R_mono ho1 (fun _ _ => trivial)) HB.out.size)
  have nRO_ := Aside0.mk (Kd.R_below RO.out hb)
  have nRC_ := Aside0.mk (Kd.R_below RC.out hb)
  have nRU_ := Aside0.mk (Kd.R_below RU.out hb)
  have nRA_ := Aside0.mk (Kd.R_below RA.out hb)
  have nRB_ := Aside0.mk (Kd.R_below RB.out hb)
  have nRT_ := Aside0.mk (Kd.R_below RT.out hb)
  have nRAT_ := Aside0.mk (Kd.R_below RAT.out hb)
  have nB := Aside0.mk (below_step HB.out hb)
  clear HB hb RO RC RU RA RB RT RAT ho0 ho1
  have HB := nB
  clear nB
  have RO := nRO_
  clear nRO_
  have RC := nRC_
  clear nRC_
  have RU := nRU_
  clear nRU_
  have RA := nRA_
  clear nRA_
  have RB := nRB_
  clear nRB_
  have RT := nRT_
  clear nRT_
  have RAT := nRAT_
  clear nRAT_
  have RP := nn0_
  clear nn0_
  have RQ := nn1_
  clear nn1_
  (repeat ((fail_if_success (with_reducible refine gate_dst (N := 197) rfl ?_)); first | go_values | go_skip | go_guarded | go_step | go_upon))
  refine goesL_ (some 197) rfl rfl Try.func25 (by kernel_rfl) rfl #[.slice ARP p.length cRP, .slice ARQ q.length cRQ] rfl (by (try simp only [List.map_toArray, List.map_cons, List.map_nil]); first | done | rfl) ?_
  refine (impl_TwoCuts.calls k ARP cRP p ARQ cRQ q first second five _ (Kd.R_reads' RP.out).2.2 (Kd.R_reads' RP.out).2.1 (Kd.R_reads' RQ.out).2.2 (Kd.R_reads' RQ.out).2.1 HF.out.f197).mono ?_
  rintro e w23 ⟨v0_, v1_, rfl, ho0, ho1, hb⟩
  refine ⟨_, rfl, ?_⟩
  obtain ⟨ARF, cRF, e_RF⟩ := Kd.R_slice ho0
  subst e_RF
  have nn0_ := Aside0.mk (Kd.R_lower (Kd.R_mono ho0 (fun _ _ => trivial)) HB.out.size)
  obtain ⟨ARS, cRS, e_RS⟩ := Kd.R_slice ho1
  subst e_RS
  have nn1_ := Aside0.mk (Kd.R_lower (Kd.R_mono ho1 (fun _ _ => trivial)) HB.out.size)
  have nRO_ := Aside0.mk (Kd.R_below RO.out hb)
  have nRC_ := Aside0.mk (Kd.R_below RC.out hb)
  have nRU_ := Aside0.mk (Kd.R_below RU.out hb)
  have nRA_ := Aside0.mk (Kd.R_below RA.out hb)
  have nRB_ := Aside0.mk (Kd.R_below RB.out hb)
  have nRT_ := Aside0.mk (Kd.R_below RT.out hb)
  have nRAT_ := Aside0.mk (Kd.R_below RAT.out hb)
  have nRP_ := Aside0.mk (Kd.R_below RP.out hb)
  have nRQ_ := Aside0.mk (Kd.R_below RQ.out hb)
  have nB := Aside0.mk (below_step HB.out hb)
  clear HB hb RO RC RU RA RB RT RAT RP RQ ho0 ho1
  have HB := nB
  clear nB
  have RO := nRO_
  clear nRO_
  have RC := nRC_
  clear nRC_
  have RU := nRU_
  clear nRU_
  have RA := nRA_
  clear nRA_
  have RB := nRB_
  clear nRB_
  have RT := nRT_
  clear nRT_
  have RAT := nRAT_
  clear nRAT_
  have RP := nRP_
  clear nRP_
  have RQ := nRQ_
  clear nRQ_
  have RF := nn0_
  clear nn0_
  have RS := nn1_
  clear nn1_
  (repeat ((fail_if_success (with_reducible refine gate_dst (N := 204) rfl ?_)); first | go_values | go_skip | go_guarded | go_step | go_upon))
  refine goesL_ (some 204) rfl rfl Try.func26 (by kernel_rfl) rfl #[.slice ARP p.length cRP, .slice ARQ q.length cRQ] rfl (by (try simp only [List.map_toArray, List.map_cons, List.map_nil]); first | done | rfl) ?_
  refine (spec_TwoCuts.calls k ARP cRP p ARQ cRQ q first second five _ (Kd.R_reads' RP.out).2.2 (Kd.R_reads' RP.out).2.1 (Kd.R_reads' RQ.out).2.2 (Kd.R_reads' RQ.out).2.1 HF.out.f204).mono ?_
  rintro e w24 ⟨v0_, v1_, rfl, ho0, ho1, hb⟩
  refine ⟨_, rfl, ?_⟩
  obtain ⟨ARV, cRV, e_RV⟩ := Kd.R_slice ho0
  subst e_RV
  have nn0_ := Aside0.mk (Kd.R_lower (Kd.R_mono ho0 (fun _ _ => trivial)) HB.out.size)
  obtain ⟨ARY, cRY, e_RY⟩ := Kd.R_slice ho1
  subst e_RY
  have nn1_ := Aside0.mk (Kd.R_lower (Kd.R_mono ho1 (fun _ _ => trivial)) HB.out.size)
  have nRO_ := Aside0.mk (Kd.R_below RO.out hb)
  have nRC_ := Aside0.mk (Kd.R_below RC.out hb)
  have nRU_ := Aside0.mk (Kd.R_below RU.out hb)
  have nRA_ := Aside0.mk (Kd.R_below RA.out hb)
  have nRB_ := Aside0.mk (Kd.R_below RB.out hb)
  have nRT_ := Aside0.mk (Kd.R_below RT.out hb)
  have nRAT_ := Aside0.mk (Kd.R_below RAT.out hb)
  have nRP_ := Aside0.mk (Kd.R_below RP.out hb)
  have nRQ_ := Aside0.mk (Kd.R_below RQ.out hb)
  have nRF_ := Aside0.mk (Kd.R_below RF.out hb)
  have nRS_ := Aside0.mk (Kd.R_below RS.out hb)
  have nB := Aside0.mk (below_step HB.out hb)
  clear HB hb RO RC RU RA RB RT RAT RP RQ RF RS ho0 ho1
  have HB := nB
  clear nB
  have RO := nRO_
  clear nRO_
  have RC := nRC_
  clear nRC_
  have RU := nRU_
  clear nRU_
  have RA := nRA_
  clear nRA_
  have RB := nRB_
  clear nRB_
  have RT := nRT_
  clear nRT_
  have RAT := nRAT_
  clear nRAT_
  have RP := nRP_
  clear nRP_
  have RQ := nRQ_
  clear nRQ_
  have RF := nRF_
  clear nRF_
  have RS := nRS_
  clear nRS_
  have RV := nn0_
  clear nn0_
  have RY := nn1_
  clear nn1_
  (repeat ((fail_if_success (with_reducible refine gate_dst (N := 214) rfl ?_)); first | go_values | go_skip | go_guarded | go_step | go_upon))
  refine goesG_ (some 214) rfl rfl Try.func9 (by kernel_rfl) rfl #[.slice ARF first.length cRF, .slice ARV first.length cRV] rfl (by (try simp only [List.map_toArray, List.map_cons, List.map_nil]); first | done | rfl) ?_
  refine (laws_rInts.calls k ARF cRF first ARV cRV first true _ (Kd.R_reads' RF.out).2.2 (Kd.R_reads' RF.out).2.1 (Kd.R_reads' RV.out).2.2 (Kd.R_reads' RV.out).2.1 HF.out.f214).mono ?_
  rintro e w25 ⟨rfl, hdr⟩
  have hb := hdr.below
  clear hdr
  refine ⟨_, rfl, ?_⟩
  have nRO_ := Aside0.mk (Kd.R_below RO.out hb)
  have nRC_ := Aside0.mk (Kd.R_below RC.out hb)
  have nRU_ := Aside0.mk (Kd.R_below RU.out hb)
  have nRA_ := Aside0.mk (Kd.R_below RA.out hb)
  have nRB_ := Aside0.mk (Kd.R_below RB.out hb)
  have nRT_ := Aside0.mk (Kd.R_below RT.out hb)
  have nRAT_ := Aside0.mk (Kd.R_below RAT.out hb)
  have nRP_ := Aside0.mk (Kd.R_below RP.out hb)
  have nRQ_ := Aside0.mk (Kd.R_below RQ.out hb)
  have nRF_ := Aside0.mk (Kd.R_below RF.out hb)
  have nRS_ := Aside0.mk (Kd.R_below RS.out hb)
  have nRV_ := Aside0.mk (Kd.R_below RV.out hb)
  have nRY_ := Aside0.mk (Kd.R_below RY.out hb)
  have nB := Aside0.mk (below_step HB.out hb)
  clear HB hb RO RC RU RA RB RT RAT RP RQ RF RS RV RY
  have HB := nB
  clear nB
  have RO := nRO_
  clear nRO_
  have RC := nRC_
  clear nRC_
  have RU := nRU_
  clear nRU_
  have RA := nRA_
  clear nRA_
  have RB := nRB_
  clear nRB_
  have RT := nRT_
  clear nRT_
  have RAT := nRAT_
  clear nRAT_
  have RP := nRP_
  clear nRP_
  have RQ := nRQ_
  clear nRQ_
  have RF := nRF_
  clear nRF_
  have RS := nRS_
  clear nRS_
  have RV := nRV_
  clear nRV_
  have RY := nRY_
  clear nRY_
  (repeat ((fail_if_success (with_reducible refine gate_dst (N := 220) rfl ?_)); first | go_values | go_skip | go_guarded | go_step | go_upon))
  refine goesG_ (some 220) rfl rfl Try.func9 (by kernel_rfl) rfl #[.slice ARS second.length cRS, .slice ARY second.length cRY] rfl (by (try simp only [List.map_toArray, List.map_cons, List.map_nil]); first | done | rfl) ?_
  refine (laws_rInts.calls k ARS cRS second ARY cRY second true _ (Kd.R_reads' RS.out).2.2 (Kd.R_reads' RS.out).2.1 (Kd.R_reads' RY.out).2.2 (Kd.R_reads' RY.out).2.1 HF.out.f220).mono ?_
  rintro e w26 ⟨rfl, hdr⟩
  have hb := hdr.below
  clear hdr
  refine ⟨_, rfl, ?_⟩
  have nRO_ := Aside0.mk (Kd.R_below RO.out hb)
  have nRC_ := Aside0.mk (Kd.R_below RC.out hb)
  have nRU_ := Aside0.mk (Kd.R_below RU.out hb)
  have nRA_ := Aside0.mk (Kd.R_below RA.out hb)
  have nRB_ := Aside0.mk (Kd.R_below RB.out hb)
  have nRT_ := Aside0.mk (Kd.R_below RT.out hb)
  have nRAT_ := Aside0.mk (Kd.R_below RAT.out hb)
  have nRP_ := Aside0.mk (Kd.R_below RP.out hb)
  have nRQ_ := Aside0.mk (Kd.R_below RQ.out hb)
  have nRF_ := Aside0.mk (Kd.R_below RF.out hb)
  have nRS_ := Aside0.mk (Kd.R_below RS.out hb)
  have nRV_ := Aside0.mk (Kd.R_below RV.out hb)
  have nRY_ := Aside0.mk (Kd.R_below RY.out hb)
  have nB := Aside0.mk (below_step HB.out hb)
  clear HB hb RO RC RU RA RB RT RAT RP RQ RF RS RV RY
  have HB := nB
  clear nB
  have RO := nRO_
  clear nRO_
  have RC := nRC_
  clear nRC_
  have RU := nRU_
  clear nRU_
  have RA := nRA_
  clear nRA_
  have RB := nRB_
  clear nRB_
  have RT := nRT_
  clear nRT_
  have RAT := nRAT_
  clear nRAT_
  have RP := nRP_
  clear nRP_
  have RQ := nRQ_
  clear nRQ_
  have RF := nRF_
  clear nRF_
  have RS := nRS_
  clear nRS_
  have RV := nRV_
  clear nRV_
  have RY := nRY_
  clear nRY_
  clear RV RY
  (repeat ((fail_if_success (with_reducible refine gate_dst (N := 222) rfl ?_)); first | go_values | go_skip | go_guarded | go_step | go_upon))
  (repeat ((fail_if_success (with_reducible refine gate_if (id := 35) ?_)); first | go_values | go_skip | go_guarded | go_step | go_upon))
  refine wp_joina (fun a_ a' w' => (∃ x223_ x225_ x226_ x227_ x224_ x228_ x229_ x40_ x41_ x230_ x231_ x232_ x233_ x234_ x235_ x236_ x237_ x2_ : Value, a' = putRuns a_ [(2, [x2_]), (40, [x40_, x41_]), (223, [x223_, x224_, x225_, x226_, x227_, x228_, x229_, x230_, x231_, x232_, x233_, x234_, x235_, x236_, x237_])]) ∧ Aside0 (Below w.heap.size w w') ∧ Aside0 (Kd.R (Kd.int .i64) 3 w' w.heap.size (fun _ => True) (.slice ARO o.length cRO) o) ∧ Aside0 (Kd.R (Kd.int .i64) 3 w' w.heap.size (fun _ => True) (.slice ARC cu.length cRC) cu) ∧ Aside0 (Kd.R (Kd.int .i64) 3 w' w.heap.size (fun _ => True) (.slice ARU out.length cRU) out) ∧ Aside0 (Kd.R (Kd.int .i64) 3 w' w.heap.size (fun _ => True) (.slice ARA a.length cRA) a) ∧ Aside0 (Kd.R (Kd.int .i64) 3 w' w.heap.size (fun _ => True) (.slice ARB b.length cRB) b) ∧ Aside0 (Kd.R (Kd.int .i64) 3 w' w.heap.size (fun _ => True) (.slice ART tc.length cRT) tc) ∧ Aside0 (Kd.R (Kd.int .i64) 3 w' w.heap.size (fun _ => True) (.slice ARAT at_.length cRAT) at_) ∧ Aside0 (Kd.R (Kd.int .i64) 3 w' w.heap.size (fun _ => True) (.slice ARP p.length cRP) p) ∧ Aside0 (Kd.R (Kd.int .i64) 3 w' w.heap.size (fun _ => True) (.slice ARQ q.length cRQ) q) ∧ Aside0 (Kd.R (Kd.int .i64) 3 w' w.heap.size (fun _ => True) (.slice ARF first.length cRF) first) ∧ Aside0 (Kd.R (Kd.int .i64) 3 w' w.heap.size (fun _ => True) (.slice ARS second.length cRS) second)) ?jx ?jy
  case jx =>
    cases one with
    | false =>
      go_wp2
      (try simp only [Exit.then]); exact ⟨⟨_, _, _, _, _, _, _, _, _, _, _, _, _, _, _, _, _, _, by simp only [putRuns, List.foldl_cons, List.foldl_nil, List.toList_toArray, setRun_zero, setRun_succ, overL_nil, overL_cons]; rfl⟩, HB, RO, RC, RU, RA, RB, RT, RAT, RP, RQ, RF, RS⟩
    | true =>
      (repeat ((fail_if_success (with_reducible refine gate_dst (N := 227) rfl ?_)); first | go_values | go_skip | go_guarded | go_step | go_upon))
      refine goesL_ (some 227) rfl rfl Try.func7 (by kernel_rfl) rfl #[.slice ARA a.length cRA, .slice ART tc.length cRT] rfl (by (try simp only [List.map_toArray, List.map_cons, List.map_nil]); first | done | rfl) ?_
      refine (impl_RunCuts.calls k ARA cRA a ART cRT tc b true _ (Kd.R_reads' RA.out).2.2 (Kd.R_reads' RA.out).2.1 (Kd.R_reads' RT.out).2.2 (Kd.R_reads' RT.out).2.1 (HF.out.l1 rfl)).mono ?_
      rintro e w27 ⟨v0_, rfl, ho0, hb⟩
      refine ⟨_, rfl, ?_⟩
      obtain ⟨AR1, cR1, e_R1⟩ := Kd.R_slice ho0
      subst e_R1
      have nn0_ := Aside0.mk (Kd.R_lower (Kd.R_mono ho0 (fun _ _ => trivial)) HB.out.size)
      have nRO_ := Aside0.mk (Kd.R_below RO.out hb)
      have nRC_ := Aside0.mk (Kd.R_below RC.out hb)
      have nRU_ := Aside0.mk (Kd.R_below RU.out hb)
      have nRA_ := Aside0.mk (Kd.R_below RA.out hb)
      have nRB_ := Aside0.mk (Kd.R_below RB.out hb)
      have nRT_ := Aside0.mk (Kd.R_below RT.out hb)
      have nRAT_ := Aside0.mk (Kd.R_below RAT.out hb)
      have nRP_ := Aside0.mk (Kd.R_below RP.out hb)
      have nRQ_ := Aside0.mk (Kd.R_below RQ.out hb)
      have nRF_ := Aside0.mk (Kd.R_below RF.out hb)
      have nRS_ := Aside0.mk (Kd.R_below RS.out hb)
      have nB := Aside0.mk (below_step HB.out hb)
      clear HB hb RO RC RU RA RB RT RAT RP RQ RF RS ho0
      have HB := nB
      clear nB
      have RO := nRO_
      clear nRO_
      have RC := nRC_
      clear nRC_
      have RU := nRU_
      clear nRU_
      have RA := nRA_
      clear nRA_
      have RB := nRB_
      clear nRB_
      have RT := nRT_
      clear nRT_
      have RAT := nRAT_
      clear nRAT_
      have RP := nRP_
      clear nRP_
      have RQ := nRQ_
      clear nRQ_
      have RF := nRF_
      clear nRF_
      have RS := nRS_
      clear nRS_
      have R1 := nn0_
      clear nn0_
      (repeat ((fail_if_success (with_reducible refine gate_dst (N := 235) rfl ?_)); first | go_values | go_skip | go_guarded | go_step | go_upon))
      refine goesG_ (some 235) rfl rfl Try.func9 (by kernel_rfl) rfl #[.slice AR1 b.length cR1, .slice ARB b.length cRB] rfl (by (try simp only [List.map_toArray, List.map_cons, List.map_nil]); first | done | rfl) ?_
      refine (laws_rInts.calls k AR1 cR1 b ARB cRB b true _ (Kd.R_reads' R1.out).2.2 (Kd.R_reads' R1.out).2.1 (Kd.R_reads' RB.out).2.2 (Kd.R_reads' RB.out).2.1 HF.out.bb).mono ?_
      rintro e w28 ⟨rfl, hdr⟩
      have hb := hdr.below
      clear hdr
      refine ⟨_, rfl, ?_⟩
      have nRO_ := Aside0.mk (Kd.R_below RO.out hb)
      have nRC_ := Aside0.mk (Kd.R_below RC.out hb)
      have nRU_ := Aside0.mk (Kd.R_below RU.out hb)
      have nRA_ := Aside0.mk (Kd.R_below RA.out hb)
      have nRB_ := Aside0.mk (Kd.R_below RB.out hb)
      have nRT_ := Aside0.mk (Kd.R_below RT.out hb)
      have nRAT_ := Aside0.mk (Kd.R_below RAT.out hb)
      have nRP_ := Aside0.mk (Kd.R_below RP.out hb)
      have nRQ_ := Aside0.mk (Kd.R_below RQ.out hb)
      have nRF_ := Aside0.mk (Kd.R_below RF.out hb)
      have nRS_ := Aside0.mk (Kd.R_below RS.out hb)
      have nR1_ := Aside0.mk (Kd.R_below R1.out hb)
      have nB := Aside0.mk (below_step HB.out hb)
      clear HB hb RO RC RU RA RB RT RAT RP RQ RF RS R1
      have HB := nB
      clear nB
      have RO := nRO_
      clear nRO_
      have RC := nRC_
      clear nRC_
      have RU := nRU_
      clear nRU_
      have RA := nRA_
      clear nRA_
      have RB := nRB_
      clear nRB_
      have RT := nRT_
      clear nRT_
      have RAT := nRAT_
      clear nRAT_
      have RP := nRP_
      clear nRP_
      have RQ := nRQ_
      clear nRQ_
      have RF := nRF_
      clear nRF_
      have RS := nRS_
      clear nRS_
      have R1 := nR1_
      clear nR1_
      go_wp2
      clear R1
      (try simp only [Exit.then]); exact ⟨⟨_, _, _, _, _, _, _, _, _, _, _, _, _, _, _, _, _, _, by simp only [putRuns, List.foldl_cons, List.foldl_nil, List.toList_toArray, setRun_zero, setRun_succ, overL_nil, overL_cons]; rfl⟩, HB, RO, RC, RU, RA, RB, RT, RAT, RP, RQ, RF, RS⟩
  case jy =>
    clear HB RO RC RU RA RB RT RAT RP RQ RF RS
    rintro a' w29 ⟨⟨x223_, x225_, x226_, x227_, x224_, x228_, x229_, x40_, x41_, x230_, x231_, x232_, x233_, x234_, x235_, x236_, x237_, x2_, rfl⟩, HB, RO, RC, RU, RA, RB, RT, RAT, RP, RQ, RF, RS⟩
    simp only [putRuns, List.foldl_cons, List.foldl_nil, List.toList_toArray, setRun_zero, setRun_succ, overL_nil, overL_cons]
    (repeat ((fail_if_success (with_reducible refine gate_if (id := 39) ?_)); first | go_values | go_skip | go_guarded | go_step | go_upon))
    refine wp_joina (fun a_ a' w' => (∃ x238_ x240_ x241_ x239_ x242_ x243_ x42_ x43_ x244_ x245_ x246_ x247_ x248_ x249_ x250_ x2_ : Value, a' = putRuns a_ [(2, [x2_]), (42, [x42_, x43_]), (238, [x238_, x239_, x240_, x241_, x242_, x243_, x244_, x245_, x246_, x247_, x248_, x249_, x250_])]) ∧ Aside0 (Below w.heap.size w w') ∧ Aside0 (Kd.R (Kd.int .i64) 3 w' w.heap.size (fun _ => True) (.slice ARO o.length cRO) o) ∧ Aside0 (Kd.R (Kd.int .i64) 3 w' w.heap.size (fun _ => True) (.slice ARC cu.length cRC) cu) ∧ Aside0 (Kd.R (Kd.int .i64) 3 w' w.heap.size (fun _ => True) (.slice ARU out.length cRU) out) ∧ Aside0 (Kd.R (Kd.int .i64) 3 w' w.heap.size (fun _ => True) (.slice ARA a.length cRA) a) ∧ Aside0 (Kd.R (Kd.int .i64) 3 w' w.heap.size (fun _ => True) (.slice ARB b.length cRB) b) ∧ Aside0 (Kd.R (Kd.int .i64) 3 w' w.heap.size (fun _ => True) (.slice ART tc.length cRT) tc) ∧ Aside0 (Kd.R (Kd.int .i64) 3 w' w.heap.size (fun _ => True) (.slice ARAT at_.length cRAT) at_) ∧ Aside0 (Kd.R (Kd.int .i64) 3 w' w.heap.size (fun _ => True) (.slice ARP p.length cRP) p) ∧ Aside0 (Kd.R (Kd.int .i64) 3 w' w.heap.size (fun _ => True) (.slice ARQ q.length cRQ) q) ∧ Aside0 (Kd.R (Kd.int .i64) 3 w' w.heap.size (fun _ => True) (.slice ARF first.length cRF) first) ∧ Aside0 (Kd.R (Kd.int .i64) 3 w' w.heap.size (fun _ => True) (.slice ARS second.length cRS) second)) ?jx ?jy
    case jx =>
      cases two with
      | false =>
        go_wp2
        (try simp only [Exit.then]); exact ⟨⟨_, _, _, _, _, _, _, _, _, _, _, _, _, _, _, _, by simp only [putRuns, List.foldl_cons, List.foldl_nil, List.toList_toArray, setRun_zero, setRun_succ, overL_nil, overL_cons]; rfl⟩, HB, RO, RC, RU, RA, RB, RT, RAT, RP, RQ, RF, RS⟩
      | true =>
        (repeat ((fail_if_success (with_reducible refine gate_dst (N := 241) rfl ?_)); first | go_values | go_skip | go_guarded | go_step | go_upon))
        refine goesL_ (some 241) rfl rfl Try.func20 (by kernel_rfl) rfl #[.slice ARAT at_.length cRAT] rfl (by (try simp only [List.map_toArray, List.map_cons, List.map_nil]); first | done | rfl) ?_
        refine (impl_RankOfCuts.calls k ARAT cRAT at_ kk true _ (Kd.R_reads' RAT.out).2.2 (Kd.R_reads' RAT.out).2.1 (HF.out.l2 rfl)).mono ?_
        rintro e w30 ⟨rfl, hb⟩
        refine ⟨_, rfl, ?_⟩
        have nRO_ := Aside0.mk (Kd.R_below RO.out hb)
        have nRC_ := Aside0.mk (Kd.R_below RC.out hb)
        have nRU_ := Aside0.mk (Kd.R_below RU.out hb)
        have nRA_ := Aside0.mk (Kd.R_below RA.out hb)
        have nRB_ := Aside0.mk (Kd.R_below RB.out hb)
        have nRT_ := Aside0.mk (Kd.R_below RT.out hb)
        have nRAT_ := Aside0.mk (Kd.R_below RAT.out hb)
        have nRP_ := Aside0.mk (Kd.R_below RP.out hb)
        have nRQ_ := Aside0.mk (Kd.R_below RQ.out hb)
        have nRF_ := Aside0.mk (Kd.R_below RF.out hb)
        have nRS_ := Aside0.mk (Kd.R_below RS.out hb)
        have nB := Aside0.mk (below_step HB.out hb)
        clear HB hb RO RC RU RA RB RT RAT RP RQ RF RS
        have HB := nB
        clear nB
        have RO := nRO_
        clear nRO_
        have RC := nRC_
        clear nRC_
        have RU := nRU_
        clear nRU_
        have RA := nRA_
        clear nRA_
        have RB := nRB_
        clear nRB_
        have RT := nRT_
        clear nRT_
        have RAT := nRAT_
        clear nRAT_
        have RP := nRP_
        clear nRP_
        have RQ := nRQ_
        clear nRQ_
        have RF := nRF_
        clear nRF_
        have RS := nRS_
        clear nRS_
        have q_kk : (kk != kk) = false := bne_self_eq_false kk
        go_wp2
        (try simp only [Exit.then]); exact ⟨⟨_, _, _, _, _, _, _, _, _, _, _, _, _, _, _, _, by simp only [putRuns, List.foldl_cons, List.foldl_nil, List.toList_toArray, setRun_zero, setRun_succ, overL_nil, overL_cons]; rfl⟩, HB, RO, RC, RU, RA, RB, RT, RAT, RP, RQ, RF, RS⟩
    case jy =>
      clear HB RO RC RU RA RB RT RAT RP RQ RF RS
      rintro a' w31 ⟨⟨x238_, x240_, x241_, x239_, x242_, x243_, x42_, x43_, x244_, x245_, x246_, x247_, x248_, x249_, x250_, x2_, rfl⟩, HB, RO, RC, RU, RA, RB, RT, RAT, RP, RQ, RF, RS⟩
      simp only [putRuns, List.foldl_cons, List.foldl_nil, List.toList_toArray, setRun_zero, setRun_succ, overL_nil, overL_cons]
      (repeat ((fail_if_success (with_reducible refine gate_if (id := 43) ?_)); first | go_values | go_skip | go_guarded | go_step | go_upon))
      refine wp_joina (fun a_ a' w' => (∃ x251_ x252_ x253_ x254_ x255_ x256_ x2_ : Value, a' = putRuns a_ [(2, [x2_]), (251, [x251_, x252_, x253_, x254_, x255_, x256_])]) ∧ Aside0 (Below w.heap.size w w') ∧ Aside0 (Kd.R (Kd.int .i64) 3 w' w.heap.size (fun _ => True) (.slice ARO o.length cRO) o) ∧ Aside0 (Kd.R (Kd.int .i64) 3 w' w.heap.size (fun _ => True) (.slice ARC cu.length cRC) cu) ∧ Aside0 (Kd.R (Kd.int .i64) 3 w' w.heap.size (fun _ => True) (.slice ARU out.length cRU) out) ∧ Aside0 (Kd.R (Kd.int .i64) 3 w' w.heap.size (fun _ => True) (.slice ARA a.length cRA) a) ∧ Aside0 (Kd.R (Kd.int .i64) 3 w' w.heap.size (fun _ => True) (.slice ARB b.length cRB) b) ∧ Aside0 (Kd.R (Kd.int .i64) 3 w' w.heap.size (fun _ => True) (.slice ART tc.length cRT) tc) ∧ Aside0 (Kd.R (Kd.int .i64) 3 w' w.heap.size (fun _ => True) (.slice ARAT at_.length cRAT) at_) ∧ Aside0 (Kd.R (Kd.int .i64) 3 w' w.heap.size (fun _ => True) (.slice ARP p.length cRP) p) ∧ Aside0 (Kd.R (Kd.int .i64) 3 w' w.heap.size (fun _ => True) (.slice ARQ q.length cRQ) q) ∧ Aside0 (Kd.R (Kd.int .i64) 3 w' w.heap.size (fun _ => True) (.slice ARF first.length cRF) first) ∧ Aside0 (Kd.R (Kd.int .i64) 3 w' w.heap.size (fun _ => True) (.slice ARS second.length cRS) second)) ?jx ?jy
      case jx =>
        cases three with
        | false =>
          go_wp2
          (try simp only [Exit.then]); exact ⟨⟨_, _, _, _, _, _, _, by simp only [putRuns, List.foldl_cons, List.foldl_nil, List.toList_toArray, setRun_zero, setRun_succ, overL_nil, overL_cons]; rfl⟩, HB, RO, RC, RU, RA, RB, RT, RAT, RP, RQ, RF, RS⟩
        | true =>
          (repeat ((fail_if_success (with_reducible refine gate_dst (N := 254) rfl ?_)); first | go_values | go_skip | go_guarded | go_step | go_upon))
          refine goesG_ (some 254) rfl rfl Try.func27 (by kernel_rfl) rfl #[.string wd] rfl (by (try simp only [List.map_toArray, List.map_cons, List.map_nil]); first | done | rfl) ?_
          refine (impl_IsWord.calls k wd true _ (HF.out.l3 rfl)).mono ?_
          rintro e w32 ⟨rfl, hb⟩
          refine ⟨_, rfl, ?_⟩
          have nRO_ := Aside0.mk (Kd.R_below RO.out hb)
          have nRC_ := Aside0.mk (Kd.R_below RC.out hb)
          have nRU_ := Aside0.mk (Kd.R_below RU.out hb)
          have nRA_ := Aside0.mk (Kd.R_below RA.out hb)
          have nRB_ := Aside0.mk (Kd.R_below RB.out hb)
          have nRT_ := Aside0.mk (Kd.R_below RT.out hb)
          have nRAT_ := Aside0.mk (Kd.R_below RAT.out hb)
          have nRP_ := Aside0.mk (Kd.R_below RP.out hb)
          have nRQ_ := Aside0.mk (Kd.R_below RQ.out hb)
          have nRF_ := Aside0.mk (Kd.R_below RF.out hb)
          have nRS_ := Aside0.mk (Kd.R_below RS.out hb)
          have nB := Aside0.mk (below_step HB.out hb)
          clear HB hb RO RC RU RA RB RT RAT RP RQ RF RS
          have HB := nB
          clear nB
          have RO := nRO_
          clear nRO_
          have RC := nRC_
          clear nRC_
          have RU := nRU_
          clear nRU_
          have RA := nRA_
          clear nRA_
          have RB := nRB_
          clear nRB_
          have RT := nRT_
          clear nRT_
          have RAT := nRAT_
          clear nRAT_
          have RP := nRP_
          clear nRP_
          have RQ := nRQ_
          clear nRQ_
          have RF := nRF_
          clear nRF_
          have RS := nRS_
          clear nRS_
          go_wp2
          (try simp only [Exit.then]); exact ⟨⟨_, _, _, _, _, _, _, by simp only [putRuns, List.foldl_cons, List.foldl_nil, List.toList_toArray, setRun_zero, setRun_succ, overL_nil, overL_cons]; rfl⟩, HB, RO, RC, RU, RA, RB, RT, RAT, RP, RQ, RF, RS⟩
      case jy =>
        clear HB RO RC RU RA RB RT RAT RP RQ RF RS
        rintro a' w33 ⟨⟨x251_, x252_, x253_, x254_, x255_, x256_, x2_, rfl⟩, HB, RO, RC, RU, RA, RB, RT, RAT, RP, RQ, RF, RS⟩
        simp only [putRuns, List.foldl_cons, List.foldl_nil, List.toList_toArray, setRun_zero, setRun_succ, overL_nil, overL_cons]
        (repeat ((fail_if_success (with_reducible refine gate_if (id := 45) ?_)); first | go_values | go_skip | go_guarded | go_step | go_upon))
        refine wp_joina (fun a_ a' w' => (∃ x257_ x259_ x260_ x261_ x258_ x262_ x263_ x44_ x45_ x265_ x266_ x267_ x264_ x268_ x269_ x46_ x47_ x270_ x271_ x272_ x273_ x274_ x275_ x276_ x277_ x278_ x279_ x280_ x281_ x2_ : Value, a' = putRuns a_ [(2, [x2_]), (44, [x44_, x45_, x46_, x47_]), (257, [x257_, x258_, x259_, x260_, x261_, x262_, x263_, x264_, x265_, x266_, x267_, x268_, x269_, x270_, x271_, x272_, x273_, x274_, x275_, x276_, x277_, x278_, x279_, x280_, x281_])]) ∧ Aside0 (Below w.heap.size w w') ∧ Aside0 (Kd.R (Kd.int .i64) 3 w' w.heap.size (fun _ => True) (.slice ARO o.length cRO) o) ∧ Aside0 (Kd.R (Kd.int .i64) 3 w' w.heap.size (fun _ => True) (.slice ARC cu.length cRC) cu) ∧ Aside0 (Kd.R (Kd.int .i64) 3 w' w.heap.size (fun _ => True) (.slice ARU out.length cRU) out) ∧ Aside0 (Kd.R (Kd.int .i64) 3 w' w.heap.size (fun _ => True) (.slice ARA a.length cRA) a) ∧ Aside0 (Kd.R (Kd.int .i64) 3 w' w.heap.size (fun _ => True) (.slice ARB b.length cRB) b) ∧ Aside0 (Kd.R (Kd.int .i64) 3 w' w.heap.size (fun _ => True) (.slice ART tc.length cRT) tc) ∧ Aside0 (Kd.R (Kd.int .i64) 3 w' w.heap.size (fun _ => True) (.slice ARAT at_.length cRAT) at_) ∧ Aside0 (Kd.R (Kd.int .i64) 3 w' w.heap.size (fun _ => True) (.slice ARP p.length cRP) p) ∧ Aside0 (Kd.R (Kd.int .i64) 3 w' w.heap.size (fun _ => True) (.slice ARQ q.length cRQ) q) ∧ Aside0 (Kd.R (Kd.int .i64) 3 w' w.heap.size (fun _ => True) (.slice ARF first.length cRF) first) ∧ Aside0 (Kd.R (Kd.int .i64) 3 w' w.heap.size (fun _ => True) (.slice ARS second.length cRS) second)) ?jx ?jy
        case jx =>
          cases five with
          | false =>
            go_wp2
            (try simp only [Exit.then]); exact ⟨⟨_, _, _, _, _, _, _, _, _, _, _, _, _, _, _, _, _, _, _, _, _, _, _, _, _, _, _, _, _, _, by simp only [putRuns, List.foldl_cons, List.foldl_nil, List.toList_toArray, setRun_zero, setRun_succ, overL_nil, overL_cons]; rfl⟩, HB, RO, RC, RU, RA, RB, RT, RAT, RP, RQ, RF, RS⟩
          | true =>
            (repeat ((fail_if_success (with_reducible refine gate_dst (N := 261) rfl ?_)); first | go_values | go_skip | go_guarded | go_step | go_upon))
            refine goesL_ (some 261) rfl rfl Try.func7 (by kernel_rfl) rfl #[.slice ARP p.length cRP, .slice ARF first.length cRF] rfl (by (try simp only [List.map_toArray, List.map_cons, List.map_nil]); first | done | rfl) ?_
            refine (impl_RunCuts.calls k ARP cRP p ARF cRF first mid true _ (Kd.R_reads' RP.out).2.2 (Kd.R_reads' RP.out).2.1 (Kd.R_reads' RF.out).2.2 (Kd.R_reads' RF.out).2.1 (HF.out.l4 rfl)).mono ?_
            rintro e w34 ⟨v0_, rfl, ho0, hb⟩
            refine ⟨_, rfl, ?_⟩
            obtain ⟨AR2, cR2, e_R2⟩ := Kd.R_slice ho0
            subst e_R2
            have nn0_ := Aside0.mk (Kd.R_lower (Kd.R_mono ho0 (fun _ _ => trivial)) HB.out.size)
            have nRO_ := Aside0.mk (Kd.R_below RO.out hb)
            have nRC_ := Aside0.mk (Kd.R_below RC.out hb)
            have nRU_ := Aside0.mk (Kd.R_below RU.out hb)
            have nRA_ := Aside0.mk (Kd.R_below RA.out hb)
            have nRB_ := Aside0.mk (Kd.R_below RB.out hb)
            have nRT_ := Aside0.mk (Kd.R_below RT.out hb)
            have nRAT_ := Aside0.mk (Kd.R_below RAT.out hb)
            have nRP_ := Aside0.mk (Kd.R_below RP.out hb)
            have nRQ_ := Aside0.mk (Kd.R_below RQ.out hb)
            have nRF_ := Aside0.mk (Kd.R_below RF.out hb)
            have nRS_ := Aside0.mk (Kd.R_below RS.out hb)
            have nB := Aside0.mk (below_step HB.out hb)
            clear HB hb RO RC RU RA RB RT RAT RP RQ RF RS ho0
            have HB := nB
            clear nB
            have RO := nRO_
            clear nRO_
            have RC := nRC_
            clear nRC_
            have RU := nRU_
            clear nRU_
            have RA := nRA_
            clear nRA_
            have RB := nRB_
            clear nRB_
            have RT := nRT_
            clear nRT_
            have RAT := nRAT_
            clear nRAT_
            have RP := nRP_
            clear nRP_
            have RQ := nRQ_
            clear nRQ_
            have RF := nRF_
            clear nRF_
            have RS := nRS_
            clear nRS_
            have R2 := nn0_
            clear nn0_
            (repeat ((fail_if_success (with_reducible refine gate_dst (N := 267) rfl ?_)); first | go_values | go_skip | go_guarded | go_step | go_upon))
            refine goesL_ (some 267) rfl rfl Try.func7 (by kernel_rfl) rfl #[.slice AR2 mid.length cR2, .slice ARS second.length cRS] rfl (by (try simp only [List.map_toArray, List.map_cons, List.map_nil]); first | done | rfl) ?_
            refine (impl_RunCuts.calls k AR2 cR2 mid ARS cRS second q true _ (Kd.R_reads' R2.out).2.2 (Kd.R_reads' R2.out).2.1 (Kd.R_reads' RS.out).2.2 (Kd.R_reads' RS.out).2.1 (HF.out.l5 rfl)).mono ?_
            rintro e w35 ⟨v0_, rfl, ho0, hb⟩
            refine ⟨_, rfl, ?_⟩
            obtain ⟨AR3, cR3, e_R3⟩ := Kd.R_slice ho0
            subst e_R3
            have nn0_ := Aside0.mk (Kd.R_lower (Kd.R_mono ho0 (fun _ _ => trivial)) HB.out.size)
            have nRO_ := Aside0.mk (Kd.R_below RO.out hb)
            have nRC_ := Aside0.mk (Kd.R_below RC.out hb)
            have nRU_ := Aside0.mk (Kd.R_below RU.out hb)
            have nRA_ := Aside0.mk (Kd.R_below RA.out hb)
            have nRB_ := Aside0.mk (Kd.R_below RB.out hb)
            have nRT_ := Aside0.mk (Kd.R_below RT.out hb)
            have nRAT_ := Aside0.mk (Kd.R_below RAT.out hb)
            have nRP_ := Aside0.mk (Kd.R_below RP.out hb)
            have nRQ_ := Aside0.mk (Kd.R_below RQ.out hb)
            have nRF_ := Aside0.mk (Kd.R_below RF.out hb)
            have nRS_ := Aside0.mk (Kd.R_below RS.out hb)
            have nR2_ := Aside0.mk (Kd.R_below R2.out hb)
            have nB := Aside0.mk (below_step HB.out hb)
            clear HB hb RO RC RU RA RB RT RAT RP RQ RF RS R2 ho0
            have HB := nB
            clear nB
            have RO := nRO_
            clear nRO_
            have RC := nRC_
            clear nRC_
            have RU := nRU_
            clear nRU_
            have RA := nRA_
            clear nRA_
            have RB := nRB_
            clear nRB_
            have RT := nRT_
            clear nRT_
            have RAT := nRAT_
            clear nRAT_
            have RP := nRP_
            clear nRP_
            have RQ := nRQ_
            clear nRQ_
            have RF := nRF_
            clear nRF_
            have RS := nRS_
            clear nRS_
            have R2 := nR2_
            clear nR2_
            have R3 := nn0_
            clear nn0_
            (repeat ((fail_if_success (with_reducible refine gate_dst (N := 279) rfl ?_)); first | go_values | go_skip | go_guarded | go_step | go_upon))
            refine goesG_ (some 279) rfl rfl Try.func9 (by kernel_rfl) rfl #[.slice AR3 q.length cR3, .slice ARQ q.length cRQ] rfl (by (try simp only [List.map_toArray, List.map_cons, List.map_nil]); first | done | rfl) ?_
            refine (laws_rInts.calls k AR3 cR3 q ARQ cRQ q true _ (Kd.R_reads' R3.out).2.2 (Kd.R_reads' R3.out).2.1 (Kd.R_reads' RQ.out).2.2 (Kd.R_reads' RQ.out).2.1 HF.out.qq).mono ?_
            rintro e w36 ⟨rfl, hdr⟩
            have hb := hdr.below
            clear hdr
            refine ⟨_, rfl, ?_⟩
            have nRO_ := Aside0.mk (Kd.R_below RO.out hb)
            have nRC_ := Aside0.mk (Kd.R_below RC.out hb)
            have nRU_ := Aside0.mk (Kd.R_below RU.out hb)
            have nRA_ := Aside0.mk (Kd.R_below RA.out hb)
            have nRB_ := Aside0.mk (Kd.R_below RB.out hb)
            have nRT_ := Aside0.mk (Kd.R_below RT.out hb)
            have nRAT_ := Aside0.mk (Kd.R_below RAT.out hb)
            have nRP_ := Aside0.mk (Kd.R_below RP.out hb)
            have nRQ_ := Aside0.mk (Kd.R_below RQ.out hb)
            have nRF_ := Aside0.mk (Kd.R_below RF.out hb)
            have nRS_ := Aside0.mk (Kd.R_below RS.out hb)
            have nR2_ := Aside0.mk (Kd.R_below R2.out hb)
            have nR3_ := Aside0.mk (Kd.R_below R3.out hb)
            have nB := Aside0.mk (below_step HB.out hb)
            clear HB hb RO RC RU RA RB RT RAT RP RQ RF RS R2 R3
            have HB := nB
            clear nB
            have RO := nRO_
            clear nRO_
            have RC := nRC_
            clear nRC_
            have RU := nRU_
            clear nRU_
            have RA := nRA_
            clear nRA_
            have RB := nRB_
            clear nRB_
            have RT := nRT_
            clear nRT_
            have RAT := nRAT_
            clear nRAT_
            have RP := nRP_
            clear nRP_
            have RQ := nRQ_
            clear nRQ_
            have RF := nRF_
            clear nRF_
            have RS := nRS_
            clear nRS_
            have R2 := nR2_
            clear nR2_
            have R3 := nR3_
            clear nR3_
            go_wp2
            clear R2 R3
            (try simp only [Exit.then]); exact ⟨⟨_, _, _, _, _, _, _, _, _, _, _, _, _, _, _, _, _, _, _, _, _, _, _, _, _, _, _, _, _, _, by simp only [putRuns, List.foldl_cons, List.foldl_nil, List.toList_toArray, setRun_zero, setRun_succ, overL_nil, overL_cons]; rfl⟩, HB, RO, RC, RU, RA, RB, RT, RAT, RP, RQ, RF, RS⟩
        case jy =>
          clear HB RO RC RU RA RB RT RAT RP RQ RF RS
          rintro a' w37 ⟨⟨x257_, x259_, x260_, x261_, x258_, x262_, x263_, x44_, x45_, x265_, x266_, x267_, x264_, x268_, x269_, x46_, x47_, x270_, x271_, x272_, x273_, x274_, x275_, x276_, x277_, x278_, x279_, x280_, x281_, x2_, rfl⟩, HB, RO, RC, RU, RA, RB, RT, RAT, RP, RQ, RF, RS⟩
          simp only [putRuns, List.foldl_cons, List.foldl_nil, List.toList_toArray, setRun_zero, setRun_succ, overL_nil, overL_cons]
          cases ok with
          | false =>
            go_wp2
            go_ret
            exact ⟨rfl, HB.out⟩
          | true =>
            (repeat ((fail_if_success (with_reducible refine gate_dst (N := 287) rfl ?_)); first | go_values | go_skip | go_guarded | go_step | go_upon))
            refine goesL_ (some 287) rfl rfl Try.func7 (by kernel_rfl) rfl #[.slice ARU out.length cRU, .slice ARC cu.length cRC] rfl (by (try simp only [List.map_toArray, List.map_cons, List.map_nil]); first | done | rfl) ?_
            refine (impl_RunCuts.calls k ARU cRU out ARC cRC cu o true _ (Kd.R_reads' RU.out).2.2 (Kd.R_reads' RU.out).2.1 (Kd.R_reads' RC.out).2.2 (Kd.R_reads' RC.out).2.1 (HF.out.l6 rfl)).mono ?_
            rintro e w38 ⟨v0_, rfl, ho0, hb⟩
            refine ⟨_, rfl, ?_⟩
            obtain ⟨AR5, cR5, e_R5⟩ := Kd.R_slice ho0
            subst e_R5
            have nn0_ := Aside0.mk (Kd.R_lower (Kd.R_mono ho0 (fun _ _ => trivial)) HB.out.size)
            have nRO_ := Aside0.mk (Kd.R_below RO.out hb)
            have nRC_ := Aside0.mk (Kd.R_below RC.out hb)
            have nRU_ := Aside0.mk (Kd.R_below RU.out hb)
            have nRA_ := Aside0.mk (Kd.R_below RA.out hb)
            have nRB_ := Aside0.mk (Kd.R_below RB.out hb)
            have nRT_ := Aside0.mk (Kd.R_below RT.out hb)
            have nRAT_ := Aside0.mk (Kd.R_below RAT.out hb)
            have nRP_ := Aside0.mk (Kd.R_below RP.out hb)
            have nRQ_ := Aside0.mk (Kd.R_below RQ.out hb)
            have nRF_ := Aside0.mk (Kd.R_below RF.out hb)
            have nRS_ := Aside0.mk (Kd.R_below RS.out hb)
            have nB := Aside0.mk (below_step HB.out hb)
            clear HB hb RO RC RU RA RB RT RAT RP RQ RF RS ho0
            have HB := nB
            clear nB
            have RO := nRO_
            clear nRO_
            have RC := nRC_
            clear nRC_
            have RU := nRU_
            clear nRU_
            have RA := nRA_
            clear nRA_
            have RB := nRB_
            clear nRB_
            have RT := nRT_
            clear nRT_
            have RAT := nRAT_
            clear nRAT_
            have RP := nRP_
            clear nRP_
            have RQ := nRQ_
            clear nRQ_
            have RF := nRF_
            clear nRF_
            have RS := nRS_
            clear nRS_
            have R5 := nn0_
            clear nn0_
            (repeat ((fail_if_success (with_reducible refine gate_dst (N := 292) rfl ?_)); first | go_values | go_skip | go_guarded | go_step | go_upon))
            refine goesL_ (some 292) rfl rfl Try.func22 (by kernel_rfl) rfl #[.slice ARC cu.length cRC] rfl (by (try simp only [List.map_toArray, List.map_cons, List.map_nil]); first | done | rfl) ?_
            refine (impl_CutsWord.calls k ARC cRC cu w2d true _ (Kd.R_reads' RC.out).2.2 (Kd.R_reads' RC.out).2.1 (HF.out.l7 rfl)).mono ?_
            rintro e w39 ⟨rfl, hb⟩
            refine ⟨_, rfl, ?_⟩
            have nRO_ := Aside0.mk (Kd.R_below RO.out hb)
            have nRC_ := Aside0.mk (Kd.R_below RC.out hb)
            have nRU_ := Aside0.mk (Kd.R_below RU.out hb)
            have nRA_ := Aside0.mk (Kd.R_below RA.out hb)
            have nRB_ := Aside0.mk (Kd.R_below RB.out hb)
            have nRT_ := Aside0.mk (Kd.R_below RT.out hb)
            have nRAT_ := Aside0.mk (Kd.R_below RAT.out hb)
            have nRP_ := Aside0.mk (Kd.R_below RP.out hb)
            have nRQ_ := Aside0.mk (Kd.R_below RQ.out hb)
            have nRF_ := Aside0.mk (Kd.R_below RF.out hb)
            have nRS_ := Aside0.mk (Kd.R_below RS.out hb)
            have nR5_ := Aside0.mk (Kd.R_below R5.out hb)
            have nB := Aside0.mk (below_step HB.out hb)
            clear HB hb RO RC RU RA RB RT RAT RP RQ RF RS R5
            have HB := nB
            clear nB
            have RO := nRO_
            clear nRO_
            have RC := nRC_
            clear nRC_
            have RU := nRU_
            clear nRU_
            have RA := nRA_
            clear nRA_
            have RB := nRB_
            clear nRB_
            have RT := nRT_
            clear nRT_
            have RAT := nRAT_
            clear nRAT_
            have RP := nRP_
            clear nRP_
            have RQ := nRQ_
            clear nRQ_
            have RF := nRF_
            clear nRF_
            have RS := nRS_
            clear nRS_
            have R5 := nR5_
            clear nR5_
            (repeat ((fail_if_success (with_reducible refine gate_dst (N := 298) rfl ?_)); first | go_values | go_skip | go_guarded | go_step | go_upon))
            refine goesL_ (some 298) rfl rfl Try.func28 (by kernel_rfl) rfl #[.slice ARO o.length cRO, .string w2d] rfl (by (try simp only [List.map_toArray, List.map_cons, List.map_nil]); first | done | rfl) ?_
            refine (impl_RunWord.calls k ARO cRO o w2d out true _ (Kd.R_reads' RO.out).2.2 (Kd.R_reads' RO.out).2.1 (HF.out.l8 rfl)).mono ?_
            rintro e w40 ⟨v0_, rfl, ho0, hb⟩
            refine ⟨_, rfl, ?_⟩
            obtain ⟨AR6, cR6, e_R6⟩ := Kd.R_slice ho0
            subst e_R6
            have nn0_ := Aside0.mk (Kd.R_lower (Kd.R_mono ho0 (fun _ _ => trivial)) HB.out.size)
            have nRO_ := Aside0.mk (Kd.R_below RO.out hb)
            have nRC_ := Aside0.mk (Kd.R_below RC.out hb)
            have nRU_ := Aside0.mk (Kd.R_below RU.out hb)
            have nRA_ := Aside0.mk (Kd.R_below RA.out hb)
            have nRB_ := Aside0.mk (Kd.R_below RB.out hb)
            have nRT_ := Aside0.mk (Kd.R_below RT.out hb)
            have nRAT_ := Aside0.mk (Kd.R_below RAT.out hb)
            have nRP_ := Aside0.mk (Kd.R_below RP.out hb)
            have nRQ_ := Aside0.mk (Kd.R_below RQ.out hb)
            have nRF_ := Aside0.mk (Kd.R_below RF.out hb)
            have nRS_ := Aside0.mk (Kd.R_below RS.out hb)
            have nR5_ := Aside0.mk (Kd.R_below R5.out hb)
            have nB := Aside0.mk (below_step HB.out hb)
            clear HB hb RO RC RU RA RB RT RAT RP RQ RF RS R5 ho0
            have HB := nB
            clear nB
            have RO := nRO_
            clear nRO_
            have RC := nRC_
            clear nRC_
            have RU := nRU_
            clear nRU_
            have RA := nRA_
            clear nRA_
            have RB := nRB_
            clear nRB_
            have RT := nRT_
            clear nRT_
            have RAT := nRAT_
            clear nRAT_
            have RP := nRP_
            clear nRP_
            have RQ := nRQ_
            clear nRQ_
            have RF := nRF_
            clear nRF_
            have RS := nRS_
            clear nRS_
            have R5 := nR5_
            clear nR5_
            have R6 := nn0_
            clear nn0_
            (repeat ((fail_if_success (with_reducible refine gate_dst (N := 311) rfl ?_)); first | go_values | go_skip | go_guarded | go_step | go_upon))
            refine goesG_ (some 311) rfl rfl Try.func9 (by kernel_rfl) rfl #[.slice AR5 o.length cR5, .slice ARO o.length cRO] rfl (by (try simp only [List.map_toArray, List.map_cons, List.map_nil]); first | done | rfl) ?_
            refine (laws_rInts.calls k AR5 cR5 o ARO cRO o true _ (Kd.R_reads' R5.out).2.2 (Kd.R_reads' R5.out).2.1 (Kd.R_reads' RO.out).2.2 (Kd.R_reads' RO.out).2.1 HF.out.oo).mono ?_
            rintro e w41 ⟨rfl, hdr⟩
            have hb := hdr.below
            clear hdr
            refine ⟨_, rfl, ?_⟩
            have nRO_ := Aside0.mk (Kd.R_below RO.out hb)
            have nRC_ := Aside0.mk (Kd.R_below RC.out hb)
            have nRU_ := Aside0.mk (Kd.R_below RU.out hb)
            have nRA_ := Aside0.mk (Kd.R_below RA.out hb)
            have nRB_ := Aside0.mk (Kd.R_below RB.out hb)
            have nRT_ := Aside0.mk (Kd.R_below RT.out hb)
            have nRAT_ := Aside0.mk (Kd.R_below RAT.out hb)
            have nRP_ := Aside0.mk (Kd.R_below RP.out hb)
            have nRQ_ := Aside0.mk (Kd.R_below RQ.out hb)
            have nRF_ := Aside0.mk (Kd.R_below RF.out hb)
            have nRS_ := Aside0.mk (Kd.R_below RS.out hb)
            have nR5_ := Aside0.mk (Kd.R_below R5.out hb)
            have nR6_ := Aside0.mk (Kd.R_below R6.out hb)
            have nB := Aside0.mk (below_step HB.out hb)
            clear HB hb RO RC RU RA RB RT RAT RP RQ RF RS R5 R6
            have HB := nB
            clear nB
            have RO := nRO_
            clear nRO_
            have RC := nRC_
            clear nRC_
            have RU := nRU_
            clear nRU_
            have RA := nRA_
            clear nRA_
            have RB := nRB_
            clear nRB_
            have RT := nRT_
            clear nRT_
            have RAT := nRAT_
            clear nRAT_
            have RP := nRP_
            clear nRP_
            have RQ := nRQ_
            clear nRQ_
            have RF := nRF_
            clear nRF_
            have RS := nRS_
            clear nRS_
            have R5 := nR5_
            clear nR5_
            have R6 := nR6_
            clear nR6_
            (repeat ((fail_if_success (with_reducible refine gate_dst (N := 316) rfl ?_)); first | go_values | go_skip | go_guarded | go_step | go_upon))
            refine goesG_ (some 316) rfl rfl Try.func9 (by kernel_rfl) rfl #[.slice AR6 out.length cR6, .slice ARU out.length cRU] rfl (by (try simp only [List.map_toArray, List.map_cons, List.map_nil]); first | done | rfl) ?_
            refine (laws_rInts.calls k AR6 cR6 out ARU cRU out true _ (Kd.R_reads' R6.out).2.2 (Kd.R_reads' R6.out).2.1 (Kd.R_reads' RU.out).2.2 (Kd.R_reads' RU.out).2.1 HF.out.f79).mono ?_
            rintro e w42 ⟨rfl, hdr⟩
            have hb := hdr.below
            clear hdr
            refine ⟨_, rfl, ?_⟩
            have nRO_ := Aside0.mk (Kd.R_below RO.out hb)
            have nRC_ := Aside0.mk (Kd.R_below RC.out hb)
            have nRU_ := Aside0.mk (Kd.R_below RU.out hb)
            have nRA_ := Aside0.mk (Kd.R_below RA.out hb)
            have nRB_ := Aside0.mk (Kd.R_below RB.out hb)
            have nRT_ := Aside0.mk (Kd.R_below RT.out hb)
            have nRAT_ := Aside0.mk (Kd.R_below RAT.out hb)
            have nRP_ := Aside0.mk (Kd.R_below RP.out hb)
            have nRQ_ := Aside0.mk (Kd.R_below RQ.out hb)
            have nRF_ := Aside0.mk (Kd.R_below RF.out hb)
            have nRS_ := Aside0.mk (Kd.R_below RS.out hb)
            have nR5_ := Aside0.mk (Kd.R_below R5.out hb)
            have nR6_ := Aside0.mk (Kd.R_below R6.out hb)
            have nB := Aside0.mk (below_step HB.out hb)
            clear HB hb RO RC RU RA RB RT RAT RP RQ RF RS R5 R6
            have HB := nB
            clear nB
            have RO := nRO_
            clear nRO_
            have RC := nRC_
            clear nRC_
            have RU := nRU_
            clear nRU_
            have RA := nRA_
            clear nRA_
            have RB := nRB_
            clear nRB_
            have RT := nRT_
            clear nRT_
            have RAT := nRAT_
            clear nRAT_
            have RP := nRP_
            clear nRP_
            have RQ := nRQ_
            clear nRQ_
            have RF := nRF_
            clear nRF_
            have RS := nRS_
            clear nRS_
            have R5 := nR5_
            clear nR5_
            have R6 := nR6_
            clear nR6_
            go_wp2
            go_ret
            exact ⟨rfl, HB.out⟩
set_option maxHeartbeats 4000000 in
set_option maxRecDepth 100000 in
theorem laws_FnCuts.big (A0 : Option Addr) (c0 : Nat) (l0 : List Int) (w : World) (hr0 : Kd.C (Kd.int .u8) w A0 l0.length l0) (hc0 : l0.length ≤ c0) (h : laws_rBig.f l0 = some true) :
    Calls Try.prog 3 #[.slice A0 l0.length c0] w fun e w' => e = .returned (.bool true) ∧ Below w.heap.size w w' := by
  have HB := Aside0.mk (Below.refl w.heap.size w)
  go_enter Try.func3, Try.ntmps3
  (repeat ((fail_if_success (with_reducible refine gate_dst (N := 55) rfl ?_)); first | go_values | go_skip | go_guarded | go_step | go_upon))
  refine goesL_ (some 55) rfl rfl Try.func5 (by kernel_rfl) rfl #[.slice A0 l0.length c0] rfl (by (try simp only [List.map_toArray, List.map_cons, List.map_nil]); first | done | rfl) ?_
  refine (laws_rBig.calls A0 c0 l0 true w hr0 hc0 h).mono ?_
  rintro e w1 ⟨rfl, hdr⟩
  refine ⟨_, rfl, ?_⟩
  have nB := Aside0.mk (below_step HB.out hdr.below)
  clear HB hdr
  go_wp2
  go_ret
  exact ⟨rfl, nB.out⟩
def laws_FnCuts.Pure : Prop := ∀ (l0 : List Int), l0.length ≤ maxLen → l0.length * 1 ≤ 140737488351232 → (∀ x ∈ l0, (Lit.int .u8 x).wf = true) → laws_rBig.f l0 = some false → ∃ k o cu out ok n li ac a b tc one m kk at_ two x rank three wd p q first second five mid w2d, laws_FnCuts.Fact k l0 o cu out ok n li ac a b tc one m kk at_ two x rank three wd p q first second five mid w2d
theorem laws_FnCuts.walk (P : laws_FnCuts.Pure) (a0 : Option Addr) (len0 cap0 : Nat) (z0 : List Int) (w : World) (w0 : (a0 = none ∧ len0 = 0 ∧ cap0 = 0 ∧ z0 = []) ∨ ∃ x, a0 = some x ∧ len0 ≤ cap0 ∧ cap0 ≤ maxLen ∧ z0.length = cap0 ∧ (∀ i, i < z0.length → w.cell? (x.add i) = some (.int .u8 (z0.getD i 0))) ∧ ∀ n ∈ z0, (Lit.int .u8 n).wf = true) (y0 : len0 * 1 ≤ 140737488351232) :
    Calls Try.prog 3 #[.slice a0 len0 cap0] w fun e w' => e = .returned (.bool true) ∧ Below w.heap.size w w' := by
  obtain ⟨l0, rfl, hr0, hm0, hw0, hc0⟩ := ReadsInt.ofRowC w0
  have hC := Kd.C_of_reads (d := (0 : Int)) (h1 := fun _ => rfl) hr0
  cases hb : decide ((l0.length : Int) > 65536) with
  | true => exact laws_FnCuts.big _ _ l0 w hC hc0 (by unfold laws_rBig.f; rw [hb])
  | false =>
    obtain ⟨k, o, cu, out, ok, n, li, ac, a, b, tc, one, m, kk, at_, two, x, rank, three, wd, p, q, first, second, five, mid, w2d, h⟩ := P l0 hm0 y0 hw0 (by unfold laws_rBig.f; rw [hb])
    exact laws_FnCuts.calls _ _ k l0 o cu out ok n li ac a b tc one m kk at_ two x rank three wd p q first second five mid w2d w hC hc0 h
end Go.Proofs.Ytbnieikbjmfhgaa.PFnCuts
