-- laid by mkprint.py, a program of this claim's writer, over the kit's print program; parts of it are typed by hand
import Derived.Test.YtfjbgmemjjjjoaaPFnEndsCountsx0
import Derived.Test.YtfjbgmemjjjjoaaPFnEndsCountsx1
import Derived.Test.YtfjbgmemjjjjoaaPFnEndsCountsx3
import Derived.Test.YtfjbgmemjjjjoaaPFnEndsCountsx7
import Derived.Test.YtfjbgmemjjjjoaaPFnEndsCountsx10
import Derived.Test.YtfjbgmemjjjjoaaPFnEndsCountsx12
import Derived.Test.YtfjbgmemjjjjoaaPFnEndsCountsx13
import Derived.Test.YtfjbgmemjjjjoaaPFnEndsCountsx14
import Derived.Test.YtfjbgmemjjjjoaaPFnEndsCountsx15
import Derived.Test.YtfjbgmemjjjjoaaPFnEndsCountsx16
import Derived.Test.YtfjbgmemjjjjoaaPFnEndsCountsx20
import Derived.Test.YtfjbgmemjjjjoaaPFnEndsCountsx21
import Derived.Test.YtfjbgmemjjjjoaaPFnEndsCountsx22
namespace Go.Proofs.Ytfjbgmemjjjjoaa.PFnEndsCounts
open Go.RowKit Go.Proofs.YtfjbgmemjjjjoaaW.PrintWords Go.Proofs.YtfjbgmemjjjjoaaW.PrintLast Go.Proofs.YtfjbgmemjjjjoaaW.PrintMore
attribute [local go_sem] max2_int min2_int max_two min_two max_three min_three max_four min_four
set_option linter.unusedVariables false
set_option linter.unusedSimpArgs false
theorem gate_if {P : Program} (id : Nat) {ops : Array Oper} {dr : Bool} {x y : Code} {Q : Exit → Act → World → Prop} {a : Act} {w : World} (h : (((Code.region id ops dr).seq x).seq y).wp P Q a w) : (((Code.region id ops dr).seq x).seq y).wp P Q a w := h
theorem wp_joina {P : Program} {x y : Code} {Q : Exit → Act → World → Prop} {a : Act} {w : World} (R : Act → Act → World → Prop) (hx : x.wp P (Exit.then (R a) Q) a w) (hy : ∀ a' w', R a a' w' → y.wp P Q a' w') : (x.seq y).wp P Q a w :=
 wp_seq (wp_mono hx (by intro e a w h; cases e <;> first | exact hy _ _ h | exact h))
def overL : List Value → List Value → List Value
 | l, [] => l
 | _ :: l, x :: xs => x :: overL l xs
 | [], _ :: _ => []
def setRun : List Value → Nat → List Value → List Value
 | l, 0, xs => overL l xs
 | a :: l, n + 1, xs => a :: setRun l n xs
 | [], _ + 1, _ => []
theorem overL_nil (l : List Value) : overL l [] = l := by cases l <;> rfl
theorem overL_cons (a x : Value) (l xs : List Value) : overL (a :: l) (x :: xs) = x :: overL l xs := rfl
theorem setRun_zero (l xs : List Value) : setRun l 0 xs = overL l xs := by cases l <;> rfl
theorem setRun_succ (a : Value) (l : List Value) (n : Nat) (xs : List Value) : setRun (a :: l) (n + 1) xs = a :: setRun l n xs := rfl
def putRuns (a : Act) (r : List (Nat × List Value)) : Act := ⟨(r.foldl (fun l p => setRun l p.1 p.2) a.tmps.toList).toArray, a.defers⟩
def cutRun (a : Act) : Nat → Nat → List Value
 | _, 0 => []
 | p, n + 1 => a.tmps.toList.getD p undef :: cutRun a (p + 1) n
def Joined (a a' : Act) (rs : List (Nat × Nat)) : Prop := a' = putRuns a (rs.map fun p => (p.1, cutRun a' p.1 p.2))
theorem Joined.of {a a' : Act} {rs : List (Nat × Nat)} (h : a' = putRuns a (rs.map fun p => (p.1, cutRun a' p.1 p.2))) : Joined a a' rs := h
theorem wup_s (i : Nat) (h : i ≤ 17592186044416) : wrap64 ((i : Int) + 1) = ((i + 1 : Nat) : Int) := by rw [IntWalk.wrap64_in _ (by omega)]; omega
structure laws_FnEndsCounts.Fact (k : Nat) (l0 : List Int) (o : List Int) (all : List (List Int)) (ok : Bool) (only : Int) (n : Int) (many : Int) (two : Bool) (m : Int) (plain : Int) (three : Bool) (x : List Int) (can : Bool) (four : Bool) (kk : Int) (queue : ByteArray) (five : Bool) (p : Bool) (ws : List ByteArray) : Prop where
 f42 : laws_rBig.f l0 = some (false)
 f44 : spec_DrawEndsOutputs.f l0 = some (o)
 f47 : impl_EndsOutputs.f k o = some (all, ok)
 f52 : spec_EndsOutputs.f k o = some (all, ok)
 f61 : laws_rLists.f k all all = some (true)
 f66 : impl_OnlyByEnds.f k o = some (only, ok)
 f71 : spec_OnlyByEnds.f k o = some (only, ok)
 f88 : spec_DrawCountEnds.f l0 = some (n)
 f91 : impl_CountEnds.f k n = some (many, two)
 f96 : spec_CountEnds.f k n = some (many, two)
 f108 : spec_DrawCountPlainEnds.f l0 = some (m)
 f111 : impl_CountPlainEnds.f k m = some (plain, three)
 f116 : spec_CountPlainEnds.f k m = some (plain, three)
 f128 : spec_DrawIsEndsSortable.f l0 = some (x)
 f131 : impl_IsEndsSortable.f k x = some (can, four)
 f136 : spec_IsEndsSortable.f k x = some (can, four)
 f150 : impl_IsOrder.f k x = some (four)
 f154 : spec_DrawAsQueue.f l0 = some (kk)
 f157 : impl_AsQueue.f kk = some (queue, five)
 f162 : spec_AsQueue.f k kk = some (queue, five)
 srt : four = true → impl_IsSortable.f k x = some (p, true)
 pcan : four = true → p = true → can = true
 le : two = true → three = true → (n == m) = true → decide (many > plain) = false
 run : five = true → ok = true → (kk == (o.length : Int)) = true → impl_RunEnds.f k o queue = some (o, true)
 oo : laws_rInts.f k o o = some true
 wrd : ok = true → impl_WordsOf.f k (o.length : Int) = some (ws, true)
 sum : ok = true → (wrap64 ((ws.length : Int) + only) != (all.length : Int)) = false
 cnt : ok = true → two = true → (n == (o.length : Int)) = true → (many != (all.length : Int)) = false
 lenA : all.length ≤ 1000000
 each : ok = true → ∀ q ∈ all, ∃ s : ByteArray, impl_EndsTo.f k o q = some (s, true)
set_option maxHeartbeats 16000000 in
set_option maxRecDepth 100000 in
theorem laws_FnEndsCounts.calls (A0 : Option Addr) (c0 : Nat) (k : Nat) (l0 : List Int) (o : List Int) (all : List (List Int)) (ok : Bool) (only : Int) (n : Int) (many : Int) (two : Bool) (m : Int) (plain : Int) (three : Bool) (x : List Int) (can : Bool) (four : Bool) (kk : Int) (queue : ByteArray) (five : Bool) (p : Bool) (ws : List ByteArray) (w : World) (hr0 : Kd.C (Kd.int .u8) w A0 l0.length l0) (hc0 : l0.length ≤ c0) (hF : laws_FnEndsCounts.Fact k l0 o all ok only n many two m plain three x can four kk queue five p ws) :
  Calls Try.prog 3 #[.slice A0 l0.length c0] w fun e w' => e = .returned (.bool true) ∧ Below w.heap.size w w' := by
 have HR0 := Aside0.mk hr0
 have HC0 := Aside0.mk hc0
 have HF := Aside0.mk hF
 have HB := Aside0.mk (Below.refl w.heap.size w)
 clear hr0 hc0 hF
 go_enter Try.func3, Try.ntmps3
 have q_ok : (ok != ok) = false := bne_self_eq_false ok
 have q_only : (only != only) = false := bne_self_eq_false only
 have q_many : (many != many) = false := bne_self_eq_false many
 have q_two : (two != two) = false := bne_self_eq_false two
 have q_plain : (plain != plain) = false := bne_self_eq_false plain
 have q_three : (three != three) = false := bne_self_eq_false three
 have q_can : (can != can) = false := bne_self_eq_false can
 have q_four : (four != four) = false := bne_self_eq_false four
 have q_five : (five != five) = false := bne_self_eq_false five
 have q_queue : (queue != queue) = false := by rw [bne, (Go.MapKept.bytes_beq queue queue).mpr rfl]; rfl
 (repeat ((fail_if_success (with_reducible refine gate_dst (N := 42) rfl ?_)); first | go_values | go_skip | go_guarded | go_step | go_upon))
 refine goesL_ (some 42) rfl rfl Try.func4 (by kernel_rfl) rfl #[.slice A0 l0.length c0] rfl (by (try simp only [List.map_toArray, List.map_cons, List.map_nil]); first | done | rfl) ?_
 refine (laws_rBig.calls A0 c0 l0 false _ (Kd.C_below HR0.out HB.out) HC0.out HF.out.f42).mono ?_
 rintro e w1 ⟨rfl, hdr⟩
 have hb := hdr.below
 clear hdr
 refine ⟨_, rfl, ?_⟩
 have nB := Aside0.mk (below_step HB.out hb)
 clear HB hb
 have HB := nB
 clear nB
 (repeat ((fail_if_success (with_reducible refine gate_dst (N := 44) rfl ?_)); first | go_values | go_skip | go_guarded | go_step | go_upon))
 refine goesL_ (some 44) rfl rfl Try.func5 (by kernel_rfl) rfl #[.slice A0 l0.length c0] rfl (by (try simp only [List.map_toArray, List.map_cons, List.map_nil]); first | done | rfl) ?_
 refine (spec_DrawEndsOutputs.calls A0 c0 l0 o _ (Kd.C_below HR0.out HB.out) HC0.out HF.out.f44).mono ?_
 rintro e w2 ⟨v0_, rfl, ho0, hb⟩
 refine ⟨_, rfl, ?_⟩
 obtain ⟨ARO, cRO, e_RO⟩ := Kd.R_slice ho0
 subst e_RO
 have nn0_ := Aside0.mk (Kd.R_lower (Kd.R_mono ho0 (fun _ _ => trivial)) HB.out.size)
 have nB := Aside0.mk (below_step HB.out hb)
 clear HB hb  ho0
 have HB := nB
 clear nB
 have RO := nn0_
 clear nn0_
 (repeat ((fail_if_success (with_reducible refine gate_dst (N := 47) rfl ?_)); first | go_values | go_skip | go_guarded | go_step | go_upon))
 refine goesL_ (some 47) rfl rfl Try.func6 (by kernel_rfl) rfl #[.slice ARO o.length cRO] rfl (by (try simp only [List.map_toArray, List.map_cons, List.map_nil]); first | done | rfl) ?_
 refine (impl_EndsOutputs.calls k ARO cRO o all ok _ (Kd.R_reads' RO.out).2.2 (Kd.R_reads' RO.out).2.1 HF.out.f47).mono ?_
 rintro e w3 ⟨v0_, rfl, ho0, hb⟩
 refine ⟨_, rfl, ?_⟩
 obtain ⟨ARE, cRE, e_RE⟩ := Kd.S_slice ho0
 subst e_RE
 have nn0_ := Aside0.mk (Kd.S_lower (Kd.S_mono ho0 (fun _ _ => trivial)) HB.out.size)
 have nRO_ := Aside0.mk (Kd.R_below RO.out hb)
 have nB := Aside0.mk (below_step HB.out hb)
 clear HB hb RO ho0
 have HB := nB
 clear nB
 have RO := nRO_
 clear nRO_
 have RE := nn0_
 clear nn0_
 (repeat ((fail_if_success (with_reducible refine gate_dst (N := 52) rfl ?_)); first | go_values | go_skip | go_guarded | go_step | go_upon))
 refine goesL_ (some 52) rfl rfl Try.func7 (by kernel_rfl) rfl #[.slice ARO o.length cRO] rfl (by (try simp only [List.map_toArray, List.map_cons, List.map_nil]); first | done | rfl) ?_
 refine (spec_EndsOutputs.calls k ARO cRO o all ok _ (Kd.R_reads' RO.out).2.2 (Kd.R_reads' RO.out).2.1 HF.out.f52).mono ?_
 rintro e w4 ⟨v0_, rfl, ho0, hb⟩
 refine ⟨_, rfl, ?_⟩
 obtain ⟨ARE2, cRE2, e_RE2⟩ := Kd.N_slice ho0
 subst e_RE2
 have nn0_ := Aside0.mk (Kd.N_lower (Kd.N_mono ho0 (fun _ _ => trivial)) HB.out.size)
 have nRO_ := Aside0.mk (Kd.R_below RO.out hb)
 have nRE_ := Aside0.mk (Kd.S_below RE.out hb)
 have nB := Aside0.mk (below_step HB.out hb)
 clear HB hb RO RE ho0
 have HB := nB
 clear nB
 have RO := nRO_
 clear nRO_
 have RE := nRE_
 clear nRE_
 have RE2 := nn0_
 clear nn0_
 (repeat ((fail_if_success (with_reducible refine gate_dst (N := 61) rfl ?_)); first | go_values | go_skip | go_guarded | go_step | go_upon))
 refine goesG_ (some 61) rfl rfl Try.func8 (by kernel_rfl) rfl #[.slice ARE all.length cRE, .slice ARE2 all.length cRE2] rfl (by (try simp only [List.map_toArray, List.map_cons, List.map_nil]); first | done | rfl) ?_
 refine (laws_rLists.calls k ARE cRE all ARE2 cRE2 all true _ (Kd.S_reads' RE.out).2.2 (Kd.S_reads' RE.out).2.1 (Kd.N_reads' RE2.out).2.2 (Kd.N_reads' RE2.out).2.1 HF.out.f61).mono ?_
 rintro e w5 ⟨rfl, hdr⟩
 have hb := hdr.below
 clear hdr
 refine ⟨_, rfl, ?_⟩
 have nRO_ := Aside0.mk (Kd.R_below RO.out hb)
 have nRE_ := Aside0.mk (Kd.S_below RE.out hb)
 have nRE2_ := Aside0.mk (Kd.N_below RE2.out hb)
 have nB := Aside0.mk (below_step HB.out hb)
 clear HB hb RO RE RE2
 have HB := nB
 clear nB
 have RO := nRO_
 clear nRO_
 have RE := nRE_
 clear nRE_
 have RE2 := nRE2_
 clear nRE2_
 clear RE2
 (repeat ((fail_if_success (with_reducible refine gate_dst (N := 66) rfl ?_)); first | go_values | go_skip | go_guarded | go_step | go_upon))
 refine goesL_ (some 66) rfl rfl Try.func9 (by kernel_rfl) rfl #[.slice ARO o.length cRO] rfl (by (try simp only [List.map_toArray, List.map_cons, List.map_nil]); first | done | rfl) ?_
 refine (impl_OnlyByEnds.calls k ARO cRO o only ok _ (Kd.R_reads' RO.out).2.2 (Kd.R_reads' RO.out).2.1 HF.out.f66).mono ?_
 rintro e w6 ⟨rfl, hb⟩
 refine ⟨_, rfl, ?_⟩
 have nRO_ := Aside0.mk (Kd.R_below RO.out hb)
 have nRE_ := Aside0.mk (Kd.S_below RE.out hb)
 have nB := Aside0.mk (below_step HB.out hb)
 clear HB hb RO RE
 have HB := nB
 clear nB
 have RO := nRO_
 clear nRO_
 have RE := nRE_
 clear nRE_
 (repeat ((fail_if_success (with_reducible refine gate_dst (N := 71) rfl ?_)); first | go_values | go_skip | go_guarded | go_step | go_upon))
 refine goesL_ (some 71) rfl rfl Try.func10 (by kernel_rfl) rfl #[.slice ARO o.length cRO] rfl (by (try simp only [List.map_toArray, List.map_cons, List.map_nil]); first | done | rfl) ?_
 refine (spec_OnlyByEnds.calls k ARO cRO o only ok _ (Kd.R_reads' RO.out).2.2 (Kd.R_reads' RO.out).2.1 HF.out.f71).mono ?_
 rintro e w7 ⟨rfl, hb⟩
 refine ⟨_, rfl, ?_⟩
 have nRO_ := Aside0.mk (Kd.R_below RO.out hb)
 have nRE_ := Aside0.mk (Kd.S_below RE.out hb)
 have nB := Aside0.mk (below_step HB.out hb)
 clear HB hb RO RE
 have HB := nB
 clear nB
 have RO := nRO_
 clear nRO_
 have RE := nRE_
 clear nRE_
 (repeat ((fail_if_success (with_reducible refine gate_dst (N := 88) rfl ?_)); first | go_values | go_skip | go_guarded | go_step | go_upon))
 refine goesL_ (some 88) rfl rfl Try.func11 (by kernel_rfl) rfl #[.slice A0 l0.length c0] rfl (by (try simp only [List.map_toArray, List.map_cons, List.map_nil]); first | done | rfl) ?_
 refine (spec_DrawCountEnds.calls A0 c0 l0 n _ (Kd.C_below HR0.out HB.out) HC0.out HF.out.f88).mono ?_
 rintro e w8 ⟨rfl, hb⟩
 refine ⟨_, rfl, ?_⟩
 have nRO_ := Aside0.mk (Kd.R_below RO.out hb)
 have nRE_ := Aside0.mk (Kd.S_below RE.out hb)
 have nB := Aside0.mk (below_step HB.out hb)
 clear HB hb RO RE
 have HB := nB
 clear nB
 have RO := nRO_
 clear nRO_
 have RE := nRE_
 clear nRE_
 (repeat ((fail_if_success (with_reducible refine gate_dst (N := 91) rfl ?_)); first | go_values | go_skip | go_guarded | go_step | go_upon))
 refine goesL_ (some 91) rfl rfl Try.func12 (by kernel_rfl) rfl #[.int .i64 n] rfl (by (try simp only [List.map_toArray, List.map_cons, List.map_nil]); first | done | rfl) ?_
 refine (impl_CountEnds.calls k n many two _ HF.out.f91).mono ?_
 rintro e w9 ⟨rfl, hb⟩
 refine ⟨_, rfl, ?_⟩
 have nRO_ := Aside0.mk (Kd.R_below RO.out hb)
 have nRE_ := Aside0.mk (Kd.S_below RE.out hb)
 have nB := Aside0.mk (below_step HB.out hb)
 clear HB hb RO RE
 have HB := nB
 clear nB
 have RO := nRO_
 clear nRO_
 have RE := nRE_
 clear nRE_
 (repeat ((fail_if_success (with_reducible refine gate_dst (N := 96) rfl ?_)); first | go_values | go_skip | go_guarded | go_step | go_upon))
 refine goesL_ (some 96) rfl rfl Try.func13 (by kernel_rfl) rfl #[.int .i64 n] rfl (by (try simp only [List.map_toArray, List.map_cons, List.map_nil]); first | done | rfl) ?_
 refine (spec_CountEnds.calls k n many two _ HF.out.f96).mono ?_
 rintro e w10 ⟨rfl, hb⟩
 refine ⟨_, rfl, ?_⟩
 have nRO_ := Aside0.mk (Kd.R_below RO.out hb)
 have nRE_ := Aside0.mk (Kd.S_below RE.out hb)
 have nB := Aside0.mk (below_step HB.out hb)
 clear HB hb RO RE
 have HB := nB
 clear nB
 have RO := nRO_
 clear nRO_
 have RE := nRE_
 clear nRE_
 (repeat ((fail_if_success (with_reducible refine gate_dst (N := 108) rfl ?_)); first | go_values | go_skip | go_guarded | go_step | go_upon))
 refine goesL_ (some 108) rfl rfl Try.func14 (by kernel_rfl) rfl #[.slice A0 l0.length c0] rfl (by (try simp only [List.map_toArray, List.map_cons, List.map_nil]); first | done | rfl) ?_
 refine (spec_DrawCountPlainEnds.calls A0 c0 l0 m _ (Kd.C_below HR0.out HB.out) HC0.out HF.out.f108).mono ?_
 rintro e w11 ⟨rfl, hb⟩
 refine ⟨_, rfl, ?_⟩
 have nRO_ := Aside0.mk (Kd.R_below RO.out hb)
 have nRE_ := Aside0.mk (Kd.S_below RE.out hb)
 have nB := Aside0.mk (below_step HB.out hb)
 clear HB hb RO RE
 have HB := nB
 clear nB
 have RO := nRO_
 clear nRO_
 have RE := nRE_
 clear nRE_
 (repeat ((fail_if_success (with_reducible refine gate_dst (N := 111) rfl ?_)); first | go_values | go_skip | go_guarded | go_step | go_upon))
 refine goesL_ (some 111) rfl rfl Try.func15 (by kernel_rfl) rfl #[.int .i64 m] rfl (by (try simp only [List.map_toArray, List.map_cons, List.map_nil]); first | done | rfl) ?_
 refine (impl_CountPlainEnds.calls k m plain three _ HF.out.f111).mono ?_
 rintro e w12 ⟨rfl, hb⟩
 refine ⟨_, rfl, ?_⟩
 have nRO_ := Aside0.mk (Kd.R_below RO.out hb)
 have nRE_ := Aside0.mk (Kd.S_below RE.out hb)
 have nB := Aside0.mk (below_step HB.out hb)
 clear HB hb RO RE
 have HB := nB
 clear nB
 have RO := nRO_
 clear nRO_
 have RE := nRE_
 clear nRE_
 (repeat ((fail_if_success (with_reducible refine gate_dst (N := 116) rfl ?_)); first | go_values | go_skip | go_guarded | go_step | go_upon))
 refine goesL_ (some 116) rfl rfl Try.func16 (by kernel_rfl) rfl #[.int .i64 m] rfl (by (try simp only [List.map_toArray, List.map_cons, List.map_nil]); first | done | rfl) ?_
 refine (spec_CountPlainEnds.calls k m plain three _ HF.out.f116).mono ?_
 rintro e w13 ⟨rfl, hb⟩
 refine ⟨_, rfl, ?_⟩
 have nRO_ := Aside0.mk (Kd.R_below RO.out hb)
 have nRE_ := Aside0.mk (Kd.S_below RE.out hb)
 have nB := Aside0.mk (below_step HB.out hb)
 clear HB hb RO RE
 have HB := nB
 clear nB
 have RO := nRO_
 clear nRO_
 have RE := nRE_
 clear nRE_
 (repeat ((fail_if_success (with_reducible refine gate_dst (N := 128) rfl ?_)); first | go_values | go_skip | go_guarded | go_step | go_upon))
 refine goesL_ (some 128) rfl rfl Try.func17 (by kernel_rfl) rfl #[.slice A0 l0.length c0] rfl (by (try simp only [List.map_toArray, List.map_cons, List.map_nil]); first | done | rfl) ?_
 refine (spec_DrawIsEndsSortable.calls A0 c0 l0 x _ (Kd.C_below HR0.out HB.out) HC0.out HF.out.f128).mono ?_
 rintro e w14 ⟨v0_, rfl, ho0, hb⟩
 refine ⟨_, rfl, ?_⟩
 obtain ⟨ARX, cRX, e_RX⟩ := Kd.R_slice ho0
 subst e_RX
 have nn0_ := Aside0.mk (Kd.R_lower (Kd.R_mono ho0 (fun _ _ => trivial)) HB.out.size)
 have nRO_ := Aside0.mk (Kd.R_below RO.out hb)
 have nRE_ := Aside0.mk (Kd.S_below RE.out hb)
 have nB := Aside0.mk (below_step HB.out hb)
 clear HB hb RO RE ho0
 have HB := nB
 clear nB
 have RO := nRO_
 clear nRO_
 have RE := nRE_
 clear nRE_
 have RX := nn0_
 clear nn0_
 (repeat ((fail_if_success (with_reducible refine gate_dst (N := 131) rfl ?_)); first | go_values | go_skip | go_guarded | go_step | go_upon))
 refine goesL_ (some 131) rfl rfl Try.func18 (by kernel_rfl) rfl #[.slice ARX x.length cRX] rfl (by (try simp only [List.map_toArray, List.map_cons, List.map_nil]); first | done | rfl) ?_
 refine (impl_IsEndsSortable.calls k ARX cRX x can four _ (Kd.R_reads' RX.out).2.2 (Kd.R_reads' RX.out).2.1 HF.out.f131).mono ?_
 rintro e w15 ⟨rfl, hb⟩
 refine ⟨_, rfl, ?_⟩
 have nRO_ := Aside0.mk (Kd.R_below RO.out hb)
 have nRE_ := Aside0.mk (Kd.S_below RE.out hb)
 have nRX_ := Aside0.mk (Kd.R_below RX.out hb)
 have nB := Aside0.mk (below_step HB.out hb)
 clear HB hb RO RE RX
 have HB := nB
 clear nB
 have RO := nRO_
 clear nRO_
 have RE := nRE_
 clear nRE_
 have RX := nRX_
 clear nRX_
 (repeat ((fail_if_success (with_reducible refine gate_dst (N := 136) rfl ?_)); first | go_values | go_skip | go_guarded | go_step | go_upon))
 refine goesL_ (some 136) rfl rfl Try.func19 (by kernel_rfl) rfl #[.slice ARX x.length cRX] rfl (by (try simp only [List.map_toArray, List.map_cons, List.map_nil]); first | done | rfl) ?_
 refine (spec_IsEndsSortable.calls k ARX cRX x can four _ (Kd.R_reads' RX.out).2.2 (Kd.R_reads' RX.out).2.1 HF.out.f136).mono ?_
 rintro e w16 ⟨rfl, hb⟩
 refine ⟨_, rfl, ?_⟩
 have nRO_ := Aside0.mk (Kd.R_below RO.out hb)
 have nRE_ := Aside0.mk (Kd.S_below RE.out hb)
 have nRX_ := Aside0.mk (Kd.R_below RX.out hb)
 have nB := Aside0.mk (below_step HB.out hb)
 clear HB hb RO RE RX
 have HB := nB
 clear nB
 have RO := nRO_
 clear nRO_
 have RE := nRE_
 clear nRE_
 have RX := nRX_
 clear nRX_
 (repeat ((fail_if_success (with_reducible refine gate_dst (N := 150) rfl ?_)); first | go_values | go_skip | go_guarded | go_step | go_upon))
 refine goesG_ (some 150) rfl rfl Try.func20 (by kernel_rfl) rfl #[.slice ARX x.length cRX] rfl (by (try simp only [List.map_toArray, List.map_cons, List.map_nil]); first | done | rfl) ?_
 refine (impl_IsOrder.calls k ARX cRX x four _ (Kd.R_reads' RX.out).2.2 (Kd.R_reads' RX.out).2.1 HF.out.f150).mono ?_
 rintro e w17 ⟨rfl, hdr⟩
 have hb := hdr.below
 clear hdr
 refine ⟨_, rfl, ?_⟩
 have nRO_ := Aside0.mk (Kd.R_below RO.out hb)
 have nRE_ := Aside0.mk (Kd.S_below RE.out hb)
 have nRX_ := Aside0.mk (Kd.R_below RX.out hb)
 have nB := Aside0.mk (below_step HB.out hb)
 clear HB hb RO RE RX
 have HB := nB
 clear nB
 have RO := nRO_
 clear nRO_
 have RE := nRE_
 clear nRE_
 have RX := nRX_
 clear nRX_
 (repeat ((fail_if_success (with_reducible refine gate_dst (N := 154) rfl ?_)); first | go_values | go_skip | go_guarded | go_step | go_upon))
 refine goesL_ (some 154) rfl rfl Try.func21 (by kernel_rfl) rfl #[.slice A0 l0.length c0] rfl (by (try simp only [List.map_toArray, List.map_cons, List.map_nil]); first | done | rfl) ?_
 refine (spec_DrawAsQueue.calls A0 c0 l0 kk _ (Kd.C_below HR0.out HB.out) HC0.out HF.out.f154).mono ?_
 rintro e w18 ⟨rfl, hb⟩
 refine ⟨_, rfl, ?_⟩
 have nRO_ := Aside0.mk (Kd.R_below RO.out hb)
 have nRE_ := Aside0.mk (Kd.S_below RE.out hb)
 have nRX_ := Aside0.mk (Kd.R_below RX.out hb)
 have nB := Aside0.mk (below_step HB.out hb)
 clear HB hb RO RE RX
 have HB := nB
 clear nB
 have RO := nRO_
 clear nRO_
 have RE := nRE_
 clear nRE_
 have RX := nRX_
 clear nRX_
 (repeat ((fail_if_success (with_reducible refine gate_dst (N := 157) rfl ?_)); first | go_values | go_skip | go_guarded | go_step | go_upon))
 refine goesL_ (some 157) rfl rfl Try.func22 (by kernel_rfl) rfl #[.int .i64 kk] rfl (by (try simp only [List.map_toArray, List.map_cons, List.map_nil]); first | done | rfl) ?_
 refine (impl_AsQueue.calls kk queue five _ HF.out.f157).mono ?_
 rintro e w19 ⟨rfl, hb⟩
 refine ⟨_, rfl, ?_⟩
 have nRO_ := Aside0.mk (Kd.R_below RO.out hb)
 have nRE_ := Aside0.mk (Kd.S_below RE.out hb)
 have nRX_ := Aside0.mk (Kd.R_below RX.out hb)
 have nB := Aside0.mk (below_step HB.out hb)
 clear HB hb RO RE RX
 have HB := nB
 clear nB
 have RO := nRO_
 clear nRO_
 have RE := nRE_
 clear nRE_
 have RX := nRX_
 clear nRX_
 (repeat ((fail_if_success (with_reducible refine gate_dst (N := 162) rfl ?_)); first | go_values | go_skip | go_guarded | go_step | go_upon))
 refine goesL_ (some 162) rfl rfl Try.func23 (by kernel_rfl) rfl #[.int .i64 kk] rfl (by (try simp only [List.map_toArray, List.map_cons, List.map_nil]); first | done | rfl) ?_
 refine (spec_AsQueue.calls k kk queue five _ HF.out.f162).mono ?_
 rintro e w20 ⟨rfl, hdr⟩
 have hb := hdr.below
 clear hdr
 refine ⟨_, rfl, ?_⟩
 have nRO_ := Aside0.mk (Kd.R_below RO.out hb)
 have nRE_ := Aside0.mk (Kd.S_below RE.out hb)
 have nRX_ := Aside0.mk (Kd.R_below RX.out hb)
 have nB := Aside0.mk (below_step HB.out hb)
 clear HB hb RO RE RX
 have HB := nB
 clear nB
 have RO := nRO_
 clear nRO_
 have RE := nRE_
 clear nRE_
 have RX := nRX_
 clear nRX_
 (repeat ((fail_if_success (with_reducible refine gate_if (id := 32) ?_)); first | go_values | go_skip | go_guarded | go_step | go_upon))
 refine wp_joina (fun a_ a' w' => Joined a_ a' [(32, 2), (173, 15)] ∧ Aside0 (Below w.heap.size w w') ∧ Aside0 (Kd.R (Kd.int .i64) 3 w' w.heap.size (fun _ => True) (.slice ARO o.length cRO) o) ∧ Aside0 (Kd.S (Kd.slice 3 (Kd.int .i64)) 24 w' w.heap.size (fun _ => True) (.slice ARE all.length cRE) all) ∧ Aside0 (Kd.R (Kd.int .i64) 3 w' w.heap.size (fun _ => True) (.slice ARX x.length cRX) x)) ?jx ?jy
 case jx =>
  cases four with
  | false =>
   go_wp2
   (try simp only [Exit.then]); first | exact Joined.of (by kernel_rfl) | exact ⟨Joined.of (by kernel_rfl), HB, RO, RE, RX⟩
  | true =>
   (repeat ((fail_if_success (with_reducible refine gate_dst (N := 176) rfl ?_)); first | go_values | go_skip | go_guarded | go_step | go_upon))
   refine goesL_ (some 176) rfl rfl Try.func24 (by kernel_rfl) rfl #[.slice ARX x.length cRX] rfl (by (try simp only [List.map_toArray, List.map_cons, List.map_nil]); first | done | rfl) ?_
   refine (impl_IsSortable.calls k ARX cRX x p true _ (Kd.R_reads' RX.out).2.2 (Kd.R_reads' RX.out).2.1 (HF.out.srt rfl)).mono ?_
   rintro e w21 ⟨rfl, hb⟩
   refine ⟨_, rfl, ?_⟩
   have nRO_ := Aside0.mk (Kd.R_below RO.out hb)
   have nRE_ := Aside0.mk (Kd.S_below RE.out hb)
   have nRX_ := Aside0.mk (Kd.R_below RX.out hb)
   have nB := Aside0.mk (below_step HB.out hb)
   clear HB hb RO RE RX
   have HB := nB
   clear nB
   have RO := nRO_
   clear nRO_
   have RE := nRE_
   clear nRE_
   have RX := nRX_
   clear nRX_
   cases p with
   | false =>
    go_wp2
    (try simp only [Exit.then]); first | exact Joined.of (by kernel_rfl) | exact ⟨Joined.of (by kernel_rfl), HB, RO, RE, RX⟩
   | true =>
    have c9 : (!can) = false := by rw [HF.out.pcan rfl rfl]; rfl
    go_wp2
    (try simp only [Exit.then]); first | exact Joined.of (by kernel_rfl) | exact ⟨Joined.of (by kernel_rfl), HB, RO, RE, RX⟩
 case jy =>
  clear HB RO RE RX
  rintro a' w22 ⟨hJ_, HB, RO, RE, RX⟩
  obtain ⟨x173_, x175_, x176_, x174_, x177_, x178_, x32_, x33_, x179_, x180_, x181_, x182_, x183_, x184_, x185_, x186_, x187_, rfl⟩ : ∃ x173_ x175_ x176_ x174_ x177_ x178_ x32_ x33_ x179_ x180_ x181_ x182_ x183_ x184_ x185_ x186_ x187_ : Value, a' = putRuns _ [(32, [x32_, x33_]), (173, [x173_, x174_, x175_, x176_, x177_, x178_, x179_, x180_, x181_, x182_, x183_, x184_, x185_, x186_, x187_])] := ⟨_, _, _, _, _, _, _, _, _, _, _, _, _, _, _, _, _, hJ_⟩
  clear hJ_
  simp only [putRuns, List.foldl_cons, List.foldl_nil, List.toList_toArray, setRun_zero, setRun_succ, overL_nil, overL_cons]
  (repeat ((fail_if_success (with_reducible refine gate_if (id := 36) ?_)); first | go_values | go_skip | go_guarded | go_step | go_upon))
  refine wp_joina (fun a_ a' w' => Joined a_ a' [(188, 14)] ∧ Aside0 (Below w.heap.size w w') ∧ Aside0 (Kd.R (Kd.int .i64) 3 w' w.heap.size (fun _ => True) (.slice ARO o.length cRO) o) ∧ Aside0 (Kd.S (Kd.slice 3 (Kd.int .i64)) 24 w' w.heap.size (fun _ => True) (.slice ARE all.length cRE) all) ∧ Aside0 (Kd.R (Kd.int .i64) 3 w' w.heap.size (fun _ => True) (.slice ARX x.length cRX) x)) ?jx ?jy
  case jx =>
   cases two with
   | false =>
    go_wp2
    (try simp only [Exit.then]); first | exact Joined.of (by kernel_rfl) | exact ⟨Joined.of (by kernel_rfl), HB, RO, RE, RX⟩
   | true =>
    cases three with
    | false =>
     go_wp2
     (try simp only [Exit.then]); first | exact Joined.of (by kernel_rfl) | exact ⟨Joined.of (by kernel_rfl), HB, RO, RE, RX⟩
    | true =>
     cases hb_ : (n == m) with
     | false =>
      go_wp2
      (try simp only [Exit.then]); first | exact Joined.of (by kernel_rfl) | exact ⟨Joined.of (by kernel_rfl), HB, RO, RE, RX⟩
     | true =>
      have c9 := HF.out.le rfl rfl hb_
      go_wp2
      (try simp only [Exit.then]); first | exact Joined.of (by kernel_rfl) | exact ⟨Joined.of (by kernel_rfl), HB, RO, RE, RX⟩
  case jy =>
   clear HB RO RE RX
   rintro a' w23 ⟨hJ_, HB, RO, RE, RX⟩
   obtain ⟨x188_, x189_, x190_, x191_, x192_, x193_, x194_, x195_, x196_, x197_, x198_, x199_, x200_, x201_, rfl⟩ : ∃ x188_ x189_ x190_ x191_ x192_ x193_ x194_ x195_ x196_ x197_ x198_ x199_ x200_ x201_ : Value, a' = putRuns _ [(188, [x188_, x189_, x190_, x191_, x192_, x193_, x194_, x195_, x196_, x197_, x198_, x199_, x200_, x201_])] := ⟨_, _, _, _, _, _, _, _, _, _, _, _, _, _, hJ_⟩
   clear hJ_
   simp only [putRuns, List.foldl_cons, List.foldl_nil, List.toList_toArray, setRun_zero, setRun_succ, overL_nil, overL_cons]
   (repeat ((fail_if_success (with_reducible refine gate_if (id := 38) ?_)); first | go_values | go_skip | go_guarded | go_step | go_upon))
   refine wp_joina (fun a_ a' w' => Joined a_ a' [(34, 2), (202, 24)] ∧ Aside0 (Below w.heap.size w w') ∧ Aside0 (Kd.R (Kd.int .i64) 3 w' w.heap.size (fun _ => True) (.slice ARO o.length cRO) o) ∧ Aside0 (Kd.S (Kd.slice 3 (Kd.int .i64)) 24 w' w.heap.size (fun _ => True) (.slice ARE all.length cRE) all) ∧ Aside0 (Kd.R (Kd.int .i64) 3 w' w.heap.size (fun _ => True) (.slice ARX x.length cRX) x)) ?jx ?jy
   case jx =>
    cases five with
    | false =>
     go_wp2
     (try simp only [Exit.then]); first | exact Joined.of (by kernel_rfl) | exact ⟨Joined.of (by kernel_rfl), HB, RO, RE, RX⟩
    | true =>
     cases ok with
     | false =>
      go_wp2
      (try simp only [Exit.then]); first | exact Joined.of (by kernel_rfl) | exact ⟨Joined.of (by kernel_rfl), HB, RO, RE, RX⟩
     | true =>
      cases hb_ : (kk == (o.length : Int)) with
      | false =>
       go_wp2
       (try simp only [Exit.then]); first | exact Joined.of (by kernel_rfl) | exact ⟨Joined.of (by kernel_rfl), HB, RO, RE, RX⟩
      | true =>
       (repeat ((fail_if_success (with_reducible refine gate_dst (N := 215) rfl ?_)); first | go_values | go_skip | go_guarded | go_step | go_upon))
       refine goesL_ (some 215) rfl rfl Try.func25 (by kernel_rfl) rfl #[.slice ARO o.length cRO, .string queue] rfl (by (try simp only [List.map_toArray, List.map_cons, List.map_nil]); first | done | rfl) ?_
       refine (impl_RunEnds.calls k (fun _ => True) ARO cRO o queue o true _ (Kd.R_V RO.out) (HF.out.run rfl rfl hb_)).mono ?_
       rintro e w24 ⟨v0_, rfl, ho0, hb⟩
       refine ⟨_, rfl, ?_⟩
       obtain ⟨ARN, cRN, e_RN⟩ := Kd.R_slice ho0
       subst e_RN
       have nn0_ := Aside0.mk (Kd.R_lower (Kd.R_mono ho0 (fun _ _ => trivial)) HB.out.size)
       have nRO_ := Aside0.mk (Kd.R_below RO.out hb)
       have nRE_ := Aside0.mk (Kd.S_below RE.out hb)
       have nRX_ := Aside0.mk (Kd.R_below RX.out hb)
       have nB := Aside0.mk (below_step HB.out hb)
       clear HB hb RO RE RX ho0
       have HB := nB
       clear nB
       have RO := nRO_
       clear nRO_
       have RE := nRE_
       clear nRE_
       have RX := nRX_
       clear nRX_
       have RN := nn0_
       clear nn0_
       (repeat ((fail_if_success (with_reducible refine gate_dst (N := 223) rfl ?_)); first | go_values | go_skip | go_guarded | go_step | go_upon))
       refine goesG_ (some 223) rfl rfl Try.func26 (by kernel_rfl) rfl #[.slice ARN o.length cRN, .slice ARO o.length cRO] rfl (by (try simp only [List.map_toArray, List.map_cons, List.map_nil]); first | done | rfl) ?_
       refine (laws_rInts.calls k ARN cRN o ARO cRO o true _ (Kd.R_reads' RN.out).2.2 (Kd.R_reads' RN.out).2.1 (Kd.R_reads' RO.out).2.2 (Kd.R_reads' RO.out).2.1 HF.out.oo).mono ?_
       rintro e w25 ⟨rfl, hdr⟩
       have hb := hdr.below
       clear hdr
       refine ⟨_, rfl, ?_⟩
       have nRO_ := Aside0.mk (Kd.R_below RO.out hb)
       have nRE_ := Aside0.mk (Kd.S_below RE.out hb)
       have nRX_ := Aside0.mk (Kd.R_below RX.out hb)
       have nRN_ := Aside0.mk (Kd.R_below RN.out hb)
       have nB := Aside0.mk (below_step HB.out hb)
       clear HB hb RO RE RX RN
       have HB := nB
       clear nB
       have RO := nRO_
       clear nRO_
       have RE := nRE_
       clear nRE_
       have RX := nRX_
       clear nRX_
       have RN := nRN_
       clear nRN_
       clear RN
       go_wp2
       (try simp only [Exit.then]); first | exact Joined.of (by kernel_rfl) | exact ⟨Joined.of (by kernel_rfl), HB, RO, RE, RX⟩
   case jy =>
    clear HB RO RE RX
    rintro a' w26 ⟨hJ_, HB, RO, RE, RX⟩
    obtain ⟨x202_, x203_, x204_, x205_, x206_, x207_, x208_, x209_, x210_, x211_, x213_, x214_, x215_, x212_, x216_, x217_, x34_, x35_, x218_, x219_, x220_, x221_, x222_, x223_, x224_, x225_, rfl⟩ : ∃ x202_ x203_ x204_ x205_ x206_ x207_ x208_ x209_ x210_ x211_ x213_ x214_ x215_ x212_ x216_ x217_ x34_ x35_ x218_ x219_ x220_ x221_ x222_ x223_ x224_ x225_ : Value, a' = putRuns _ [(34, [x34_, x35_]), (202, [x202_, x203_, x204_, x205_, x206_, x207_, x208_, x209_, x210_, x211_, x212_, x213_, x214_, x215_, x216_, x217_, x218_, x219_, x220_, x221_, x222_, x223_, x224_, x225_])] := ⟨_, _, _, _, _, _, _, _, _, _, _, _, _, _, _, _, _, _, _, _, _, _, _, _, _, _, hJ_⟩
    clear hJ_
    simp only [putRuns, List.foldl_cons, List.foldl_nil, List.toList_toArray, setRun_zero, setRun_succ, overL_nil, overL_cons]
    cases ok with
    | false =>
     go_wp2
     go_ret
     exact ⟨rfl, HB.out⟩
    | true =>
     have k1 : (wrap64 ((ws.length : Int) + only) != (all.length : Int)) = false := HF.out.sum rfl
     have k0 := i64_w ((ws.length : Int) + only)
     (repeat ((fail_if_success (with_reducible refine gate_dst (N := 231) rfl ?_)); first | go_values | go_skip | go_guarded | go_step | go_upon))
     refine goesL_ (some 231) rfl rfl Try.func27 (by kernel_rfl) rfl #[.int .i64 (o.length : Int)] rfl (by (try simp only [List.map_toArray, List.map_cons, List.map_nil]); first | done | rfl) ?_
     refine (impl_WordsOf.calls k ((o.length : Int)) ws true _ (HF.out.wrd rfl)).mono ?_
     rintro e w27 ⟨v0_, rfl, ho0, hb⟩
     refine ⟨_, rfl, ?_⟩
     obtain ⟨ARW, cRW, e_RW⟩ := Kd.R_slice ho0
     subst e_RW
     have nn0_ := Aside0.mk (Kd.R_lower (Kd.R_mono ho0 (fun _ _ => trivial)) HB.out.size)
     have nRO_ := Aside0.mk (Kd.R_below RO.out hb)
     have nRE_ := Aside0.mk (Kd.S_below RE.out hb)
     have nRX_ := Aside0.mk (Kd.R_below RX.out hb)
     have nB := Aside0.mk (below_step HB.out hb)
     clear HB hb RO RE RX ho0
     have HB := nB
     clear nB
     have RO := nRO_
     clear nRO_
     have RE := nRE_
     clear nRE_
     have RX := nRX_
     clear nRX_
     have RW := nn0_
     clear nn0_
     (repeat ((fail_if_success (with_reducible refine gate_if (id := 47) ?_)); first | go_values | go_skip | go_guarded | go_step | go_upon))
     clear k0 k1
     clear RW
     (repeat ((fail_if_success (with_reducible refine gate_if (id := 47) ?_)); first | go_values | go_skip | go_guarded | go_step | go_upon))
     refine wp_joina (fun a_ a' w' => Joined a_ a' [(245, 13)] ∧ Aside0 (Below w.heap.size w w') ∧ Aside0 (Kd.R (Kd.int .i64) 3 w' w.heap.size (fun _ => True) (.slice ARO o.length cRO) o) ∧ Aside0 (Kd.S (Kd.slice 3 (Kd.int .i64)) 24 w' w.heap.size (fun _ => True) (.slice ARE all.length cRE) all) ∧ Aside0 (Kd.R (Kd.int .i64) 3 w' w.heap.size (fun _ => True) (.slice ARX x.length cRX) x)) ?jx ?jy
     case jx =>
      cases two with
      | false =>
       go_wp2
       (try simp only [Exit.then]); first | exact Joined.of (by kernel_rfl) | exact ⟨Joined.of (by kernel_rfl), HB, RO, RE, RX⟩
      | true =>
       cases hb_ : (n == (o.length : Int)) with
       | false =>
        go_wp2
        (try simp only [Exit.then]); first | exact Joined.of (by kernel_rfl) | exact ⟨Joined.of (by kernel_rfl), HB, RO, RE, RX⟩
       | true =>
        have c9 := HF.out.cnt rfl rfl hb_
        go_wp2
        (try simp only [Exit.then]); first | exact Joined.of (by kernel_rfl) | exact ⟨Joined.of (by kernel_rfl), HB, RO, RE, RX⟩
     case jy =>
      clear HB RO RE RX
      rintro a' w28 ⟨hJ_, HB, RO, RE, RX⟩
      obtain ⟨x245_, x246_, x247_, x248_, x249_, x250_, x251_, x252_, x253_, x254_, x255_, x256_, x257_, rfl⟩ : ∃ x245_ x246_ x247_ x248_ x249_ x250_ x251_ x252_ x253_ x254_ x255_ x256_ x257_ : Value, a' = putRuns _ [(245, [x245_, x246_, x247_, x248_, x249_, x250_, x251_, x252_, x253_, x254_, x255_, x256_, x257_])] := ⟨_, _, _, _, _, _, _, _, _, _, _, _, _, hJ_⟩
      clear hJ_
      simp only [putRuns, List.foldl_cons, List.foldl_nil, List.toList_toArray, setRun_zero, setRun_succ, overL_nil, overL_cons]
      go_wp2
      go_loopg [38] all.length (fun kq v38 w' => ∃ i : Nat, v38 = .int .i64 (i : Int) ∧ Aside0 (i + kq = all.length) ∧ Aside0 (Below w.heap.size w w') ∧ Aside0 (Kd.R (Kd.int .i64) 3 w' w.heap.size (fun _ => True) (.slice ARO o.length cRO) o) ∧ Aside0 (Kd.S (Kd.slice 3 (Kd.int .i64)) 24 w' w.heap.size (fun _ => True) (.slice ARE all.length cRE) all) ∧ Aside0 (Kd.R (Kd.int .i64) 3 w' w.heap.size (fun _ => True) (.slice ARX x.length cRX) x))
      case atStart => exact ⟨0, rfl, ⟨by omega⟩, HB, RO, RE, RX⟩
      case round =>
       clear HB RO RE RX
       obtain ⟨i, rfl, HI, HB, RO, RE, RX⟩ := hrel
       cases gk with
       | succ d =>
        have hi_ : i < all.length := by have := HI.out; omega
        have c1 : decide (i < all.length) = true := decide_eq_true hi_
        have c1b : decide ((i : Int) < (all.length : Int)) = true := decide_eq_true (by omega)
        have p1 : (i < all.length) = True := eq_true hi_
        have zi := wup_s i (by have := HF.out.lenA; omega)
        obtain ⟨q, hx⟩ : ∃ q, rd_L5 all (i : Int) = q := ⟨_, rfl⟩
        have hxm : all[i]'hi_ = q := by rw [← hx]; simp [rd_L5, hi_]
        obtain ⟨ad1, A1, c1_, e1, y1, y2, y3⟩ := at_L5 (Kd.S_reads' RE.out).2.2 (i : Int) (by omega) (by omega)
        rw [hx] at y1 y2 y3
        rw [Int.toNat_natCast] at y1
        subst e1
        have Y3 := Aside0.mk y3
        have Y2 := Aside0.mk y2
        clear y2 y3
        obtain ⟨s, hs_⟩ := HF.out.each rfl q (by rw [← hxm]; exact List.getElem_mem hi_)
        have HS := Aside0.mk hs_
        clear hx hxm hi_ hs_
        obtain ⟨w60, hw60⟩ : ∃ w', w' = wr := ⟨_, rfl⟩
        subst hw60
        (repeat ((fail_if_success (with_reducible refine gate_dst (N := 270) rfl ?_)); first | go_values | go_skip | go_guarded | go_step | go_upon))
        refine goesL_ (some 270) rfl rfl Try.func28 (by kernel_rfl) rfl #[.slice ARO o.length cRO, .slice A1 q.length c1_] rfl (by (try simp only [List.map_toArray, List.map_cons, List.map_nil]); first | done | rfl) ?_
        refine (impl_EndsTo.calls k ARO cRO o A1 c1_ q s true _ (Kd.R_reads' RO.out).2.2 (Kd.R_reads' RO.out).2.1 Y3.out Y2.out HS.out).mono ?_
        rintro e w61 ⟨rfl, hb⟩
        clear y1
        refine ⟨_, rfl, ?_⟩
        have nRO_ := Aside0.mk (Kd.R_below RO.out hb)
        have nRE_ := Aside0.mk (Kd.S_below RE.out hb)
        have nRX_ := Aside0.mk (Kd.R_below RX.out hb)
        have nB := Aside0.mk (below_step HB.out hb)
        clear HB hb Y2 Y3 HS RO RE RX
        have HB := nB
        clear nB
        have RO := nRO_
        clear nRO_
        have RE := nRE_
        clear nRE_
        have RX := nRX_
        clear nRX_
        go_wp2
        go_roundg d
        case measure => omega
        case rel => exact ⟨i + 1, (by first | rfl | rw [zi]), ⟨by have := HI.out; omega⟩, HB, RO, RE, RX⟩
       | zero =>
        have c1 : decide (i < all.length) = false := decide_eq_false (by have := HI.out; omega)
        have c1b : decide ((i : Int) < (all.length : Int)) = false := decide_eq_false (by have := HI.out; omega)
        clear HI
        go_wp2
        go_ret
        exact ⟨rfl, HB.out⟩
set_option maxHeartbeats 4000000 in
set_option maxRecDepth 100000 in
theorem laws_FnEndsCounts.big (A0 : Option Addr) (c0 : Nat) (l0 : List Int) (w : World) (hr0 : Kd.C (Kd.int .u8) w A0 l0.length l0) (hc0 : l0.length ≤ c0) (h : laws_rBig.f l0 = some true) :
  Calls Try.prog 3 #[.slice A0 l0.length c0] w fun e w' => e = .returned (.bool true) ∧ Below w.heap.size w w' := by
 have HB := Aside0.mk (Below.refl w.heap.size w)
 go_enter Try.func3, Try.ntmps3
 (repeat ((fail_if_success (with_reducible refine gate_dst (N := 42) rfl ?_)); first | go_values | go_skip | go_guarded | go_step | go_upon))
 refine goesL_ (some 42) rfl rfl Try.func4 (by kernel_rfl) rfl #[.slice A0 l0.length c0] rfl (by (try simp only [List.map_toArray, List.map_cons, List.map_nil]); first | done | rfl) ?_
 refine (laws_rBig.calls A0 c0 l0 true w hr0 hc0 h).mono ?_
 rintro e w1 ⟨rfl, hdr⟩
 refine ⟨_, rfl, ?_⟩
 have nB := Aside0.mk (below_step HB.out hdr.below)
 clear HB hdr
 go_wp2
 go_ret
 exact ⟨rfl, nB.out⟩
def laws_FnEndsCounts.Pure : Prop := ∀ (l0 : List Int), l0.length ≤ maxLen → l0.length * 1 ≤ 140737488351232 → (∀ x ∈ l0, (Lit.int .u8 x).wf = true) → laws_rBig.f l0 = some false → ∃ k o all ok only n many two m plain three x can four kk queue five p ws, laws_FnEndsCounts.Fact k l0 o all ok only n many two m plain three x can four kk queue five p ws
theorem laws_FnEndsCounts.walk (P : laws_FnEndsCounts.Pure) (a0 : Option Addr) (len0 cap0 : Nat) (z0 : List Int) (w : World) (w0 : (a0 = none ∧ len0 = 0 ∧ cap0 = 0 ∧ z0 = []) ∨ ∃ x, a0 = some x ∧ len0 ≤ cap0 ∧ cap0 ≤ maxLen ∧ z0.length = cap0 ∧ (∀ i, i < z0.length → w.cell? (x.add i) = some (.int .u8 (z0.getD i 0))) ∧ ∀ n ∈ z0, (Lit.int .u8 n).wf = true) (y0 : len0 * 1 ≤ 140737488351232) :
  Calls Try.prog 3 #[.slice a0 len0 cap0] w fun e w' => e = .returned (.bool true) ∧ Below w.heap.size w w' := by
 obtain ⟨l0, rfl, hr0, hm0, hw0, hc0⟩ := ReadsInt.ofRowC w0
 have hC := Kd.C_of_reads (d := (0 : Int)) (h1 := fun _ => rfl) hr0
 cases hb : decide ((l0.length : Int) > 65536) with
 | true => exact laws_FnEndsCounts.big _ _ l0 w hC hc0 (by unfold laws_rBig.f; rw [hb])
 | false =>
  obtain ⟨k, o, all, ok, only, n, many, two, m, plain, three, x, can, four, kk, queue, five, p, ws, h⟩ := P l0 hm0 y0 hw0 (by unfold laws_rBig.f; rw [hb])
  exact laws_FnEndsCounts.calls _ _ k l0 o all ok only n many two m plain three x can four kk queue five p ws w hC hc0 h
end Go.Proofs.Ytfjbgmemjjjjoaa.PFnEndsCounts
