-- laid by mkprint.py, a program of this claim's writer, over the kit's print program; parts of it are typed by hand
import Derived.Test.YtidiondgfoolbaaPFnQueuesx0
import Derived.Test.YtidiondgfoolbaaPFnQueuesx4
namespace Go.Proofs.Ytidiondgfoolbaa.PFnQueues
open Go.RowKit Go.Proofs.YtidiondgfoolbaaW.PrintWords Go.Proofs.YtidiondgfoolbaaW.PrintLast Go.Proofs.YtidiondgfoolbaaW.PrintMore
attribute [local go_sem] max2_int min2_int max_two min_two max_three min_three max_four min_four
set_option linter.unusedVariables false
set_option linter.unusedSimpArgs false
def impl_longest_1.f (so_ : Nat → List Int → Option Bool) (l0 : List Int) (k : Nat) (s : List (List Int)) (d : List Int) : Option (List (List Int) × Bool) := (impl_at.f k l0 d).bind fun t => (so_ k t).bind fun b => if b = true then (if s.length < 1000000 then some (s ++ [t], false) else none) else some (s, false)
theorem impl_longest_1.mono (so_ : Nat → List Int → Option Bool) (hs : ∀ l k, LeO (so_ k l) (so_ (k + 1) l)) (l0 : List Int) : ∀ s d k, LeO (impl_longest_1.f so_ l0 k s d) (impl_longest_1.f so_ l0 (k + 1) s d) := fun _ _ _ => LeO.bind (impl_at.mono _ _ _) (fun _ => LeO.bind (hs _ _) (fun _ => LeO.refl _))
theorem lgInfo : (Try.prog.info? 24).map (fun i => (i.zero, i.size, i.bytes)) = some (some (.slice none 0 0), 1, 24) := by kernel_rfl
def LgSt (A0 : Option Addr) (c0 : Nat) (l0 : List Int) (gs_ : Nat) (bO bS bL : Nat) (w0 : World) (s : List (List Int)) (F : Nat → Prop) (W : World) : Prop :=
  W.heap[bO]? = some (.cells #[.slice A0 l0.length c0] 24 (0, 0)) ∧ W.heap[bS]? = some (.cells #[.func (.func gs_) #[] #[]] 49 (0, 0)) ∧ ∃ (v : Value) (P : Nat → Prop), W.heap[bL]? = some (.cells #[v] 31 (0, 0)) ∧ (∀ q, F q ↔ P q ∨ q = bL) ∧ (∀ q, P q → (q ≠ bL ∧ q ≠ bO ∧ q ≠ bS) ∧ q < W.heap.size) ∧ Kd.S (Kd.slice 3 (Kd.int .i64)) 24 W w0.heap.size P v s
theorem LgSt.kept {A0 : Option Addr} {c0 : Nat} {l0 : List Int} {gs_ bO bS bL : Nat} {w0 : World} {s : List (List Int)} {F : Nat → Prop} {W W' : World} (h : LgSt A0 c0 l0 gs_ bO bS bL w0 s F W) (hk : Kept W W' (fun _ => False)) : LgSt A0 c0 l0 gs_ bO bS bL w0 s F W' := by
  obtain ⟨h1, h2, v, P, h3, h4, h5, h6⟩ := h
  exact ⟨blk_kept h1 hk (fun h => h), blk_kept h2 hk (fun h => h), v, P, blk_kept h3 hk (fun h => h), h4, fun q hq => ⟨(h5 q hq).1, Nat.lt_of_lt_of_le (h5 q hq).2 hk.1⟩, Kd.S_kept h6 hk (fun _ _ h => h)⟩
theorem LgSt.bound {A0 : Option Addr} {c0 : Nat} {l0 : List Int} {gs_ bO bS bL : Nat} {w0 : World} {s : List (List Int)} {F : Nat → Prop} {W : World} (h : LgSt A0 c0 l0 gs_ bO bS bL w0 s F W) : ∀ q, F q → q < W.heap.size := by
  obtain ⟨h1, h2, v, P, h3, h4, h5, h6⟩ := h
  intro q hq
  rcases (h4 q).1 hq with hq | rfl
  · exact (h5 q hq).2
  · exact blk_lt h3
set_option maxHeartbeats 8000000 in
set_option maxRecDepth 100000 in
theorem impl_longest_1.calls (gs_ : Nat) (so_ : Nat → List Int → Option Bool) (es_ : ∀ args w, (callFunc gs_ args).run Try.prog w = .ok (.enter gs_ args) w) (hSo : ∀ (k : Nat) (A : Option Addr) (c : Nat) (l : List Int) (b : Bool) (W : World), Kd.C (Kd.int .i64) W A l.length l → l.length ≤ c → so_ k l = some b → Calls Try.prog gs_ #[.slice A l.length c] W fun e W' => e = .returned (.bool b) ∧ Below W.heap.size W W')
    (A0 : Option Addr) (c0 : Nat) (l0 : List Int) (bO bS bL : Nat) (w0 : World) (hr0 : Kd.C (Kd.int .i64) w0 A0 l0.length l0) (hc0 : l0.length ≤ c0) (hlt : w0.heap.size ≤ bL ∧ bO < bL ∧ bS < bL)
    (k : Nat) (s : List (List Int)) (F : Nat → Prop) (d : List Int) (s' : List (List Int)) (r : Bool) (v : Value) (W : World) (hst : LgSt A0 c0 l0 gs_ bO bS bL w0 s F W) (hB : Below w0.heap.size w0 W) (hv : Kd.R (Kd.int .i64) 3 W w0.heap.size (fun q_ => ¬ F q_) v d) (h : impl_longest_1.f so_ l0 k s d = some (s', r)) :
    Calls Try.prog 49 (#[v] ++ #[.pointer (some ⟨bO, 0, none⟩), .pointer (some ⟨bS, 0, none⟩), .pointer (some ⟨bL, 0, none⟩)]) W fun e W' => e = .returned (.bool r) ∧ ∃ F' : Nat → Prop, LgSt A0 c0 l0 gs_ bO bS bL w0 s' F' W' ∧ Kept W W' F ∧ Below w0.heap.size w0 W' ∧ ∀ q, F' q → F q ∨ W.heap.size ≤ q := by
  obtain ⟨t, h1, h⟩ := Option.bind_eq_some_iff.1 h
  obtain ⟨b, h2, h⟩ := Option.bind_eq_some_iff.1 h
  obtain ⟨Av, cv, ev⟩ := Kd.R_slice hv
  subst ev
  obtain ⟨g1, g2, vL, P, g3, g4, g5, g6⟩ := hst
  obtain ⟨AL, cL, eL⟩ := Kd.S_slice g6
  subst eL
  have A1 := Aside0.mk h1
  have A2 := Aside0.mk h2
  have HF := Aside0.mk h
  have G1 := Aside0.mk g1
  have G2 := Aside0.mk g2
  have G3 := Aside0.mk g3
  have G4 := Aside0.mk g4
  have G5 := Aside0.mk g5
  have G6 := Aside0.mk g6
  have HB := Aside0.mk hB
  have HR0 := Aside0.mk hr0
  have HC0 := Aside0.mk hc0
  have HSO := Aside0.mk hSo
  have HD := Aside0.mk hv
  have HLT := Aside0.mk hlt
  have e1 : W.cell? ⟨bO, 0, none⟩ = some (.slice A0 l0.length c0) := (blk_cell g1 0).trans rfl
  clear h1 h2 h hv hB hSo g1 g2 g3 g4 g5 g6 hr0 hc0 hlt
  go_enter Try.func49, Try.ntmps49
  (repeat ((fail_if_success (with_reducible refine gate_dst (N := 9) rfl ?_)); first | go_values | go_skip | go_guarded | go_step | go_upon))
  have HD4 := Kd.R_reads' HD.out
  refine goesL_ (some 9) rfl rfl Try.func50 (by kernel_rfl) rfl #[.slice A0 l0.length c0, .slice Av d.length cv] rfl (by (try simp only [List.map_toArray, List.map_cons, List.map_nil]); first | done | rfl) ?_
  refine (impl_at.calls k A0 c0 l0 Av cv d t W (Kd.C_below HR0.out HB.out) HC0.out HD4.2.2 HD4.2.1 A1.out).mono ?_
  rintro e w1 ⟨vt, rfl, ho, hb⟩
  refine ⟨_, rfl, ?_⟩
  obtain ⟨At, ct, et⟩ := Kd.R_slice ho
  subst et
  have HO := Aside0.mk (Kd.R_bound ho)
  have n0_ := Aside0.mk (below_step HB.out hb)
  have HK := Aside0.mk (Kept.of_below hb (fun _ => False))
  have HS1 := Aside0.mk hb.size
  clear HD4 ho hb HB e1
  have HB := n0_
  clear n0_
  have e2 : w1.cell? ⟨bS, 0, none⟩ = some (.func (.func gs_) #[] #[]) := (blk_cell (blk_kept G2.out HK.out (fun h => h)) 0).trans rfl
  (repeat ((fail_if_success (with_reducible refine gate_dst (N := 12) rfl ?_)); first | go_values | go_skip | go_guarded | go_step | go_upon))
  refine goesV_ (some 12) rfl rfl es_ #[] #[.slice At t.length ct] rfl rfl (by (try simp only [List.map_toArray, List.map_cons, List.map_nil]); first | done | rfl) ?_
  have HD4 := Kd.R_reads' HO.out
  refine (HSO.out k At ct t b w1 HD4.2.2 HD4.2.1 A2.out).mono ?_
  rintro e w2 ⟨rfl, hb⟩
  refine ⟨_, rfl, ?_⟩
  have n0_ := Aside0.mk (below_step HB.out hb)
  have n1_ := Aside0.mk (HK.out.below hb)
  have n2_ := Aside0.mk (Kd.R_below HO.out hb)
  have n3_ := Aside0.mk (Nat.le_trans HS1.out hb.size)
  clear HD4 hb HB e2 HK HO HS1
  have HB := n0_
  have HK := n1_
  have HO := n2_
  have HS1 := n3_
  clear n0_ n1_ n2_ n3_
  cases b with
  | false =>
    have H := HF.out
    rw [if_neg (by simp)] at H
    obtain ⟨rfl, rfl⟩ := Prod.mk.inj (Option.some.inj H)
    clear H HF
    go_wp2
    go_ret
    exact ⟨rfl, F, LgSt.kept ⟨G1.out, G2.out, _, P, G3.out, G4.out, G5.out, G6.out⟩ HK.out, HK.out.mono (fun _ h => h.elim), HB.out, fun _ h => .inl h⟩
  | true =>
    have H := HF.out
    rw [if_pos rfl] at H
    by_cases hsl : s.length < 1000000
    case neg => rw [if_neg hsl] at H; cases H
    rw [if_pos hsl] at H
    obtain ⟨rfl, rfl⟩ := Prod.mk.inj (Option.some.inj H)
    have HSL := Aside0.mk hsl
    clear H HF hsl
    have g3' := Aside0.mk (blk_kept G3.out HK.out (fun h => h))
    have e3 : w2.cell? ⟨bL, 0, none⟩ = some (.slice AL s.length cL) := (blk_cell g3'.out 0).trans rfl
    have HG6 := Aside0.mk (Kd.S_kept G6.out HK.out (fun _ _ h => h))
    (repeat ((fail_if_success (with_reducible refine gate_dst (N := 16) rfl ?_)); first | go_values | go_skip | go_guarded | go_step | go_upon))
    at_builtin
    refine Kd.S_append (Kd.slice 3 (Kd.int .i64)) (w0 := w0) w0.heap.size rfl (.tmp 13) (.tmp 15) 31 24 (.slice none 0 0) 24 rfl Try.underlying31 lgInfo rfl (by decide) (by omega) (.slice AL s.length cL) s t [.slice At t.length ct] (fun q_ => P q_ ∨ W.heap.size ≤ q_) (fun q_ => some q_ = (.slice At t.length ct : Value).ownBlock) rfl rfl ?aP ?aK ?aF ?aO ?aB ?aS ?aL ?_
    case aP => exact ⟨.slice At t.length ct, rfl, Kd.R_lower (Kd.R_tight rfl HO.out) (by have := HLT.out.1; have := blk_lt G3.out; omega)⟩
    case aK => exact fun q_ hq_ => ⟨.inr (HO.out.1 q_ hq_.symm).2.1, fun he_ => by have h3_ := (Kd.S_R HG6.out).1 q_ he_.symm; have h4_ := (G5.out q_ h3_).2; have h5_ := (HO.out.1 q_ hq_.symm).2.1; omega⟩
    case aF => exact fun q_ hq_ => .inr (Nat.le_trans HS1.out hq_)
    case aO => exact Kd.S_mono HG6.out (fun q_ hq_ => ⟨.inl hq_, fun he_ => by have h4_ := (G5.out q_ hq_).2; have h5_ := (HO.out.1 q_ he_.symm).2.1; omega⟩)
    case aB => exact HB.out
    case aS => exact HB.out.size
    case aL => have := HSL.out; omega
    intro v3 w3 hs3 hb3 hg3 hat3
    obtain ⟨A3, c3, e3_⟩ := Kd.S_slice hs3
    subst e3_
    have hne_ : ∀ q_, q_ < W.heap.size → ¬ P q_ → some q_ ≠ (Value.slice AL s.length cL).ownBlock := fun q_ h1_ h2_ he_ => h2_ ((Kd.S_R HG6.out).1 q_ he_.symm)
    have n3 := Aside0.mk (blk_grown g3'.out hg3 (hne_ _ (blk_lt G3.out) (fun h_ => by have := (G5.out _ h_).1; omega)))
    have n1 := Aside0.mk (blk_grown (blk_kept G1.out HK.out (fun h => h)) hg3 (hne_ _ (blk_lt G1.out) (fun h_ => by have := (G5.out _ h_).1; have := HLT.out; omega)))
    have n2 := Aside0.mk (blk_grown (blk_kept G2.out HK.out (fun h => h)) hg3 (hne_ _ (blk_lt G2.out) (fun h_ => by have := (G5.out _ h_).1; have := HLT.out; omega)))
    have nK := Aside0.mk (show Kept W w3 P from Kept.of_grown hg3 (HK.out.mono (fun _ h => h.elim)) (fun q_ hq_ => .inl ((Kd.S_R HG6.out).1 q_ hq_)))
    have HS3 := Aside0.mk (Kd.S_bound hs3)
    have n0_ := Aside0.mk hb3
    clear HB hs3 hb3 hg3 hat3 hne_ e3 g3' HK HG6
    have HB := n0_
    clear n0_
    have e4 : w3.cell? ⟨bL, 0, none⟩ = some (.slice AL s.length cL) := (blk_cell n3.out 0).trans rfl
    have f4 : w3.frozen? ⟨bL, 0, none⟩ = false := blk_frozen n3.out 0
    (repeat ((fail_if_success (with_reducible refine gate_store (t := 31) (p := 3) rfl ?_)); first | go_values | go_skip | go_guarded | go_step | go_upon))
    refine store_event (t := 31) (p := 3) (v := ?vo) (w1 := (w3.setCell ⟨bL, 0, none⟩ (.slice A3 (s ++ [t]).length c3))) ?hg ?ho ?hn ?hr ?_
    case ho => rfl
    case hg => rfl
    case hn => rfl
    case hr => first | (go_simp; done) | (go_simp; rfl)
    intro w4 hw
    have hk4 : Kept w3 w4 (fun q_ => q_ = bL) := by rw [hw]; exact (Kept.refl w3 (fun q_ => q_ = bL)).setCell (p := ⟨bL, 0, none⟩) (.inl rfl) _
    have m3 := Aside0.mk (show w4.heap[bL]? = some (.cells #[.slice A3 (s ++ [t]).length c3] 31 (0, 0)) from by rw [hw]; exact blk_put (cs := #[.slice AL s.length cL]) n3.out 0 _ rfl)
    have n0_ := Aside0.mk (show Below w0.heap.size w0 w4 from by rw [hw]; exact below_set HB.out HLT.out.1)
    have HZ := Aside0.mk (show LgSt A0 c0 l0 gs_ bO bS bL w0 (s ++ [t]) (fun q_ => ((P q_ ∨ W.heap.size ≤ q_) ∧ q_ < w3.heap.size) ∨ q_ = bL) w4 from ⟨blk_kept n1.out hk4 (by have := HLT.out; omega), blk_kept n2.out hk4 (by have := HLT.out; omega), _, (fun q_ => (P q_ ∨ W.heap.size ≤ q_) ∧ q_ < w3.heap.size), m3.out, fun _ => Iff.rfl, fun q_ hq_ => ⟨hq_.1.elim (fun h_ => (G5.out q_ h_).1) (fun h_ => by have := blk_lt G3.out; have := HLT.out; omega), Nat.lt_of_lt_of_le hq_.2 hk4.1⟩, Kd.S_kept (Kd.S_mono HS3.out (fun q_ hq_ => ⟨hq_.1, hq_.2.2.1⟩)) hk4 (fun q_ hq_ he_ => by have h1_ := blk_lt G3.out; rcases hq_.1 with h_ | h_; (have := (G5.out q_ h_).1; omega); omega)⟩)
    have HY := Aside0.mk (show Kept W w4 F from (nK.out.mono (fun q_ h_ => (G4.out q_).2 (.inl h_))).then_ hk4 (fun q_ h_ => .inl ((G4.out q_).2 (.inr h_))))
    clear HB n1 n2 n3 nK HS3 hw hk4 m3 e4 f4
    go_wp2
    go_ret
    exact ⟨rfl, _, HZ.out, HY.out, n0_.out, fun q_ h_ => h_.elim (fun h_ => h_.1.imp (fun h_ => (G4.out q_).2 (.inl h_)) id) (fun h_ => .inl ((G4.out q_).2 (.inr h_)))⟩
def cmp_isNaN_int.f (a0 : Int) : Option (Bool) := some (a0 != a0)
set_option maxHeartbeats 8000000 in
set_option maxRecDepth 100000 in
theorem cmp_isNaN_int.calls (a0 : Int) (r : Bool) (w : World) (h : cmp_isNaN_int.f a0 = some r) :
    Calls Try.prog 72 #[.int .i64 a0] w fun e w' => e = .returned (.bool r) ∧ Drawn0 w w' := by
  have H : (some (a0 != a0)) = some r := h
  clear h
  obtain rfl := Option.some.inj H
  go_enter Try.func72, Try.ntmps72
  go_wp2
  go_ret
  exact ⟨by first | rfl | (simp; done) | (simp [*]; done), by repeat (first | exact Drawn0.refl _ | apply Drawn0.step)⟩
def cmp_Compare_int.f (a0 : Int) (a1 : Int) : Option (Int) := (cmp_isNaN_int.f a0).bind fun t131 => ((cmp_isNaN_int.f a1).bind fun t132 => (if t131 = true then (if t132 = true then (some 0) else (some (-1))) else (if t132 = true then (some 1) else (if a0 < a1 then (some (-1)) else (if a0 > a1 then (some 1) else (some 0))))))
set_option maxHeartbeats 8000000 in
set_option maxRecDepth 100000 in
theorem cmp_Compare_int.calls (a0 : Int) (a1 : Int) (r : Int) (w : World) (h : cmp_Compare_int.f a0 a1 = some r) :
    Calls Try.prog 67 #[.int .i64 a0, .int .i64 a1] w fun e w' => e = .returned (.int .i64 r) ∧ Drawn0 w w' := by
  have H : ((cmp_isNaN_int.f a0).bind fun t131 => ((cmp_isNaN_int.f a1).bind fun t132 => (if t131 = true then (if t132 = true then (some 0) else (some (-1))) else (if t132 = true then (some 1) else (if a0 < a1 then (some (-1)) else (if a0 > a1 then (some 1) else (some 0))))))) = some r := h
  clear h
  replace H := Option.bind_eq_some_iff.mp H
  obtain ⟨t131, A30, H⟩ := H
  replace H : ((cmp_isNaN_int.f a1).bind fun t132 => (if t131 = true then (if t132 = true then (some 0) else (some (-1))) else (if t132 = true then (some 1) else (if a0 < a1 then (some (-1)) else (if a0 > a1 then (some 1) else (some 0)))))) = some r := H
  have A3 := Aside0.mk A30
  clear A30
  replace H := Option.bind_eq_some_iff.mp H
  obtain ⟨t132, A40, H⟩ := H
  replace H : (if t131 = true then (if t132 = true then (some 0) else (some (-1))) else (if t132 = true then (some 1) else (if a0 < a1 then (some (-1)) else (if a0 > a1 then (some 1) else (some 0))))) = some r := H
  have A4 := Aside0.mk A40
  clear A40
  by_cases c5 : t131 = true
  · subst c5
    have H1 : (if t132 = true then (some 0) else (some (-1))) = some r := by rw [if_pos rfl] at H; exact H
    clear H
    have H := H1
    clear H1
    by_cases c6 : t132 = true
    · subst c6
      have H1 : (some 0) = some r := by rw [if_pos rfl] at H; exact H
      clear H
      have H := H1
      clear H1
      obtain rfl := Option.some.inj H
      go_enter Try.func67, Try.ntmps67
      go_wp2_with (first | ((with_reducible refine gate_callee (f := 72) rfl ?_); refine goesL_ (some 8) rfl rfl Try.func72 (by kernel_rfl) rfl #[.int .i64 a0] rfl (by (try simp only [List.map_toArray, List.map_cons, List.map_nil]); first | done | rfl | (simp only [List.length_drop, List.length_take]; rfl)) ?_; (with_reducible refine (cmp_isNaN_int.calls a0 true _ A3.out).mono ?_); rintro e w' ⟨rfl, ⟨nd, rfl⟩⟩; refine ⟨_, rfl, ?_⟩) | ((with_reducible refine gate_callee (f := 72) rfl ?_); refine goesL_ (some 10) rfl rfl Try.func72 (by kernel_rfl) rfl #[.int .i64 a1] rfl (by (try simp only [List.map_toArray, List.map_cons, List.map_nil]); first | done | rfl | (simp only [List.length_drop, List.length_take]; rfl)) ?_; (with_reducible refine (cmp_isNaN_int.calls a1 true _ A4.out).mono ?_); rintro e w' ⟨rfl, ⟨nd, rfl⟩⟩; refine ⟨_, rfl, ?_⟩))
      go_ret
      exact ⟨by first | rfl | (simp; done) | (simp [*]; done), by repeat (first | exact Drawn0.refl _ | apply Drawn0.step)⟩
    · replace c6 := Bool.eq_false_iff.mpr c6
      subst c6
      have H1 : (some (-1)) = some r := by rw [if_neg (show ¬ (false = true) by decide)] at H; exact H
      clear H
      have H := H1
      clear H1
      obtain rfl := Option.some.inj H
      go_enter Try.func67, Try.ntmps67
      go_wp2_with (first | ((with_reducible refine gate_callee (f := 72) rfl ?_); refine goesL_ (some 8) rfl rfl Try.func72 (by kernel_rfl) rfl #[.int .i64 a0] rfl (by (try simp only [List.map_toArray, List.map_cons, List.map_nil]); first | done | rfl | (simp only [List.length_drop, List.length_take]; rfl)) ?_; (with_reducible refine (cmp_isNaN_int.calls a0 true _ A3.out).mono ?_); rintro e w' ⟨rfl, ⟨nd, rfl⟩⟩; refine ⟨_, rfl, ?_⟩) | ((with_reducible refine gate_callee (f := 72) rfl ?_); refine goesL_ (some 10) rfl rfl Try.func72 (by kernel_rfl) rfl #[.int .i64 a1] rfl (by (try simp only [List.map_toArray, List.map_cons, List.map_nil]); first | done | rfl | (simp only [List.length_drop, List.length_take]; rfl)) ?_; (with_reducible refine (cmp_isNaN_int.calls a1 false _ A4.out).mono ?_); rintro e w' ⟨rfl, ⟨nd, rfl⟩⟩; refine ⟨_, rfl, ?_⟩))
      go_ret
      exact ⟨by first | rfl | (simp; done) | (simp [*]; done), by repeat (first | exact Drawn0.refl _ | apply Drawn0.step)⟩
  · replace c5 := Bool.eq_false_iff.mpr c5
    subst c5
    have H1 : (if t132 = true then (some 1) else (if a0 < a1 then (some (-1)) else (if a0 > a1 then (some 1) else (some 0)))) = some r := by rw [if_neg (show ¬ (false = true) by decide)] at H; exact H
    clear H
    have H := H1
    clear H1
    by_cases c7 : t132 = true
    · subst c7
      have H1 : (some 1) = some r := by rw [if_pos rfl] at H; exact H
      clear H
      have H := H1
      clear H1
      obtain rfl := Option.some.inj H
      go_enter Try.func67, Try.ntmps67
      go_wp2_with (first | ((with_reducible refine gate_callee (f := 72) rfl ?_); refine goesL_ (some 8) rfl rfl Try.func72 (by kernel_rfl) rfl #[.int .i64 a0] rfl (by (try simp only [List.map_toArray, List.map_cons, List.map_nil]); first | done | rfl | (simp only [List.length_drop, List.length_take]; rfl)) ?_; (with_reducible refine (cmp_isNaN_int.calls a0 false _ A3.out).mono ?_); rintro e w' ⟨rfl, ⟨nd, rfl⟩⟩; refine ⟨_, rfl, ?_⟩) | ((with_reducible refine gate_callee (f := 72) rfl ?_); refine goesL_ (some 10) rfl rfl Try.func72 (by kernel_rfl) rfl #[.int .i64 a1] rfl (by (try simp only [List.map_toArray, List.map_cons, List.map_nil]); first | done | rfl | (simp only [List.length_drop, List.length_take]; rfl)) ?_; (with_reducible refine (cmp_isNaN_int.calls a1 true _ A4.out).mono ?_); rintro e w' ⟨rfl, ⟨nd, rfl⟩⟩; refine ⟨_, rfl, ?_⟩))
      go_ret
      exact ⟨by first | rfl | (simp; done) | (simp [*]; done), by repeat (first | exact Drawn0.refl _ | apply Drawn0.step)⟩
    · replace c7 := Bool.eq_false_iff.mpr c7
      subst c7
      have H1 : (if a0 < a1 then (some (-1)) else (if a0 > a1 then (some 1) else (some 0))) = some r := by rw [if_neg (show ¬ (false = true) by decide)] at H; exact H
      clear H
      have H := H1
      clear H1
      by_cases c8 : a0 < a1
      · rw [if_pos c8] at H
        have c8b0 : decide (a0 < a1) = true := decide_eq_true c8
        clear c8
        obtain rfl := Option.some.inj H
        go_enter Try.func67, Try.ntmps67
        go_wp2_with (first | ((with_reducible refine gate_callee (f := 72) rfl ?_); refine goesL_ (some 8) rfl rfl Try.func72 (by kernel_rfl) rfl #[.int .i64 a0] rfl (by (try simp only [List.map_toArray, List.map_cons, List.map_nil]); first | done | rfl | (simp only [List.length_drop, List.length_take]; rfl)) ?_; (with_reducible refine (cmp_isNaN_int.calls a0 false _ A3.out).mono ?_); rintro e w' ⟨rfl, ⟨nd, rfl⟩⟩; refine ⟨_, rfl, ?_⟩) | ((with_reducible refine gate_callee (f := 72) rfl ?_); refine goesL_ (some 10) rfl rfl Try.func72 (by kernel_rfl) rfl #[.int .i64 a1] rfl (by (try simp only [List.map_toArray, List.map_cons, List.map_nil]); first | done | rfl | (simp only [List.length_drop, List.length_take]; rfl)) ?_; (with_reducible refine (cmp_isNaN_int.calls a1 false _ A4.out).mono ?_); rintro e w' ⟨rfl, ⟨nd, rfl⟩⟩; refine ⟨_, rfl, ?_⟩))
        go_ret
        exact ⟨by first | rfl | (simp; done) | (simp [*]; done), by repeat (first | exact Drawn0.refl _ | apply Drawn0.step)⟩
      · rw [if_neg c8] at H
        have c8b0 : decide (a0 < a1) = false := decide_eq_false c8
        clear c8
        by_cases c9 : a0 > a1
        · rw [if_pos c9] at H
          have c9b0 : decide (a1 < a0) = true := decide_eq_true c9
          clear c9
          obtain rfl := Option.some.inj H
          go_enter Try.func67, Try.ntmps67
          go_wp2_with (first | ((with_reducible refine gate_callee (f := 72) rfl ?_); refine goesL_ (some 8) rfl rfl Try.func72 (by kernel_rfl) rfl #[.int .i64 a0] rfl (by (try simp only [List.map_toArray, List.map_cons, List.map_nil]); first | done | rfl | (simp only [List.length_drop, List.length_take]; rfl)) ?_; (with_reducible refine (cmp_isNaN_int.calls a0 false _ A3.out).mono ?_); rintro e w' ⟨rfl, ⟨nd, rfl⟩⟩; refine ⟨_, rfl, ?_⟩) | ((with_reducible refine gate_callee (f := 72) rfl ?_); refine goesL_ (some 10) rfl rfl Try.func72 (by kernel_rfl) rfl #[.int .i64 a1] rfl (by (try simp only [List.map_toArray, List.map_cons, List.map_nil]); first | done | rfl | (simp only [List.length_drop, List.length_take]; rfl)) ?_; (with_reducible refine (cmp_isNaN_int.calls a1 false _ A4.out).mono ?_); rintro e w' ⟨rfl, ⟨nd, rfl⟩⟩; refine ⟨_, rfl, ?_⟩))
          go_ret
          exact ⟨by first | rfl | (simp; done) | (simp [*]; done), by repeat (first | exact Drawn0.refl _ | apply Drawn0.step)⟩
        · rw [if_neg c9] at H
          have c9b0 : decide (a1 < a0) = false := decide_eq_false c9
          clear c9
          obtain rfl := Option.some.inj H
          go_enter Try.func67, Try.ntmps67
          go_wp2_with (first | ((with_reducible refine gate_callee (f := 72) rfl ?_); refine goesL_ (some 8) rfl rfl Try.func72 (by kernel_rfl) rfl #[.int .i64 a0] rfl (by (try simp only [List.map_toArray, List.map_cons, List.map_nil]); first | done | rfl | (simp only [List.length_drop, List.length_take]; rfl)) ?_; (with_reducible refine (cmp_isNaN_int.calls a0 false _ A3.out).mono ?_); rintro e w' ⟨rfl, ⟨nd, rfl⟩⟩; refine ⟨_, rfl, ?_⟩) | ((with_reducible refine gate_callee (f := 72) rfl ?_); refine goesL_ (some 10) rfl rfl Try.func72 (by kernel_rfl) rfl #[.int .i64 a1] rfl (by (try simp only [List.map_toArray, List.map_cons, List.map_nil]); first | done | rfl | (simp only [List.length_drop, List.length_take]; rfl)) ?_; (with_reducible refine (cmp_isNaN_int.calls a1 false _ A4.out).mono ?_); rintro e w' ⟨rfl, ⟨nd, rfl⟩⟩; refine ⟨_, rfl, ?_⟩))
          go_ret
          exact ⟨by first | rfl | (simp; done) | (simp [*]; done), by repeat (first | exact Drawn0.refl _ | apply Drawn0.step)⟩
def slices_Compare_int_int.l0 : Nat → List Int → List Int → List Int → Int → Int → Option (Int)
  | 0, _, _, _, _, _ => none
  | k + 1, x0, x1, x9, x10, x11 => if x11 < x10 then (if 0 ≤ x11 then (if x11 < (x9.length : Int) then (if x11 ≥ (x1.length : Int) then (some 1) else (if x11 < (x1.length : Int) then ((cmp_Compare_int.f (rd x9 x11) (rd x1 x11)).bind fun t135 => (if t135 = 0 then (slices_Compare_int_int.l0 k x0 x1 x9 x10 (wrap64 (x11 + 1))) else (some t135))) else (none))) else (none)) else (none)) else (if (x0.length : Int) < (x1.length : Int) then (some (-1)) else (some 0))
def slices_Compare_int_int.f (k : Nat) (l0 : List Int) (l1 : List Int) : Option (Int) := slices_Compare_int_int.l0 k l0 l1 l0 (l0.length : Int) 0
theorem slices_Compare_int_int.mono_l : ∀ k, (∀ y0 y1 y2 y3 y4, LeO (slices_Compare_int_int.l0 k y0 y1 y2 y3 y4) (slices_Compare_int_int.l0 (k + 1) y0 y1 y2 y3 y4))
  | 0 => fun _ _ _ _ _ r h => by simp [slices_Compare_int_int.l0] at h
  | k + 1 => by
    have ih0 := slices_Compare_int_int.mono_l k
    · intro y0 y1 y2 y3 y4
      unfold slices_Compare_int_int.l0
      repeat' first
      | (with_reducible exact ih0 _ _ _ _ _)
      | (with_reducible exact LeO.refl _)
      | (with_reducible exact LeO.none _)
      | (with_reducible refine LeO.ite ?_ ?_)
      | (with_reducible refine LeO.bind ?_ (fun _ => ?_))
      | exact ih0 _ _ _ _ _
      | exact LeO.none _
      | refine LeO.ite ?_ ?_
      | refine LeO.bind ?_ (fun _ => ?_)
theorem slices_Compare_int_int.mono : ∀ a0 a1 k, LeO (slices_Compare_int_int.f k a0 a1) (slices_Compare_int_int.f (k + 1) a0 a1) := by
  intro a0 a1 k
  have ih0 := slices_Compare_int_int.mono_l k
  unfold slices_Compare_int_int.f
  repeat' first
      | (with_reducible exact ih0 _ _ _ _ _)
      | (with_reducible exact LeO.refl _)
      | (with_reducible exact LeO.none _)
      | (with_reducible refine LeO.ite ?_ ?_)
      | (with_reducible refine LeO.bind ?_ (fun _ => ?_))
      | exact ih0 _ _ _ _ _
      | exact LeO.none _
      | refine LeO.ite ?_ ?_
      | refine LeO.bind ?_ (fun _ => ?_)
set_option maxHeartbeats 8000000 in
set_option maxRecDepth 100000 in
theorem slices_Compare_int_int.calls (k : Nat) (A0 : Option Addr) (c0 : Nat) (l0 : List Int) (A1 : Option Addr) (c1 : Nat) (l1 : List Int) (r : Int) (w : World) (hr0 : Kd.C (Kd.int .i64) w A0 l0.length l0) (hc0 : l0.length ≤ c0) (hr1 : Kd.C (Kd.int .i64) w A1 l1.length l1) (hc1 : l1.length ≤ c1) (h : slices_Compare_int_int.f k l0 l1 = some r) :
    Calls Try.prog 52 #[.slice A0 l0.length c0, .slice A1 l1.length c1] w fun e w' => e = .returned (.int .i64 r) ∧ Drawn0 w w' := by
  have HR0 := Aside0.mk hr0
  have HC0 := Aside0.mk hc0
  clear hr0 hc0
  have HR1 := Aside0.mk hr1
  have HC1 := Aside0.mk hc1
  clear hr1 hc1
  have H : (slices_Compare_int_int.l0 k l0 l1 l0 (l0.length : Int) 0) = some r := h
  clear h
  have H' := Aside0.mk H
  clear H
  go_enter Try.func52, Try.ntmps52
  go_wp2
  go_loopg [11] k (fun kq v11 w' => ∃ (x11_1 : Int), v11 = .int .i64 x11_1 ∧ Aside0 (slices_Compare_int_int.l0 kq l0 l1 l0 (l0.length : Int) x11_1 = some r) ∧ Aside0 (kq ≤ k) ∧ Drawn0 w w')
  case atStart => exact ⟨(0), (by first | rfl | (simp; done) | (simp [*]; done)), H', ⟨Nat.le_refl _⟩, by repeat (first | exact Drawn0.refl _ | apply Drawn0.step)⟩
  case round =>
    clear H'
    try clear c1
    try clear p2
    obtain ⟨x11_1, rfl, HA, HK1, ⟨m1, rfl⟩⟩ := hrel
    cases gk with
    | zero => exact absurd HA.out (by simp [slices_Compare_int_int.l0])
    | succ k1 =>
      have H := HA.out
      clear HA
      simp only [slices_Compare_int_int.l0] at H
      by_cases c3 : x11_1 < (l0.length : Int)
      · rw [if_pos c3] at H
        have c3b0 : decide (x11_1 < (l0.length : Int)) = true := decide_eq_true c3
        clear c3
        by_cases c4 : 0 ≤ x11_1
        · rw [if_pos c4] at H
          have c4b0 : decide (0 ≤ x11_1) = true := decide_eq_true c4
          clear c4
          by_cases c5 : x11_1 < (l0.length : Int)
          · rw [if_pos c5] at H
            have c5b0 : decide (x11_1 < (l0.length : Int)) = true := decide_eq_true c5
            clear c5
            by_cases c6 : x11_1 ≥ (l1.length : Int)
            · rw [if_pos c6] at H
              have c6b0 : decide ((l1.length : Int) ≤ x11_1) = true := decide_eq_true c6
              clear c6
              obtain rfl := Option.some.inj H
              have p133 : 0 ≤ (x11_1 : Int) := of_decide_eq_true (by first | (with_reducible assumption) | assumption)
              have q133 : x11_1 < (l0.length : Int) := of_decide_eq_true (by first | (with_reducible assumption) | assumption)
              obtain ⟨ad133, e133, hx133_0⟩ := Kd.at_int HR0.out x11_1 p133 q133
              cases e133
              replace p133 := eq_true p133
              replace q133 := eq_true q133
              go_wp2
              go_ret
              exact ⟨by first | rfl | (simp; done) | (simp [*]; done), by repeat (first | exact Drawn0.refl _ | apply Drawn0.step)⟩
            · rw [if_neg c6] at H
              have c6b0 : decide ((l1.length : Int) ≤ x11_1) = false := decide_eq_false c6
              clear c6
              by_cases c7 : x11_1 < (l1.length : Int)
              · rw [if_pos c7] at H
                have c7b0 : decide (x11_1 < (l1.length : Int)) = true := decide_eq_true c7
                clear c7
                replace H := Option.bind_eq_some_iff.mp H
                obtain ⟨t135, A80, H⟩ := H
                replace H : (if t135 = 0 then (slices_Compare_int_int.l0 k1 l0 l1 l0 (l0.length : Int) (wrap64 (x11_1 + 1))) else (some t135)) = some r := H
                have A8 := Aside0.mk A80
                clear A80
                by_cases c9 : t135 = 0
                · rw [if_pos c9] at H
                  have c9b0 : (t135 == 0) = true := beq_iff_eq.mpr c9
                  have c9b1 : (t135 != 0) = false := bne_eq_false_iff_eq.mpr c9
                  clear c9
                  have H' := Aside0.mk H
                  clear H
                  have p133 : 0 ≤ (x11_1 : Int) := of_decide_eq_true (by first | (with_reducible assumption) | assumption)
                  have q133 : x11_1 < (l0.length : Int) := of_decide_eq_true (by first | (with_reducible assumption) | assumption)
                  obtain ⟨ad133, e133, hx133_0⟩ := Kd.at_int HR0.out x11_1 p133 q133
                  cases e133
                  replace p133 := eq_true p133
                  replace q133 := eq_true q133
                  have p134 : 0 ≤ (x11_1 : Int) := of_decide_eq_true (by first | (with_reducible assumption) | assumption)
                  have q134 : x11_1 < (l1.length : Int) := of_decide_eq_true (by first | (with_reducible assumption) | assumption)
                  obtain ⟨ad134, e134, hx134_0⟩ := Kd.at_int HR1.out x11_1 p134 q134
                  cases e134
                  replace p134 := eq_true p134
                  replace q134 := eq_true q134
                  go_wp2_with (first | ((with_reducible refine gate_callee (f := 67) rfl ?_); refine goesL_ (some 26) rfl rfl Try.func67 (by kernel_rfl) rfl #[.int .i64 (rd l0 x11_1), .int .i64 (rd l1 x11_1)] rfl (by (try simp only [List.map_toArray, List.map_cons, List.map_nil]); first | done | rfl | (simp only [List.length_drop, List.length_take]; rfl)) ?_; (with_reducible refine (cmp_Compare_int.calls (rd l0 x11_1) (rd l1 x11_1) t135 _ A8.out).mono ?_); rintro e w' ⟨rfl, ⟨nd, rfl⟩⟩; refine ⟨_, rfl, ?_⟩))
                  go_roundg k1
                  case measure => have := HK1.out; omega
                  case rel => exact ⟨(wrap64 (x11_1 + 1)), (by first | rfl | (simp; done) | (simp [*]; done)), H', ⟨by have := HK1.out; omega⟩, by repeat (first | exact Drawn0.refl _ | apply Drawn0.step)⟩
                · rw [if_neg c9] at H
                  have c9b0 : (t135 == 0) = false := beq_eq_false_iff_ne.mpr c9
                  have c9b1 : (t135 != 0) = true := bne_iff_ne.mpr c9
                  obtain rfl := Option.some.inj H
                  have p133 : 0 ≤ (x11_1 : Int) := of_decide_eq_true (by first | (with_reducible assumption) | assumption)
                  have q133 : x11_1 < (l0.length : Int) := of_decide_eq_true (by first | (with_reducible assumption) | assumption)
                  obtain ⟨ad133, e133, hx133_0⟩ := Kd.at_int HR0.out x11_1 p133 q133
                  cases e133
                  replace p133 := eq_true p133
                  replace q133 := eq_true q133
                  have p134 : 0 ≤ (x11_1 : Int) := of_decide_eq_true (by first | (with_reducible assumption) | assumption)
                  have q134 : x11_1 < (l1.length : Int) := of_decide_eq_true (by first | (with_reducible assumption) | assumption)
                  obtain ⟨ad134, e134, hx134_0⟩ := Kd.at_int HR1.out x11_1 p134 q134
                  cases e134
                  replace p134 := eq_true p134
                  replace q134 := eq_true q134
                  go_wp2_with (first | ((with_reducible refine gate_callee (f := 67) rfl ?_); refine goesL_ (some 26) rfl rfl Try.func67 (by kernel_rfl) rfl #[.int .i64 (rd l0 x11_1), .int .i64 (rd l1 x11_1)] rfl (by (try simp only [List.map_toArray, List.map_cons, List.map_nil]); first | done | rfl | (simp only [List.length_drop, List.length_take]; rfl)) ?_; (with_reducible refine (cmp_Compare_int.calls (rd l0 x11_1) (rd l1 x11_1) t135 _ A8.out).mono ?_); rintro e w' ⟨rfl, ⟨nd, rfl⟩⟩; refine ⟨_, rfl, ?_⟩))
                  go_ret
                  exact ⟨by first | rfl | (simp; done) | (simp [*]; done), by repeat (first | exact Drawn0.refl _ | apply Drawn0.step)⟩
              · rw [if_neg c7] at H
                exact absurd H (by simp)
          · rw [if_neg c5] at H
            exact absurd H (by simp)
        · rw [if_neg c4] at H
          exact absurd H (by simp)
      · rw [if_neg c3] at H
        have c3b0 : decide (x11_1 < (l0.length : Int)) = false := decide_eq_false c3
        clear c3
        by_cases c10 : (l0.length : Int) < (l1.length : Int)
        · rw [if_pos c10] at H
          have c10b0 : decide ((l0.length : Int) < (l1.length : Int)) = true := decide_eq_true c10
          have c10b1 : decide (l0.length < l1.length) = true := decide_eq_true (Int.ofNat_lt.mp c10)
          clear c10
          obtain rfl := Option.some.inj H
          go_wp2
          go_ret
          exact ⟨by first | rfl | (simp; done) | (simp [*]; done), by repeat (first | exact Drawn0.refl _ | apply Drawn0.step)⟩
        · rw [if_neg c10] at H
          have c10b0 : decide ((l0.length : Int) < (l1.length : Int)) = false := decide_eq_false c10
          have c10b1 : decide (l0.length < l1.length) = false := decide_eq_false (fun h => c10 (Int.ofNat_lt.mpr h))
          clear c10
          obtain rfl := Option.some.inj H
          go_wp2
          go_ret
          exact ⟨by first | rfl | (simp; done) | (simp [*]; done), by repeat (first | exact Drawn0.refl _ | apply Drawn0.step)⟩
def minGo (k : Nat) (xs : List (List Int)) : Nat → Int → List Int → Option (List Int)
  | 0, _, b => some b
  | d + 1, i, b => (slices_Compare_int_int.f k (rowOf xs i) b).bind fun c => if c < 0 then minGo k xs d (i + 1) (rowOf xs i) else minGo k xs d (i + 1) b
def slices_MinFunc_int_int.f (k : Nat) (xs : List (List Int)) : Option (List Int) := if 0 < xs.length ∧ xs.length < 1000000 then minGo k xs (xs.length - 1) 1 (rowOf xs 0) else none
theorem minGo_mono (k : Nat) (xs : List (List Int)) : ∀ d i b, LeO (minGo k xs d i b) (minGo (k + 1) xs d i b)
  | 0, _, _ => LeO.refl _
  | d + 1, i, b => by
    rw [minGo, minGo]
    exact LeO.bind (slices_Compare_int_int.mono _ _ _) (fun _ => LeO.ite (minGo_mono k xs d _ _) (minGo_mono k xs d _ _))
theorem slices_MinFunc_int_int.mono : ∀ xs k, LeO (slices_MinFunc_int_int.f k xs) (slices_MinFunc_int_int.f (k + 1) xs) := fun _ _ => LeO.ite (minGo_mono _ _ _ _ _) (LeO.none _)
set_option maxHeartbeats 8000000 in
set_option maxRecDepth 100000 in
theorem slices_MinFunc_int_int.calls (k base : Nat) (As : Option Addr) (cs : Nat) (all : List (List Int)) (r : List Int) (w : World) (hs : Kd.S (Kd.slice 3 (Kd.int .i64)) 24 w base (fun _ => True) (.slice As all.length cs) all) (h : slices_MinFunc_int_int.f k all = some r) :
    Calls Try.prog 51 #[.slice As all.length cs, .func (.func 52) #[] #[]] w fun e w' => ∃ v : Value, e = .returned v ∧ Kd.R (Kd.int .i64) 3 w' base (fun _ => True) v r ∧ Below w.heap.size w w' := by
  unfold slices_MinFunc_int_int.f at h
  by_cases hl : 0 < all.length ∧ all.length < 1000000
  case neg => rw [if_neg hl] at h; cases h
  rw [if_pos hl] at h
  have HL := Aside0.mk hl
  have A3 := Aside0.mk h
  have HS := Aside0.mk hs
  have HB := Aside0.mk (Below.refl w.heap.size w)
  obtain ⟨ad0, Ab0, cb0, e0_, hx0, _, _, hR0⟩ := rowAt_ hs 0 (by omega) (by omega)
  subst e0_
  have HV := Aside0.mk hR0
  have p0_ : (0 < all.length) = True := eq_true hl.1
  have c0_ : decide ((all.length : Int) < 1) = false := decide_eq_false (by omega)
  have c0b_ : decide (all.length < 1) = false := decide_eq_false (by omega)
  have hx0b : w.cell? ad0 = some (.slice Ab0 (rowOf all 0).length cb0) := by have := hx0; simpa [Addr.add] using this
  clear hR0 h hl hs
  go_enter Try.func51, Try.ntmps51
  go_wp2
  go_loopg [5, 6] (all.length - 1) (fun kq v5 v6 w' => ∃ (i : Int) (b : List Int) (vb : Value), v5 = vb ∧ v6 = .int .i64 i ∧ Aside0 (minGo k all kq i b = some r) ∧ Aside0 (0 ≤ i ∧ i + (kq : Int) = (all.length : Int)) ∧ Aside0 (Kd.S (Kd.slice 3 (Kd.int .i64)) 24 w' base (fun _ => True) (.slice (some ad0) all.length cs) all) ∧ Aside0 (Kd.R (Kd.int .i64) 3 w' base (fun _ => True) vb b) ∧ Aside0 (Below w.heap.size w w'))
  case atStart => exact ⟨1, rowOf all 0, _, rfl, rfl, A3, ⟨by have := HL.out; omega⟩, HS, HV, HB⟩
  case round =>
    clear A3 HS HV HB hx0 hx0b c0_ c0b_ p0_
    obtain ⟨i, b, vb, rfl, rfl, HA, HI, HS, HV, HB⟩ := hrel
    obtain ⟨Ab, cb, eb_⟩ := Kd.R_slice HV.out
    subst eb_
    cases gk with
    | zero =>
      have c1 : decide (i < (all.length : Int)) = false := decide_eq_false (by have := HI.out.2; omega)
      obtain rfl := Option.some.inj (show some b = some r from HA.out)
      go_wp2
      go_ret
      exact ⟨_, rfl, HV.out, HB.out⟩
    | succ d =>
      obtain ⟨c, hv, H⟩ := Option.bind_eq_some_iff.1 (show ((slices_Compare_int_int.f k (rowOf all i) b).bind fun c => if c < 0 then minGo k all d (i + 1) (rowOf all i) else minGo k all d (i + 1) b) = some r from HA.out)
      have AV := Aside0.mk hv
      clear hv HA
      have c1 : decide (i < (all.length : Int)) = true := decide_eq_true (by have := HI.out.2; omega)
      have p1 : (0 ≤ i) = True := eq_true HI.out.1
      have p2 : (i < (all.length : Int)) = True := eq_true (by have := HI.out.2; omega)
      obtain ⟨i1, hi1⟩ : ∃ i1 : Int, i1 = i + 1 := ⟨_, rfl⟩
      have z2 : wrap64 (i + 1) = i1 := by rw [hi1]; exact IntWalk.wrap64_in _ (by have h1_ := HI.out; have h2_ := HL.out; omega)
      have HI1 := Aside0.mk (show 0 ≤ i1 ∧ i1 + (d : Int) = (all.length : Int) by have := HI.out; omega)
      rw [← hi1] at H
      clear hi1
      obtain ⟨ad, A1_, c1_, e1_, hx, hlc, hC, hR⟩ := rowAt_ HS.out i HI.out.1 (by have := HI.out.2; omega)
      cases e1_
      have HR := Aside0.mk hR
      have HC := Aside0.mk hC
      have HLC := Aside0.mk hlc
      clear hR hC hlc
      (repeat ((fail_if_success (with_reducible refine gate_dst (N := 26) rfl ?_)); first | go_values | go_skip | go_guarded | go_step | go_upon))
      have HB4 := Kd.R_reads' HV.out
      refine goesV_ (some 26) rfl rfl (enters_of Try.func52 (by kernel_rfl) rfl) #[] #[.slice A1_ (rowOf all i).length c1_, .slice Ab b.length cb] rfl rfl (by (try simp only [List.map_toArray, List.map_cons, List.map_nil]); first | done | rfl) ?_
      refine (slices_Compare_int_int.calls k A1_ c1_ (rowOf all i) Ab cb b c wr HC.out HLC.out HB4.2.2 HB4.2.1 AV.out).mono ?_
      rintro e w5 ⟨rfl, hdr⟩
      refine ⟨_, rfl, ?_⟩
      have hb := hdr.below
      have n0_ := Aside0.mk (below_step HB.out hb)
      have n1_ := Aside0.mk (Kd.S_below HS.out hb)
      have n2_ := Aside0.mk (Kd.R_below HV.out hb)
      clear HB HS HV HR HC HB4 hb hdr hx HLC
      have HB := n0_
      have HS := n1_
      have HV := n2_
      clear n0_ n1_ n2_
      obtain ⟨ad2, A2_, c2_, e2_, hx2, _, _, hR2⟩ := rowAt_ HS.out i HI.out.1 (by have := HI.out.2; omega)
      cases e2_
      have HR2 := Aside0.mk hR2
      clear hR2
      by_cases hm : c < 0
      · rw [if_pos hm] at H
        have c2 : decide (c < 0) = true := decide_eq_true hm
        have H' := Aside0.mk H
        clear H hm
        go_wp2
        go_roundg d
        case measure => omega
        case rel => exact ⟨i1, rowOf all i, _, rfl, (by first | rfl | rw [z2]), H', HI1, HS, HR2, HB⟩
      · rw [if_neg hm] at H
        have c2 : decide (c < 0) = false := decide_eq_false hm
        have H' := Aside0.mk H
        clear H hm
        go_wp2
        go_roundg d
        case measure => omega
        case rel => exact ⟨i1, b, _, rfl, (by first | rfl | rw [z2]), H', HI1, HS, HV, HB⟩
end Go.Proofs.Ytidiondgfoolbaa.PFnQueues
