-- laid by mkprint.py, a program of this claim's writer, over the kit's print program; parts of it are typed by hand
import Derived.Test.YtidiondgfoolbaaPFnQueuesx0
import Derived.Test.YtidiondgfoolbaaPFnQueuesx3
import Derived.Test.YtidiondgfoolbaaPFnQueuesx4
import Derived.Test.YtidiondgfoolbaaPFnQueuesx5
namespace Go.Proofs.Ytidiondgfoolbaa.PFnQueues
open Go.RowKit Go.Proofs.YtidiondgfoolbaaW.PrintWords Go.Proofs.YtidiondgfoolbaaW.PrintLast Go.Proofs.YtidiondgfoolbaaW.PrintMore
attribute [local go_sem] max2_int min2_int max_two min_two max_three min_three max_four min_four
set_option linter.unusedVariables false
set_option linter.unusedSimpArgs false
def lgGo (so_ : Nat → List Int → Option Bool) (k : Nat) (l0 : List Int) : Nat → Int → Option (List Int)
  | 0, _ => some []
  | d + 1, m => (impl_choose.f (impl_longest_1.f so_ l0) k (l0.length : Int) m []).bind fun xs => if 0 < xs.length then slices_MinFunc_int_int.f k xs else lgGo so_ k l0 d (m - 1)
def impl_longest.f (so_ : Nat → List Int → Option Bool) (k : Nat) (l0 : List Int) : Option (List Int) := if l0.length ≤ 1000000 then lgGo so_ k l0 l0.length (l0.length : Int) else none
theorem lgGo_mono (so_ : Nat → List Int → Option Bool) (hs : ∀ l k, LeO (so_ k l) (so_ (k + 1) l)) (k : Nat) (l0 : List Int) : ∀ d m, LeO (lgGo so_ k l0 d m) (lgGo so_ (k + 1) l0 d m)
  | 0, _ => LeO.refl _
  | d + 1, m => by
    rw [lgGo, lgGo]
    exact LeO.bind (impl_choose.mono _ (fun s d k => impl_longest_1.mono so_ hs l0 s d k) _ _ _ _) (fun _ => LeO.ite (slices_MinFunc_int_int.mono _ _) (lgGo_mono so_ hs k l0 d _))
theorem impl_longest.mono (so_ : Nat → List Int → Option Bool) (hs : ∀ l k, LeO (so_ k l) (so_ (k + 1) l)) : ∀ l0 k, LeO (impl_longest.f so_ k l0) (impl_longest.f so_ (k + 1) l0) := fun l0 k => LeO.ite (lgGo_mono so_ hs k l0 _ _) (LeO.none _)
set_option maxHeartbeats 8000000 in
set_option maxRecDepth 100000 in
theorem impl_longest.calls (gs_ : Nat) (so_ : Nat → List Int → Option Bool) (es_ : ∀ args w, (callFunc gs_ args).run Try.prog w = .ok (.enter gs_ args) w) (hSo : ∀ (k : Nat) (A : Option Addr) (c : Nat) (l : List Int) (b : Bool) (W : World), Kd.C (Kd.int .i64) W A l.length l → l.length ≤ c → so_ k l = some b → Calls Try.prog gs_ #[.slice A l.length c] W fun e W' => e = .returned (.bool b) ∧ Below W.heap.size W W') (k : Nat) (A0 : Option Addr) (c0 : Nat) (l0 : List Int) (r : List Int) (w : World) (hr0 : Kd.C (Kd.int .i64) w A0 l0.length l0) (hc0 : l0.length ≤ c0) (h : impl_longest.f so_ k l0 = some r) :
    Calls Try.prog 28 #[.slice A0 l0.length c0, .func (.func gs_) #[] #[]] w fun e w' => ∃ v : Value, e = .returned v ∧ Kd.R (Kd.int .i64) 3 w' w.heap.size (fun _ => True) v r ∧ Below w.heap.size w w' := by
  unfold impl_longest.f at h
  by_cases hl : l0.length ≤ 1000000
  case neg => rw [if_neg hl] at h; cases h
  rw [if_pos hl] at h
  have HL := Aside0.mk hl
  have HF := Aside0.mk h
  have HR0 := Aside0.mk hr0
  have HC0 := Aside0.mk hc0
  have HSO := Aside0.mk hSo
  have HB := Aside0.mk (Below.refl w.heap.size w)
  have HK := Aside0.mk (Kept.refl w (fun _ => False))
  clear hl h hr0 hc0 hSo
  go_enter Try.func28, Try.ntmps28
  (repeat ((fail_if_success (with_reducible refine gate_dst (N := 2) rfl ?_)); first | go_values | go_skip | go_guarded | go_step | go_upon))
  refine box_event ?hg (N := 2) ?hd (cs := #[.slice A0 l0.length c0]) (t := 24) ?hr ?_
  case hd => rfl
  case hg => rfl
  case hr => first | (go_simp; done) | (go_simp; rfl)
  intro bO hg w1 hbox hb
  have n0_ := Aside0.mk (below_step HB.out hb)
  have n1_ := Aside0.mk (HK.out.below hb)
  have BO := Aside0.mk hbox
  have GO := Aside0.mk hg
  clear HB HK hg hb hbox
  have HB := n0_
  have HK := n1_
  clear n0_ n1_
  (repeat ((fail_if_success (with_reducible refine gate_dst (N := 3) rfl ?_)); first | go_values | go_skip | go_guarded | go_step | go_upon))
  refine box_event ?hg (N := 3) ?hd (cs := #[.func (.func gs_) #[] #[]]) (t := 49) ?hr ?_
  case hd => rfl
  case hg => rfl
  case hr => first | (go_simp; done) | (go_simp; rfl)
  intro bS hg w2 hbox hb
  have n0_ := Aside0.mk (below_step HB.out hb)
  have n1_ := Aside0.mk (HK.out.below hb)
  have m0_ := Aside0.mk (blk_below BO.out hb)
  have BS := Aside0.mk hbox
  have GS := Aside0.mk hg
  clear HB HK hg hb hbox BO
  have HB := n0_
  have HK := n1_
  have BO := m0_
  clear n0_ n1_ m0_
  have LOW := Aside0.mk (show w.heap.size ≤ bO from by have := GO.out; omega)
  clear GO GS HK
  have eo_ : w2.cell? ⟨bO, 0, none⟩ = some (.slice A0 l0.length c0) := (blk_cell BO.out 0).trans rfl
  have HK := True.intro
  go_wp2
  go_loopg [5] l0.length (fun kq v5 w' => ∃ mi : Int, v5 = .int .i64 mi ∧ Aside0 (lgGo so_ k l0 kq mi = some r) ∧ Aside0 (mi = (kq : Int) ∧ kq ≤ l0.length) ∧ Aside0 (Below w.heap.size w w') ∧ Aside0 (w'.heap[bO]? = some (.cells #[.slice A0 l0.length c0] 24 (0, 0))) ∧ Aside0 (w'.heap[bS]? = some (.cells #[.func (.func gs_) #[] #[]] 49 (0, 0))))
  case atStart => exact ⟨_, rfl, HF, ⟨rfl, Nat.le_refl _⟩, HB, BO, BS⟩
  case round =>
    clear HF HB HK BO BS eo_
    obtain ⟨mi, rfl, HA, HI, HB, BO, BS⟩ := hrel
    cases gk with
    | zero =>
      have c1 : decide (0 < mi) = false := decide_eq_false (by have := HI.out; omega)
      obtain rfl := Option.some.inj (show some [] = some r from HA.out)
      clear HA
      go_wp2
      go_ret
      exact ⟨_, rfl, Kd.R_nil _ _ _ _ _, HB.out⟩
    | succ d =>
      have c1 : decide (0 < mi) = true := decide_eq_true (by have := HI.out; omega)
      have z2 : wrap64 (mi - 1) = mi - 1 := IntWalk.wrap64_in _ (by have h1_ := HI.out; have h2_ := HL.out; omega)
      obtain ⟨xs, hch, H⟩ := Option.bind_eq_some_iff.1 (show ((impl_choose.f (impl_longest_1.f so_ l0) k (l0.length : Int) mi []).bind fun xs => if 0 < xs.length then slices_MinFunc_int_int.f k xs else lgGo so_ k l0 d (mi - 1)) = some r from HA.out)
      have HCH := Aside0.mk hch
      clear hch HA
      (repeat ((fail_if_success (with_reducible refine gate_dst (N := 13) rfl ?_)); first | go_values | go_skip | go_guarded | go_step | go_upon))
      refine Kd.S_lit (Kd.slice 3 (Kd.int .i64)) (w0 := w) w.heap.size 24 ?hg (N := 13) ?hd (xs := ([] : List (List Int))) (inner := []) (ok := (fun q_ => wr.heap.size ≤ q_)) (okp := fun _ => False) ?hr (Reps.none _ _) (fun _ hk => hk.elim) ?hF HB.out HB.out.size (by simp) ?_
      case hd => rfl
      case hg => rfl
      case hr => first | (go_simp; done) | (go_simp; rfl)
      case hF => exact Nat.le_refl _
      intro v13 w3 hs3 hb_ hg_ hn_
      have hbl_ : Below wr.heap.size wr w3 := ⟨hg_.os, hg_.tape, hg_.output, hg_.size, fun q_ hq_ => hg_.block q_ hq_ (by simp)⟩
      have HS3 := Aside0.mk (Kd.S_bound hs3)
      have z3_ := Aside0.mk hg_.size
      have nO := Aside0.mk (blk_below BO.out hbl_)
      have nS := Aside0.mk (blk_below BS.out hbl_)
      have n0_ := Aside0.mk hb_
      have lo_ := Aside0.mk (blk_lt BO.out)
      have ls_ := Aside0.mk (blk_lt BS.out)
      clear HB BO BS hs3 hb_ hg_ hn_ hbl_
      have HB := n0_
      have BO := nO
      have BS := nS
      clear n0_ nO nS
      obtain ⟨A13, c13, e13⟩ := Kd.S_slice HS3.out
      rw [List.length_nil] at e13
      subst e13
      (repeat ((fail_if_success (with_reducible refine gate_dst (N := 6) rfl ?_)); first | go_values | go_skip | go_guarded | go_step | go_upon))
      refine box_event ?hg (N := 6) ?hd (cs := #[.slice none 0 0]) (t := 31) ?hr ?_
      case hd => rfl
      case hg => rfl
      case hr => first | (go_simp; done) | (go_simp; rfl)
      intro bL hg w4 hbox hb
      have GL := Aside0.mk (And.intro hg z3_.out)
      have BL := Aside0.mk hbox
      have nO := Aside0.mk (blk_below BO.out hb)
      have nS := Aside0.mk (blk_below BS.out hb)
      have n0_ := Aside0.mk (below_step HB.out hb)
      have n3_ := Aside0.mk (Kd.S_below HS3.out hb)
      have sz_ := Aside0.mk hb.size
      clear HB BO BS HS3 hb hg hbox
      have HB := n0_
      have BO := nO
      have BS := nS
      have HS3 := n3_
      clear n0_ nO nS n3_
      have ea : w4.cell? ⟨bL, 0, none⟩ = some (.slice none 0 0) := (blk_cell BL.out 0).trans rfl
      have fa : w4.frozen? ⟨bL, 0, none⟩ = false := blk_frozen BL.out 0
      (repeat ((fail_if_success (with_reducible refine gate_store (t := 31) (p := 6) rfl ?_)); first | go_values | go_skip | go_guarded | go_step | go_upon))
      refine store_event (t := 31) (p := 6) (v := ?vo) (w1 := (w4.setCell ⟨bL, 0, none⟩ (.slice A13 0 c13))) ?hg ?ho ?hn ?hr ?_
      case ho => rfl
      case hg => rfl
      case hn => rfl
      case hr => first | (go_simp; done) | (go_simp; rfl)
      intro w5 hw
      have hk5 : Kept w4 w5 (fun q_ => q_ = bL) := by rw [hw]; exact (Kept.refl w4 (fun q_ => q_ = bL)).setCell (p := ⟨bL, 0, none⟩) (.inl rfl) _
      have hL5 : w5.heap[bL]? = some (.cells #[.slice A13 0 c13] 31 (0, 0)) := by rw [hw]; exact blk_put (cs := #[.slice none 0 0]) BL.out 0 _ rfl
      have HST := Aside0.mk (show LgSt A0 c0 l0 gs_ bO bS bL w [] (fun q_ => (wr.heap.size ≤ q_ ∧ q_ < w3.heap.size) ∨ q_ = bL) w5 from ⟨blk_kept BO.out hk5 (by have := lo_.out; have := GL.out; have := sz_.out; omega), blk_kept BS.out hk5 (by have := ls_.out; have := GL.out; omega), _, (fun q_ => wr.heap.size ≤ q_ ∧ q_ < w3.heap.size), hL5, fun _ => Iff.rfl, fun q_ hq_ => ⟨by have := lo_.out; have := ls_.out; have := GL.out; omega, by have := hk5.1; have := sz_.out; omega⟩, Kd.S_kept (Kd.S_mono HS3.out (fun q_ hq_ => ⟨hq_.1, hq_.2.2.1⟩)) hk5 (fun q_ hq_ he_ => by have := GL.out; omega)⟩)
      have n0_ := Aside0.mk (show Below w.heap.size w w5 from by rw [hw]; exact below_set HB.out (by have := GL.out; have := HB.out.size; have := lo_.out; have := LOW.out; omega))
      have nO := Aside0.mk (blk_kept BO.out hk5 (by have := lo_.out; have := GL.out; omega))
      have nS := Aside0.mk (blk_kept BS.out hk5 (by have := ls_.out; have := GL.out; omega))
      have HLT := Aside0.mk (show w.heap.size ≤ bL ∧ bO < bL ∧ bS < bL from by have := GL.out; have := lo_.out; have := ls_.out; have := LOW.out; omega)
      have HNF := Aside0.mk (show ∀ q_, q_ < wr.heap.size → ¬ ((wr.heap.size ≤ q_ ∧ q_ < w3.heap.size) ∨ q_ = bL) from fun q_ h_ h1_ => by have := GL.out; omega)
      clear HB BO BS hw hk5 hL5 ea fa HS3 BL
      have HB := n0_
      have BO := nO
      have BS := nS
      clear n0_ nO nS
      have eo_ : w5.cell? ⟨bO, 0, none⟩ = some (.slice A0 l0.length c0) := (blk_cell BO.out 0).trans rfl
      (repeat ((fail_if_success (with_reducible refine gate_dst (N := 18) rfl ?_)); first | go_values | go_skip | go_guarded | go_step | go_upon))
      refine goesL_ (some 18) rfl rfl Try.func48 (by kernel_rfl) rfl #[.int .i64 (l0.length : Int), .int .i64 mi, .func (.func 49) #[] #[.pointer (some ⟨bO, 0, none⟩), .pointer (some ⟨bS, 0, none⟩), .pointer (some ⟨bL, 0, none⟩)]] rfl (by (try simp only [List.map_toArray, List.map_cons, List.map_nil]); first | done | rfl) ?_
      refine (impl_choose.calls (LgSt A0 c0 l0 gs_ bO bS bL w) 49 #[.pointer (some ⟨bO, 0, none⟩), .pointer (some ⟨bS, 0, none⟩), .pointer (some ⟨bL, 0, none⟩)] (impl_longest_1.f so_ l0) (enters_of Try.func49 (by kernel_rfl) rfl) (l0.length : Int) mi w w5 HB.out (fun _ _ _ _ h1_ h2_ => LgSt.kept h1_ h2_) (fun _ _ _ h1_ => LgSt.bound h1_) (fun k s F d s' r v W h1_ h2_ h3_ h4_ => impl_longest_1.calls gs_ so_ es_ HSO.out A0 c0 l0 bO bS bL w HR0.out HC0.out HLT.out k s F d s' r v W h1_ h2_ h3_ h4_) k [] xs _ HST.out HCH.out).mono ?_
      rintro e w6 ⟨rfl, F', h1, h2, h3, h4⟩
      refine ⟨_, rfl, ?_⟩
      obtain ⟨gO, gS, vL, P, gL, gF, gP, gR⟩ := h1
      have HB6 := Aside0.mk h3
      have BO6 := Aside0.mk gO
      have BS6 := Aside0.mk gS
      obtain ⟨AL, cL, eL⟩ := Kd.S_slice gR
      subst eL
      have HSL := Aside0.mk (Kd.S_mono gR (fun _ _ => trivial))
      have e6 : w6.cell? ⟨bL, 0, none⟩ = some (.slice AL xs.length cL) := (blk_cell gL 0).trans rfl
      clear h2 h3 h4 gO gS gL gF gP gR HB BO BS HST eo_ HCH
      have BO := BO6
      have BS := BS6
      have HB := HB6
      clear BO6 BS6 HB6
      by_cases hx : 0 < xs.length
      · skip
        rw [if_pos hx] at H
        have c2 : decide (0 < xs.length) = true := decide_eq_true hx
        have c3 : decide ((0 : Int) < (xs.length : Int)) = true := decide_eq_true (by omega)
        have HM := Aside0.mk H
        clear H hx
        (repeat ((fail_if_success (with_reducible refine gate_dst (N := 23) rfl ?_)); first | go_values | go_skip | go_guarded | go_step | go_upon))
        refine goesL_ (some 23) rfl rfl Try.func51 (by kernel_rfl) rfl #[.slice AL xs.length cL, .func (.func 52) #[] #[]] rfl (by (try simp only [List.map_toArray, List.map_cons, List.map_nil]); first | done | rfl) ?_
        refine (slices_MinFunc_int_int.calls k w.heap.size AL cL xs r w6 HSL.out HM.out).mono ?_
        rintro e w7 ⟨v7, rfl, ho, hb⟩
        refine ⟨_, rfl, ?_⟩
        have HO := Aside0.mk ho
        have n0_ := Aside0.mk (below_step HB.out hb)
        clear HB ho hb e6 c2 c3 HSL
        go_wp2
        go_ret
        exact ⟨_, rfl, HO.out, n0_.out⟩
      · skip
        rw [if_neg hx] at H
        have c2 : decide (0 < xs.length) = false := decide_eq_false hx
        have c3 : decide ((0 : Int) < (xs.length : Int)) = false := decide_eq_false (by omega)
        have HM := Aside0.mk H
        clear H hx HSL
        go_wp2
        go_roundg d
        case measure => omega
        case rel => exact ⟨mi - 1, (by first | rfl | rw [z2]), HM, ⟨by have := HI.out; omega⟩, HB, BO, BS⟩
def cmp_Less_int.f (a0 : Int) (a1 : Int) : Option (Bool) := (cmp_isNaN_int.f a0).bind fun t136 => (if t136 = true then ((cmp_isNaN_int.f a1).bind fun t137 => (if t137 = true then (some (decide (a0 < a1))) else (some true))) else (some (decide (a0 < a1))))
set_option maxHeartbeats 8000000 in
set_option maxRecDepth 100000 in
theorem cmp_Less_int.calls (a0 : Int) (a1 : Int) (r : Bool) (w : World) (h : cmp_Less_int.f a0 a1 = some r) :
    Calls Try.prog 68 #[.int .i64 a0, .int .i64 a1] w fun e w' => e = .returned (.bool r) ∧ Drawn0 w w' := by
  have H : ((cmp_isNaN_int.f a0).bind fun t136 => (if t136 = true then ((cmp_isNaN_int.f a1).bind fun t137 => (if t137 = true then (some (decide (a0 < a1))) else (some true))) else (some (decide (a0 < a1))))) = some r := h
  clear h
  replace H := Option.bind_eq_some_iff.mp H
  obtain ⟨t136, A30, H⟩ := H
  replace H : (if t136 = true then ((cmp_isNaN_int.f a1).bind fun t137 => (if t137 = true then (some (decide (a0 < a1))) else (some true))) else (some (decide (a0 < a1)))) = some r := H
  have A3 := Aside0.mk A30
  clear A30
  by_cases c4 : t136 = true
  · subst c4
    have H1 : ((cmp_isNaN_int.f a1).bind fun t137 => (if t137 = true then (some (decide (a0 < a1))) else (some true))) = some r := by rw [if_pos rfl] at H; exact H
    clear H
    have H := H1
    clear H1
    replace H := Option.bind_eq_some_iff.mp H
    obtain ⟨t137, A50, H⟩ := H
    replace H : (if t137 = true then (some (decide (a0 < a1))) else (some true)) = some r := H
    have A5 := Aside0.mk A50
    clear A50
    by_cases c6 : t137 = true
    · subst c6
      have H1 : (some (decide (a0 < a1))) = some r := by rw [if_pos rfl] at H; exact H
      clear H
      have H := H1
      clear H1
      obtain rfl := Option.some.inj H
      go_enter Try.func68, Try.ntmps68
      go_wp2_with (first | ((with_reducible refine gate_callee (f := 72) rfl ?_); refine goesL_ (some 6) rfl rfl Try.func72 (by kernel_rfl) rfl #[.int .i64 a0] rfl (by (try simp only [List.map_toArray, List.map_cons, List.map_nil]); first | done | rfl | (simp only [List.length_drop, List.length_take]; rfl)) ?_; (with_reducible refine (cmp_isNaN_int.calls a0 true _ A3.out).mono ?_); rintro e w' ⟨rfl, ⟨nd, rfl⟩⟩; refine ⟨_, rfl, ?_⟩) | (go_at_call 72; (with_reducible refine (cmp_isNaN_int.calls a1 true _ A5.out).mono ?_); rintro e w' ⟨rfl, ⟨nd, rfl⟩⟩))
      go_ret
      exact ⟨by first | rfl | (simp; done) | (simp [*]; done), by repeat (first | exact Drawn0.refl _ | apply Drawn0.step)⟩
    · replace c6 := Bool.eq_false_iff.mpr c6
      subst c6
      have H1 : (some true) = some r := by rw [if_neg (show ¬ (false = true) by decide)] at H; exact H
      clear H
      have H := H1
      clear H1
      obtain rfl := Option.some.inj H
      go_enter Try.func68, Try.ntmps68
      go_wp2_with (first | ((with_reducible refine gate_callee (f := 72) rfl ?_); refine goesL_ (some 6) rfl rfl Try.func72 (by kernel_rfl) rfl #[.int .i64 a0] rfl (by (try simp only [List.map_toArray, List.map_cons, List.map_nil]); first | done | rfl | (simp only [List.length_drop, List.length_take]; rfl)) ?_; (with_reducible refine (cmp_isNaN_int.calls a0 true _ A3.out).mono ?_); rintro e w' ⟨rfl, ⟨nd, rfl⟩⟩; refine ⟨_, rfl, ?_⟩) | (go_at_call 72; (with_reducible refine (cmp_isNaN_int.calls a1 false _ A5.out).mono ?_); rintro e w' ⟨rfl, ⟨nd, rfl⟩⟩))
      go_ret
      exact ⟨by first | rfl | (simp; done) | (simp [*]; done), by repeat (first | exact Drawn0.refl _ | apply Drawn0.step)⟩
  · replace c4 := Bool.eq_false_iff.mpr c4
    subst c4
    have H1 : (some (decide (a0 < a1))) = some r := by rw [if_neg (show ¬ (false = true) by decide)] at H; exact H
    clear H
    have H := H1
    clear H1
    obtain rfl := Option.some.inj H
    go_enter Try.func68, Try.ntmps68
    go_wp2_with (first | ((with_reducible refine gate_callee (f := 72) rfl ?_); refine goesL_ (some 6) rfl rfl Try.func72 (by kernel_rfl) rfl #[.int .i64 a0] rfl (by (try simp only [List.map_toArray, List.map_cons, List.map_nil]); first | done | rfl | (simp only [List.length_drop, List.length_take]; rfl)) ?_; (with_reducible refine (cmp_isNaN_int.calls a0 false _ A3.out).mono ?_); rintro e w' ⟨rfl, ⟨nd, rfl⟩⟩; refine ⟨_, rfl, ?_⟩))
    go_ret
    exact ⟨by first | rfl | (simp; done) | (simp [*]; done), by repeat (first | exact Drawn0.refl _ | apply Drawn0.step)⟩
def slices_IsSorted_int_int.l0 : Nat → List Int → Int → Option (Bool)
  | 0, _, _ => none
  | k + 1, x0, x3 => if x3 > 0 then (if 0 ≤ x3 then (if x3 < (x0.length : Int) then (if 0 ≤ (wrap64 (x3 - 1)) then (if (wrap64 (x3 - 1)) < (x0.length : Int) then ((cmp_Less_int.f (rd x0 x3) (rd x0 (wrap64 (x3 - 1)))).bind fun t140 => (if t140 = true then (some false) else (slices_IsSorted_int_int.l0 k x0 (wrap64 (x3 - 1))))) else (none)) else (none)) else (none)) else (none)) else (some true)
def slices_IsSorted_int_int.f (k : Nat) (l0 : List Int) : Option (Bool) := slices_IsSorted_int_int.l0 k l0 (wrap64 ((l0.length : Int) - 1))
theorem slices_IsSorted_int_int.mono_l : ∀ k, (∀ y0 y1, LeO (slices_IsSorted_int_int.l0 k y0 y1) (slices_IsSorted_int_int.l0 (k + 1) y0 y1))
  | 0 => fun _ _ r h => by simp [slices_IsSorted_int_int.l0] at h
  | k + 1 => by
    have ih0 := slices_IsSorted_int_int.mono_l k
    · intro y0 y1
      unfold slices_IsSorted_int_int.l0
      repeat' first
      | (with_reducible exact ih0 _ _)
      | (with_reducible exact LeO.refl _)
      | (with_reducible exact LeO.none _)
      | (with_reducible refine LeO.ite ?_ ?_)
      | (with_reducible refine LeO.bind ?_ (fun _ => ?_))
      | exact ih0 _ _
      | exact LeO.none _
      | refine LeO.ite ?_ ?_
      | refine LeO.bind ?_ (fun _ => ?_)
theorem slices_IsSorted_int_int.mono : ∀ a0 k, LeO (slices_IsSorted_int_int.f k a0) (slices_IsSorted_int_int.f (k + 1) a0) := by
  intro a0 k
  have ih0 := slices_IsSorted_int_int.mono_l k
  unfold slices_IsSorted_int_int.f
  repeat' first
      | (with_reducible exact ih0 _ _)
      | (with_reducible exact LeO.refl _)
      | (with_reducible exact LeO.none _)
      | (with_reducible refine LeO.ite ?_ ?_)
      | (with_reducible refine LeO.bind ?_ (fun _ => ?_))
      | exact ih0 _ _
      | exact LeO.none _
      | refine LeO.ite ?_ ?_
      | refine LeO.bind ?_ (fun _ => ?_)
set_option maxHeartbeats 8000000 in
set_option maxRecDepth 100000 in
theorem slices_IsSorted_int_int.calls (k : Nat) (A0 : Option Addr) (c0 : Nat) (l0 : List Int) (r : Bool) (w : World) (hr0 : Kd.C (Kd.int .i64) w A0 l0.length l0) (hc0 : l0.length ≤ c0) (h : slices_IsSorted_int_int.f k l0 = some r) :
    Calls Try.prog 53 #[.slice A0 l0.length c0] w fun e w' => e = .returned (.bool r) ∧ Drawn0 w w' := by
  have HR0 := Aside0.mk hr0
  have HC0 := Aside0.mk hc0
  clear hr0 hc0
  have H : (slices_IsSorted_int_int.l0 k l0 (wrap64 ((l0.length : Int) - 1))) = some r := h
  clear h
  have H' := Aside0.mk H
  clear H
  go_enter Try.func53, Try.ntmps53
  go_wp2
  repeat (go_quiet (fail); try go_wp2)
  go_loopg [3] k (fun kq v3 w' => ∃ (x3_1 : Int), v3 = .int .i64 x3_1 ∧ Aside0 (slices_IsSorted_int_int.l0 kq l0 x3_1 = some r) ∧ Aside0 (kq ≤ k) ∧ Drawn0 w w')
  case atStart => exact ⟨(wrap64 ((l0.length : Int) - 1)), (by first | rfl | (simp; done) | (simp [*]; done)), H', ⟨Nat.le_refl _⟩, by repeat (first | exact Drawn0.refl _ | apply Drawn0.step)⟩
  case round =>
    clear H'
    obtain ⟨x3_1, rfl, HA, HK1, ⟨m1, rfl⟩⟩ := hrel
    cases gk with
    | zero => exact absurd HA.out (by simp [slices_IsSorted_int_int.l0])
    | succ k1 =>
      have H := HA.out
      clear HA
      simp only [slices_IsSorted_int_int.l0] at H
      by_cases c2 : x3_1 > 0
      · rw [if_pos c2] at H
        have c2b0 : decide (0 < x3_1) = true := decide_eq_true c2
        clear c2
        by_cases c3 : 0 ≤ x3_1
        · rw [if_pos c3] at H
          have c3b0 : decide (0 ≤ x3_1) = true := decide_eq_true c3
          clear c3
          by_cases c4 : x3_1 < (l0.length : Int)
          · rw [if_pos c4] at H
            have c4b0 : decide (x3_1 < (l0.length : Int)) = true := decide_eq_true c4
            clear c4
            obtain ⟨ji5, hji5⟩ : ∃ j_ : Int, (wrap64 (x3_1 - 1)) = j_ := ⟨_, rfl⟩
            replace H : (if 0 ≤ (ji5) then (if (ji5) < (l0.length : Int) then ((cmp_Less_int.f (rd l0 x3_1) (rd l0 (ji5))).bind fun t140 => (if t140 = true then (some false) else (slices_IsSorted_int_int.l0 k1 l0 ji5))) else (none)) else (none)) = some r := by first | (rw [hji5] at H; exact H) | (simp only [hji5] at H ⊢; exact H)
            have hji5w : (IntKind.i64.wrap (x3_1 - 1)) = ji5 := (i64_w _).trans hji5
            by_cases c6 : 0 ≤ (ji5)
            · rw [if_pos c6] at H
              have c6b0 : decide (0 ≤ (ji5)) = true := decide_eq_true c6
              clear c6
              by_cases c7 : (ji5) < (l0.length : Int)
              · rw [if_pos c7] at H
                have c7b0 : decide ((ji5) < (l0.length : Int)) = true := decide_eq_true c7
                clear c7
                replace H := Option.bind_eq_some_iff.mp H
                obtain ⟨t140, A80, H⟩ := H
                replace H : (if t140 = true then (some false) else (slices_IsSorted_int_int.l0 k1 l0 ji5)) = some r := H
                have A8 := Aside0.mk A80
                clear A80
                by_cases c9 : t140 = true
                · subst c9
                  have H1 : (some false) = some r := by rw [if_pos rfl] at H; exact H
                  clear H
                  have H := H1
                  clear H1
                  obtain rfl := Option.some.inj H
                  have p138 : 0 ≤ (x3_1 : Int) := of_decide_eq_true (by first | (with_reducible assumption) | assumption)
                  have q138 : x3_1 < (l0.length : Int) := of_decide_eq_true (by first | (with_reducible assumption) | assumption)
                  obtain ⟨ad138, e138, hx138_0⟩ := Kd.at_int HR0.out x3_1 p138 q138
                  cases e138
                  replace p138 := eq_true p138
                  replace q138 := eq_true q138
                  have p139 : 0 ≤ ((ji5) : Int) := of_decide_eq_true (by first | (with_reducible assumption) | assumption)
                  have q139 : (ji5) < (l0.length : Int) := of_decide_eq_true (by first | (with_reducible assumption) | assumption)
                  obtain ⟨ad139, e139, hx139_0⟩ := Kd.at_int HR0.out (ji5) p139 q139
                  obtain rfl : ad138 = ad139 := (by injection e139)
                  replace p139 := eq_true p139
                  replace q139 := eq_true q139
                  go_wp2_with (first | (go_at_call 68; (with_reducible refine (cmp_Less_int.calls (rd l0 x3_1) (rd l0 (ji5)) true _ A8.out).mono ?_); rintro e w' ⟨rfl, ⟨nd, rfl⟩⟩; (try first | exact ⟨rfl, _, World.drewN_drewN _ _ _⟩ | exact ⟨rfl, _, Eq.trans (World.drewN_drewN _ _ _) (congrArg (World.drewN _) (Nat.add_assoc _ _ _))⟩)))
                  repeat (go_quiet (first | (go_at_call 68; (with_reducible refine (cmp_Less_int.calls (rd l0 x3_1) (rd l0 (ji5)) true _ A8.out).mono ?_); rintro e w' ⟨rfl, ⟨nd, rfl⟩⟩; (try first | exact ⟨rfl, _, World.drewN_drewN _ _ _⟩ | exact ⟨rfl, _, Eq.trans (World.drewN_drewN _ _ _) (congrArg (World.drewN _) (Nat.add_assoc _ _ _))⟩))); try go_wp2_with (first | (go_at_call 68; (with_reducible refine (cmp_Less_int.calls (rd l0 x3_1) (rd l0 (ji5)) true _ A8.out).mono ?_); rintro e w' ⟨rfl, ⟨nd, rfl⟩⟩; (try first | exact ⟨rfl, _, World.drewN_drewN _ _ _⟩ | exact ⟨rfl, _, Eq.trans (World.drewN_drewN _ _ _) (congrArg (World.drewN _) (Nat.add_assoc _ _ _))⟩))))
                  go_ret
                  exact ⟨by first | rfl | (simp; done) | (simp only [← hji5] <;> (first | rfl | simp)) | (simp [*]; done), by repeat (first | exact Drawn0.refl _ | apply Drawn0.step)⟩
                · replace c9 := Bool.eq_false_iff.mpr c9
                  subst c9
                  have H1 : (slices_IsSorted_int_int.l0 k1 l0 ji5) = some r := by rw [if_neg (show ¬ (false = true) by decide)] at H; exact H
                  clear H
                  have H := H1
                  clear H1
                  have H' := Aside0.mk H
                  clear H
                  have p138 : 0 ≤ (x3_1 : Int) := of_decide_eq_true (by first | (with_reducible assumption) | assumption)
                  have q138 : x3_1 < (l0.length : Int) := of_decide_eq_true (by first | (with_reducible assumption) | assumption)
                  obtain ⟨ad138, e138, hx138_0⟩ := Kd.at_int HR0.out x3_1 p138 q138
                  cases e138
                  replace p138 := eq_true p138
                  replace q138 := eq_true q138
                  have p139 : 0 ≤ ((ji5) : Int) := of_decide_eq_true (by first | (with_reducible assumption) | assumption)
                  have q139 : (ji5) < (l0.length : Int) := of_decide_eq_true (by first | (with_reducible assumption) | assumption)
                  obtain ⟨ad139, e139, hx139_0⟩ := Kd.at_int HR0.out (ji5) p139 q139
                  obtain rfl : ad138 = ad139 := (by injection e139)
                  replace p139 := eq_true p139
                  replace q139 := eq_true q139
                  go_wp2_with (first | (go_at_call 68; (with_reducible refine (cmp_Less_int.calls (rd l0 x3_1) (rd l0 (ji5)) false _ A8.out).mono ?_); rintro e w' ⟨rfl, ⟨nd, rfl⟩⟩; (try first | exact ⟨rfl, _, World.drewN_drewN _ _ _⟩ | exact ⟨rfl, _, Eq.trans (World.drewN_drewN _ _ _) (congrArg (World.drewN _) (Nat.add_assoc _ _ _))⟩)))
                  repeat (go_quiet (first | (go_at_call 68; (with_reducible refine (cmp_Less_int.calls (rd l0 x3_1) (rd l0 (ji5)) false _ A8.out).mono ?_); rintro e w' ⟨rfl, ⟨nd, rfl⟩⟩; (try first | exact ⟨rfl, _, World.drewN_drewN _ _ _⟩ | exact ⟨rfl, _, Eq.trans (World.drewN_drewN _ _ _) (congrArg (World.drewN _) (Nat.add_assoc _ _ _))⟩))); try go_wp2_with (first | (go_at_call 68; (with_reducible refine (cmp_Less_int.calls (rd l0 x3_1) (rd l0 (ji5)) false _ A8.out).mono ?_); rintro e w' ⟨rfl, ⟨nd, rfl⟩⟩; (try first | exact ⟨rfl, _, World.drewN_drewN _ _ _⟩ | exact ⟨rfl, _, Eq.trans (World.drewN_drewN _ _ _) (congrArg (World.drewN _) (Nat.add_assoc _ _ _))⟩))))
                  go_roundg k1
                  case measure => have := HK1.out; omega
                  case rel => exact ⟨(ji5), (by first | rfl | (simp; done) | (simp only [← hji5] <;> (first | rfl | simp)) | (simp [*]; done)), (by first | exact H' | (rw [hji5]; exact H') | (rw [← hji5]; exact H')), ⟨by have := HK1.out; omega⟩, by repeat (first | exact Drawn0.refl _ | apply Drawn0.step)⟩
              · rw [if_neg c7] at H
                exact absurd H (by simp)
            · rw [if_neg c6] at H
              exact absurd H (by simp)
          · rw [if_neg c4] at H
            exact absurd H (by simp)
        · rw [if_neg c3] at H
          exact absurd H (by simp)
      · rw [if_neg c2] at H
        have c2b0 : decide (0 < x3_1) = false := decide_eq_false c2
        clear c2
        obtain rfl := Option.some.inj H
        go_wp2
        repeat (go_quiet (fail); try go_wp2)
        go_ret
        exact ⟨by first | rfl | (simp; done) | (simp [*]; done), by repeat (first | exact Drawn0.refl _ | apply Drawn0.step)⟩
def impl_isSorted.f (k : Nat) (l0 : List Int) : Option (Bool) := (slices_IsSorted_int_int.f k l0).bind fun t141 => (some t141)
theorem impl_isSorted.mono : ∀ a0 k, LeO (impl_isSorted.f k a0) (impl_isSorted.f (k + 1) a0) := by
  intro a0 k
  unfold impl_isSorted.f
  repeat' first
      | (with_reducible exact slices_IsSorted_int_int.mono _ _)
      | (with_reducible exact LeO.refl _)
      | (with_reducible exact LeO.none _)
      | (with_reducible refine LeO.ite ?_ ?_)
      | (with_reducible refine LeO.bind ?_ (fun _ => ?_))
      | exact slices_IsSorted_int_int.mono _ _
      | exact LeO.none _
      | refine LeO.ite ?_ ?_
      | refine LeO.bind ?_ (fun _ => ?_)
set_option maxHeartbeats 8000000 in
set_option maxRecDepth 100000 in
theorem impl_isSorted.calls (k : Nat) (A0 : Option Addr) (c0 : Nat) (l0 : List Int) (r : Bool) (w : World) (hr0 : Kd.C (Kd.int .i64) w A0 l0.length l0) (hc0 : l0.length ≤ c0) (h : impl_isSorted.f k l0 = some r) :
    Calls Try.prog 29 #[.slice A0 l0.length c0] w fun e w' => e = .returned (.bool r) ∧ Drawn0 w w' := by
  have HR0 := Aside0.mk hr0
  have HC0 := Aside0.mk hc0
  clear hr0 hc0
  have H : ((slices_IsSorted_int_int.f k l0).bind fun t141 => (some t141)) = some r := h
  clear h
  replace H := Option.bind_eq_some_iff.mp H
  obtain ⟨t141, A20, H⟩ := H
  replace H : (some t141) = some r := H
  have A2 := Aside0.mk A20
  clear A20
  obtain rfl := Option.some.inj H
  go_enter Try.func29, Try.ntmps29
  go_wp2_with (first | ((with_reducible refine gate_callee (f := 53) rfl ?_); refine goesL_ (some 4) rfl rfl Try.func53 (by kernel_rfl) rfl #[.slice A0 l0.length c0] rfl (by (try simp only [List.map_toArray, List.map_cons, List.map_nil]); first | done | rfl | (simp only [List.length_drop, List.length_take]; rfl)) ?_; (with_reducible refine (slices_IsSorted_int_int.calls k _ _ l0 t141 _ ?side1 ?side2 A2.out).mono ?_); (case side1 => repeat (first | exact HR0.out | (with_reducible refine Kd.C_alloc ?_ _) | (with_reducible refine Kd.C_drewN ?_ _) | (with_reducible refine Kd.C_drew ?_))); (case side2 => exact HC0.out); rintro e w' ⟨rfl, ⟨nd, rfl⟩⟩; refine ⟨_, rfl, ?_⟩))
  go_ret
  exact ⟨by first | rfl | (simp; done) | (simp [*]; done), by repeat (first | exact Drawn0.refl _ | apply Drawn0.step)⟩
def impl_LongestRise.f (k : Nat) (l0 : List Int) : Option (List Int × Bool) := (impl_isOrder.f k l0).bind fun t => if t = true then (impl_longest.f (fun k l => impl_isSorted.f k l) k l0).bind fun q => some (q, true) else some ([], false)
theorem impl_LongestRise.mono : ∀ a0 k, LeO (impl_LongestRise.f k a0) (impl_LongestRise.f (k + 1) a0) := fun _ _ => LeO.bind (impl_isOrder.mono _ _) (fun _ => LeO.ite (LeO.bind (impl_longest.mono _ (fun l k => impl_isSorted.mono l k) _ _) (fun _ => LeO.refl _)) (LeO.refl _))
set_option maxHeartbeats 8000000 in
set_option maxRecDepth 100000 in
theorem impl_LongestRise.calls (k : Nat) (A0 : Option Addr) (c0 : Nat) (l0 : List Int) (r1 : List Int) (r2 : Bool) (w : World) (hr0 : Kd.C (Kd.int .i64) w A0 l0.length l0) (hc0 : l0.length ≤ c0) (h : impl_LongestRise.f k l0 = some (r1, r2)) :
    Calls Try.prog 6 #[.slice A0 l0.length c0] w fun e w' => ∃ v0_ : Value, e = .returned (.tuple #[v0_, .bool r2]) ∧ Kd.R (Kd.int .i64) 3 w' w.heap.size (fun _ => True) v0_ r1 ∧ Below w.heap.size w w' := by
  have HR0 := Aside0.mk hr0
  have HC0 := Aside0.mk hc0
  unfold impl_LongestRise.f at h
  obtain ⟨t, h1, H⟩ := Option.bind_eq_some_iff.1 h
  have A2 := Aside0.mk h1
  clear hr0 hc0 h h1
  cases t with
  | false =>
    rw [if_neg (by simp)] at H
    obtain ⟨rfl, rfl⟩ := Prod.mk.inj (Option.some.inj H)
    clear H
    go_enter Try.func6, Try.ntmps6
    (repeat ((fail_if_success (with_reducible refine gate_dst (N := 5) rfl ?_)); first | go_values | go_skip | go_guarded | go_step | go_upon))
    refine goesL_ (some 5) rfl rfl Try.func27 (by kernel_rfl) rfl #[.slice A0 l0.length c0] rfl (by (try simp only [List.map_toArray, List.map_cons, List.map_nil]); first | done | rfl) ?_
    refine (impl_isOrder.calls k A0 c0 l0 _ w HR0.out HC0.out A2.out).mono ?_
    rintro e wS ⟨rfl, hdr⟩
    refine ⟨_, rfl, ?_⟩
    have HB := Aside0.mk hdr.below
    clear hdr
    go_wp2
    go_ret2
    exact ⟨_, rfl, Kd.R_nil _ _ _ _ _, HB.out⟩
  | true =>
    rw [if_pos rfl] at H
    obtain ⟨q, h1, H2⟩ := Option.bind_eq_some_iff.1 H
    have A3 := Aside0.mk h1
    obtain ⟨rfl, rfl⟩ := Prod.mk.inj (Option.some.inj H2)
    clear H H2 h1
    go_enter Try.func6, Try.ntmps6
    (repeat ((fail_if_success (with_reducible refine gate_dst (N := 5) rfl ?_)); first | go_values | go_skip | go_guarded | go_step | go_upon))
    refine goesL_ (some 5) rfl rfl Try.func27 (by kernel_rfl) rfl #[.slice A0 l0.length c0] rfl (by (try simp only [List.map_toArray, List.map_cons, List.map_nil]); first | done | rfl) ?_
    refine (impl_isOrder.calls k A0 c0 l0 _ w HR0.out HC0.out A2.out).mono ?_
    rintro e wS ⟨rfl, hdr⟩
    refine ⟨_, rfl, ?_⟩
    have HB := Aside0.mk hdr.below
    clear hdr
    (repeat ((fail_if_success (with_reducible refine gate_dst (N := 8) rfl ?_)); first | go_values | go_skip | go_guarded | go_step | go_upon))
    refine goesL_ (some 8) rfl rfl Try.func28 (by kernel_rfl) rfl #[.slice A0 l0.length c0, .func (.func 29) #[] #[]] rfl (by (try simp only [List.map_toArray, List.map_cons, List.map_nil]); first | done | rfl) ?_
    refine (impl_longest.calls 29 (fun k l => impl_isSorted.f k l) (enters_of Try.func29 (by kernel_rfl) rfl) (fun k A c l b W h1 h2 h3 => (impl_isSorted.calls k A c l b W h1 h2 h3).mono (fun e W' h_ => ⟨h_.1, h_.2.below⟩)) k A0 c0 l0 q wS (Kd.C_below HR0.out HB.out) HC0.out A3.out).mono ?_
    rintro e wP ⟨v_, rfl, ho_, hb_⟩
    refine ⟨_, rfl, ?_⟩
    obtain ⟨Av, cv, ev⟩ := Kd.R_slice ho_
    subst ev
    have HS := Aside0.mk (Kd.R_lower ho_ HB.out.size)
    have nB := Aside0.mk (below_step HB.out hb_)
    clear HB hb_ ho_
    go_wp2
    go_ret2
    exact ⟨_, rfl, HS.out, nB.out⟩
def spec_l1In.f (a0 : Int) (a1 : Int) (a2 : Int) : Option (Bool) := if a0 ≥ a1 then (some (decide (a0 ≤ a2))) else (some false)
set_option maxHeartbeats 8000000 in
set_option maxRecDepth 100000 in
theorem spec_l1In.calls (a0 : Int) (a1 : Int) (a2 : Int) (r : Bool) (w : World) (h : spec_l1In.f a0 a1 a2 = some r) :
    Calls Try.prog 37 #[.int .i64 a0, .int .i64 a1, .int .i64 a2] w fun e w' => e = .returned (.bool r) ∧ Drawn0 w w' := by
  have H : (if a0 ≥ a1 then (some (decide (a0 ≤ a2))) else (some false)) = some r := h
  clear h
  by_cases c4 : a0 ≥ a1
  · rw [if_pos c4] at H
    have c4b0 : decide (a1 ≤ a0) = true := decide_eq_true c4
    clear c4
    obtain rfl := Option.some.inj H
    go_enter Try.func37, Try.ntmps37
    go_wp2
    go_ret
    exact ⟨by first | rfl | (simp; done) | (simp [*]; done), by repeat (first | exact Drawn0.refl _ | apply Drawn0.step)⟩
  · rw [if_neg c4] at H
    have c4b0 : decide (a1 ≤ a0) = false := decide_eq_false c4
    clear c4
    obtain rfl := Option.some.inj H
    go_enter Try.func37, Try.ntmps37
    go_wp2
    go_ret
    exact ⟨by first | rfl | (simp; done) | (simp [*]; done), by repeat (first | exact Drawn0.refl _ | apply Drawn0.step)⟩
def spec_l1Has.l0 : Nat → List Int → Int → Int → Option (Bool)
  | 0, _, _, _ => none
  | k + 1, x0, x1, x5 => if x5 < (x0.length : Int) then (if 0 ≤ x5 then (if (rd x0 x5) = x1 then (some true) else (spec_l1Has.l0 k x0 x1 (wrap64 (x5 + 1)))) else (none)) else (some false)
def spec_l1Has.f (k : Nat) (l0 : List Int) (a1 : Int) : Option (Bool) := spec_l1Has.l0 k l0 a1 0
theorem spec_l1Has.mono_l : ∀ k, (∀ y0 y1 y2, LeO (spec_l1Has.l0 k y0 y1 y2) (spec_l1Has.l0 (k + 1) y0 y1 y2))
  | 0 => fun _ _ _ r h => by simp [spec_l1Has.l0] at h
  | k + 1 => by
    have ih0 := spec_l1Has.mono_l k
    · intro y0 y1 y2
      unfold spec_l1Has.l0
      repeat' first
      | (with_reducible exact ih0 _ _ _)
      | (with_reducible exact LeO.refl _)
      | (with_reducible exact LeO.none _)
      | (with_reducible refine LeO.ite ?_ ?_)
      | (with_reducible refine LeO.bind ?_ (fun _ => ?_))
      | exact ih0 _ _ _
      | exact LeO.none _
      | refine LeO.ite ?_ ?_
      | refine LeO.bind ?_ (fun _ => ?_)
theorem spec_l1Has.mono : ∀ a0 a1 k, LeO (spec_l1Has.f k a0 a1) (spec_l1Has.f (k + 1) a0 a1) := by
  intro a0 a1 k
  have ih0 := spec_l1Has.mono_l k
  unfold spec_l1Has.f
  repeat' first
      | (with_reducible exact ih0 _ _ _)
      | (with_reducible exact LeO.refl _)
      | (with_reducible exact LeO.none _)
      | (with_reducible refine LeO.ite ?_ ?_)
      | (with_reducible refine LeO.bind ?_ (fun _ => ?_))
      | exact ih0 _ _ _
      | exact LeO.none _
      | refine LeO.ite ?_ ?_
      | refine LeO.bind ?_ (fun _ => ?_)
set_option maxHeartbeats 8000000 in
set_option maxRecDepth 100000 in
theorem spec_l1Has.calls (k : Nat) (A0 : Option Addr) (c0 : Nat) (l0 : List Int) (a1 : Int) (r : Bool) (w : World) (hr0 : Kd.C (Kd.int .i64) w A0 l0.length l0) (hc0 : l0.length ≤ c0) (h : spec_l1Has.f k l0 a1 = some r) :
    Calls Try.prog 54 #[.slice A0 l0.length c0, .int .i64 a1] w fun e w' => e = .returned (.bool r) ∧ Drawn0 w w' := by
  have HR0 := Aside0.mk hr0
  have HC0 := Aside0.mk hc0
  clear hr0 hc0
  have H : (spec_l1Has.l0 k l0 a1 0) = some r := h
  clear h
  have H' := Aside0.mk H
  clear H
  go_enter Try.func54, Try.ntmps54
  go_wp2
  go_loopg [5] k (fun kq v5 w' => ∃ (x5_1 : Int), v5 = .int .i64 x5_1 ∧ Aside0 (spec_l1Has.l0 kq l0 a1 x5_1 = some r) ∧ Aside0 (kq ≤ k) ∧ Drawn0 w w')
  case atStart => exact ⟨(0), (by first | rfl | (simp; done) | (simp [*]; done)), H', ⟨Nat.le_refl _⟩, by repeat (first | exact Drawn0.refl _ | apply Drawn0.step)⟩
  case round =>
    clear H'
    try clear p2
    obtain ⟨x5_1, rfl, HA, HK1, ⟨m1, rfl⟩⟩ := hrel
    cases gk with
    | zero => exact absurd HA.out (by simp [spec_l1Has.l0])
    | succ k1 =>
      have H := HA.out
      clear HA
      simp only [spec_l1Has.l0] at H
      by_cases c3 : x5_1 < (l0.length : Int)
      · rw [if_pos c3] at H
        have c3b0 : decide (x5_1 < (l0.length : Int)) = true := decide_eq_true c3
        clear c3
        by_cases c4 : 0 ≤ x5_1
        · rw [if_pos c4] at H
          have c4b0 : decide (0 ≤ x5_1) = true := decide_eq_true c4
          clear c4
          by_cases c5 : (rd l0 x5_1) = a1
          · rw [if_pos c5] at H
            have c5b0 : ((rd l0 x5_1) == a1) = true := beq_iff_eq.mpr c5
            have c5b1 : ((rd l0 x5_1) != a1) = false := bne_eq_false_iff_eq.mpr c5
            clear c5
            obtain rfl := Option.some.inj H
            have p142 : 0 ≤ (x5_1 : Int) := of_decide_eq_true (by first | (with_reducible assumption) | assumption)
            have q142 : x5_1 < (l0.length : Int) := of_decide_eq_true (by first | (with_reducible assumption) | assumption)
            obtain ⟨ad142, e142, hx142_0⟩ := Kd.at_int HR0.out x5_1 p142 q142
            cases e142
            replace p142 := eq_true p142
            replace q142 := eq_true q142
            go_wp2
            go_ret
            exact ⟨by first | rfl | (simp; done) | (simp [*]; done), by repeat (first | exact Drawn0.refl _ | apply Drawn0.step)⟩
          · rw [if_neg c5] at H
            have c5b0 : ((rd l0 x5_1) == a1) = false := beq_eq_false_iff_ne.mpr c5
            have c5b1 : ((rd l0 x5_1) != a1) = true := bne_iff_ne.mpr c5
            have H' := Aside0.mk H
            clear H
            have p142 : 0 ≤ (x5_1 : Int) := of_decide_eq_true (by first | (with_reducible assumption) | assumption)
            have q142 : x5_1 < (l0.length : Int) := of_decide_eq_true (by first | (with_reducible assumption) | assumption)
            obtain ⟨ad142, e142, hx142_0⟩ := Kd.at_int HR0.out x5_1 p142 q142
            cases e142
            replace p142 := eq_true p142
            replace q142 := eq_true q142
            go_wp2
            go_roundg k1
            case measure => have := HK1.out; omega
            case rel => exact ⟨(wrap64 (x5_1 + 1)), (by first | rfl | (simp; done) | (simp [*]; done)), H', ⟨by have := HK1.out; omega⟩, by repeat (first | exact Drawn0.refl _ | apply Drawn0.step)⟩
        · rw [if_neg c4] at H
          exact absurd H (by simp)
      · rw [if_neg c3] at H
        have c3b0 : decide (x5_1 < (l0.length : Int)) = false := decide_eq_false c3
        clear c3
        obtain rfl := Option.some.inj H
        go_wp2
        go_ret
        exact ⟨by first | rfl | (simp; done) | (simp [*]; done), by repeat (first | exact Drawn0.refl _ | apply Drawn0.step)⟩
end Go.Proofs.Ytidiondgfoolbaa.PFnQueues
