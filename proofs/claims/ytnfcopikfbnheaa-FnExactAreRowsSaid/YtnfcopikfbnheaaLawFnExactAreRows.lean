-- laid by mkprint.py, a program of this claim's writer, over the kit's print program; parts of it are typed by hand
import Derived.Test.YtnfcopikfbnheaaRows
import Derived.Test.YtnfcopikfbnheaaPFnExactAreRowsx6
import Derived.Test.YtnfcopikfbnheaaPureFnExactAreRows
import Derived.Deep.Matrix
import Derived.WalkKit
import Derived.ProofKit
import Derived.OpenShut
import Derived.ShutString
import Derived.ChangeOld
import Derived.Below
import Derived.SizedLaws
import Derived.Test.YtnfcopikfbnheaaWSized
namespace Go.Proofs.Ytnfcopikfbnheaa.fnExactAreRows
open Go.ChangeShapes Go.WideShapes Go.ChangeAt Go.RowKit
open Go.ChangeMaps (open_string shut_string)
open Go.Proofs.YtnfcopikfbnheaaW
set_option linter.unusedVariables false
set_option linter.unusedSimpArgs false
theorem own : ownKnob Try.prog.godebug = none := by kernel_rfl
theorem laidOut : laidOutB Try.prog = true := by kernel_rfl
set_option maxRecDepth 100000 in
theorem lifted (os : Os) (started : os.Started) (H : Type) (enc : TypeId × Value → H) :
    ReturnsInHanded {} Try.checked os 5 .any (Rows.fnExactAreRowsSpec.pre6 enc Try.prog Try.f5 Rows.fnExactAreRowsRow.domain false) (Rows.fnExactAreRowsSpec.post enc Try.prog Try.f5 false true false false) := by
  refine returnsInHanded_of_change_sized (C := Try.checked) own started (by kernel_rfl) Try.func5
    (ChangeSpec.witness6 (enc := enc) (C := Try.checked) false ⟨#[], #[.slice none 0 0], []⟩ 8 (by kernel_rfl) (by kernel_rfl) (by kernel_rfl) (by kernel_rfl)) ?_
  intro W base args ds gs before hval0 hW hcnd hsz0 _
  have hsz : (DataW.weightsEach Try.prog (Try.f5.params.toList ++ Rows.fnExactAreRowsSpec.plain.varTypes Try.prog) (ds ++ gs)).all (· ≤ reachBytes) = true := hsz0
  have hval : ∀ (j : Nat) t v, Try.f5.params[j]? = some t → args[j]? = some v → Value.okWide Try.prog W .any base t v := hval0
  have hW' := hW
  obtain ⟨p, q, hA0, hV, rfl, hfz, hnd⟩ := hW
  have hA : DataW.TrodAll enc Try.prog W 0 (fun _ => true) true Try.f5.params.toList args.toList ds p := hA0
  rw [Try.params5] at hA hval hsz
  obtain ⟨v0, vs0, d0, ds0, p0, q0, hargs, rfl, rfl, h0, r0⟩ := trodAll_cons hA
  obtain ⟨rfl, rfl, rfl⟩ := trodAll_nil r0
  obtain rfl : args = #[v0] := by cases args; simp_all
  obtain ⟨rfl, rfl⟩ := trodVars_none hV
  obtain ⟨a0, len0, cap0, rfl⟩ := okWide_slice Try.underlying26 (hval 0 26 v0 rfl rfl)
  have k0 := h0
  have lt0 : ∀ x ∈ p0, x.block < W.heap.size := by obtain ⟨m, hm⟩ := k0; exact DataW.trod_lt m _ _ _ hm
  obtain ⟨l0, rfl, hc0, hm0, hr0, hk0⟩ : ∃ l : List (List Int), len0 = l.length ∧ PrintWords.Kd.C (PrintWords.Kd.slice 3 (PrintWords.Kd.int .i64)) W a0 l.length l ∧ l.length ≤ 9223372036854775807 ∧ (∀ r ∈ l, r.length ≤ 9223372036854775807) ∧ l.length ≤ cap0 := by
    have mx : maxLen = 9223372036854775807 := by decide
    obtain ⟨fuel, hf⟩ := h0
    rcases Go.Deep.open_int_rows Try.underlying26 Try.underlying25 Try.underlying3 (by kernel_rfl) (by kernel_rfl) hf with ⟨hcs, _⟩ | ⟨x, l, c, A, L, C, Z, hcs, _, hl, hm, _, hcell⟩
    · simp [Value.cells] at hcs
      obtain ⟨rfl, rfl, rfl⟩ := hcs
      exact ⟨[], rfl, ⟨rfl, by simp, fun h => absurd h (by simp)⟩, by simp, by simp, by simp⟩
    · simp [Value.cells] at hcs
      obtain ⟨rfl, rfl, rfl⟩ := hcs
      have len_ : ∀ r, r < len0 → ((Z r).take (L r)).length = L r := fun r hr => by
        obtain ⟨_, h1, _, h2, _⟩ := hcell r (by omega)
        rw [List.length_take]; omega
      refine ⟨(List.range len0).map fun r => (Z r).take (L r), by simp, ⟨rfl, by simp; omega, fun _ => ⟨x, rfl, fun j p hj => ?_⟩⟩, by simp; omega, fun r hr => ?_, by simpa using hl⟩
      · obtain ⟨hj1, hj2⟩ := List.getElem?_eq_some_iff.1 hj
        simp only [List.length_map, List.length_range] at hj1
        simp only [List.getElem_map, List.getElem_range] at hj2
        obtain ⟨q1, q2, q3, q4, q5, q6, q7⟩ := hcell j (by omega)
        have hpl : p.length = L j := by rw [← hj2]; exact len_ j hj1
        refine ⟨[.slice (A j) p.length (C j)], rfl, ⟨A j, C j, rfl, by omega, ?_⟩, fun i u hu => ?_⟩
        · refine PrintWords.Kd.C_of_reads (d := (0 : Int)) (h1 := fun _ => rfl) ⟨rfl, by omega, fun hp => ?_⟩
          obtain ⟨ad, had⟩ : ∃ ad, A j = some ad := by
            cases hA_ : A j with
            | none => have := q6 hA_; omega
            | some ad => exact ⟨ad, rfl⟩
          refine ⟨ad, had, fun c hc => ?_⟩
          rw [(q7 ad had).2 c (by omega), ← hj2]
          have hc' : c < L j := by omega
          simp [List.getD_eq_getElem?_getD, List.getElem?_take, hc']
        · have hi : i = 0 := by
            obtain ⟨hi1, _⟩ := List.getElem?_eq_some_iff.1 hu
            simpa using hi1
          subst hi
          have hu' : Value.slice (A j) p.length (C j) = u := by simpa using hu
          rw [← hu', hpl]
          have e : j * (PrintWords.Kd.slice 3 (PrintWords.Kd.int .i64)).sz + 0 = j := by show j * 1 + 0 = j; omega
          rw [e]
          exact q1
      · obtain ⟨j, hj, rfl⟩ := List.mem_map.1 hr
        have hj' := List.mem_range.1 hj
        rw [len_ j hj']
        obtain ⟨_, h1, h2, _⟩ := hcell j (by omega)
        omega
  clear hA0 hval0 hsz0 hsz
  obtain ⟨k, hk⟩ := Pure.FnExactAreRows l0 hm0 hr0
  refine (PFnExactAreRows.laws_FnExactAreRows.calls k a0 cap0 l0 true W hc0 hk0 hk).mono fun e W' ⟨he, bel⟩ => ?_
  subst he
  exact ⟨_, rfl, _, _, _, [], _, [], hW', trodAll_mk1 (shut_bool Try.underlying4 _), (trodAll_cons_mk (Below.trod laidOut (by kernel_rfl) (of_decide_eq_true (by kernel_rfl)) k0 bel lt0) trodAll_mk0), rfl, bel.frame _, fun h => by cases h⟩
theorem over : Rows.fnExactAreRowsRow.holds Try.pinned (OpenSpec.ofChange Rows.fnExactAreRowsSpec) :=
  OpenClaim.holds_of_wide 5 Try.f5 rfl rfl rfl rfl rfl rfl rfl ⟨rfl, rfl, rfl, rfl, rfl⟩ rfl rfl rfl rfl rfl (by kernel_rfl) Try.func5 (by kernel_rfl)
    (of_decide_eq_true (by kernel_rfl)) (by unfold Func.isWrapper; first | (rw [if_pos (by decide +kernel)]; kernel_rfl) | (rw [if_neg (by decide +kernel)]; exact ⟨rfl, rfl⟩))
    (fun os started H enc _ => lifted os started H enc)
theorem proved : Rows.FnExactAreRowsSaid := over
#print axioms proved
end Go.Proofs.Ytnfcopikfbnheaa.fnExactAreRows
namespace Go.Proofs.Ytnfcopikfbnheaa
/-- The row, under a short name, for the claim. -/
theorem fnExactAreRows_holds : Rows.FnExactAreRowsSaid := fnExactAreRows.proved
end Go.Proofs.Ytnfcopikfbnheaa
