/- Small lemmas for the walks of this claim that are typed by hand: the best one of a row of rows. -/
import Derived.Test.YtbnieikbjmfhgaaWWords
import Derived.Test.YtbnieikbjmfhgaaWLast
import Derived.Test.YtbnieikbjmfhgaaWApart
import Derived.Test.YtbnieikbjmfhgaaWKept
import Derived.Test.YtbnieikbjmfhgaaWMore
import Derived.IntWalk
namespace Go.Proofs.YtbnieikbjmfhgaaW.PrintWords
open Go.RowKit Go.Proofs.YtbnieikbjmfhgaaW.PrintLast
def rowOf (xs : List (List Int)) (i : Int) : List Int := xs.getD i.toNat []
def bestL (of_ : List Int → Option Int) (xs : List (List Int)) : Nat → Int → List Int → Int → Option (List Int × Int)
  | 0, _, b, m => some (b, m)
  | d + 1, i, b, m => (of_ (rowOf xs i)).bind fun v => if v > m then bestL of_ xs d (i + 1) (rowOf xs i) v else bestL of_ xs d (i + 1) b m
theorem bestL_mono {f g : List Int → Option Int} (h : ∀ x, LeO (f x) (g x)) (xs : List (List Int)) : ∀ d i b m, LeO (bestL f xs d i b m) (bestL g xs d i b m)
  | 0, _, _, _ => LeO.refl _
  | d + 1, i, b, m => by
    rw [bestL, bestL]
    exact LeO.bind (h _) (fun v => LeO.ite (bestL_mono h xs d _ _ _) (bestL_mono h xs d _ _ _))
theorem rowAt_ {e e' base n c : Nat} {w : World} {A : Option Addr} {xs : List (List Int)} (h : Kd.S (Kd.slice e (Kd.int .i64)) e' w base (fun _ => True) (.slice A n c) xs) (i : Int) (h0 : 0 ≤ i) (hi : i < (xs.length : Int)) :
    ∃ ad A1 c1, A = some ad ∧ w.cell? (ad.add i.toNat) = some (.slice A1 (rowOf xs i).length c1) ∧ (rowOf xs i).length ≤ c1 ∧ Kd.C (Kd.int .i64) w A1 (rowOf xs i).length (rowOf xs i) ∧ Kd.R (Kd.int .i64) e w base (fun _ => True) (.slice A1 (rowOf xs i).length c1) (rowOf xs i) := by
  obtain ⟨hn, _, hC⟩ := Kd.S_reads' h
  subst hn
  obtain ⟨ad, rfl, _⟩ := hC.2.2 (by omega)
  obtain ⟨cs, _, hM, hc⟩ := Kd.S_get h [] i h0 hi
  obtain ⟨v, rfl, hv⟩ := hM
  have hx := hc 0 _ rfl
  rw [Nat.add_zero, show (Kd.slice e (Kd.int .i64)).sz = 1 from rfl, Nat.mul_one] at hx
  have hR := Kd.R_mono (ok' := fun _ => True) hv (fun _ _ => trivial)
  obtain ⟨A1, c1, rfl⟩ := Kd.R_slice hR
  have h2 := Kd.R_reads' hR
  exact ⟨ad, A1, c1, rfl, hx, h2.2.1, h2.2.2, hR⟩
end Go.Proofs.YtbnieikbjmfhgaaW.PrintWords
