/- Small lemmas for the walks of this claim that are typed by hand. -/
import Derived.Test.YtfoededcgeemcaaWWords
import Derived.IntWalk
import Derived.Lib.Walk
import Derived.Shelf.Abstract
namespace Go.Proofs.YtfoededcgeemcaaW.PrintWords
open Go.RowKit

/-- the first place at which p holds, or -1 -/
def idxF {α : Type} (p : α → Bool) : List α → Int
  | [] => -1
  | x :: l => if p x = true then 0 else if idxF p l < 0 then -1 else idxF p l + 1
theorem idxF_miss (p : Int → Bool) : ∀ l : List Int, (∀ j : Nat, j < l.length → p (l.getD j 0) = false) → idxF p l = -1
  | [], _ => rfl
  | x :: l, h => by
    have h0 : p x = false := by simpa using h 0 (by simp)
    have h1 := idxF_miss p l fun j hj => by simpa using h (j + 1) (by simpa using hj)
    simp [idxF, h0, h1]
theorem idxF_hitN (p : Int → Bool) : ∀ (l : List Int) (i : Nat), i < l.length → p (l.getD i 0) = true → (∀ j : Nat, j < i → p (l.getD j 0) = false) → idxF p l = i
  | [], i, h, _, _ => by simp at h
  | x :: l, 0, h, e, _ => by
    have h0 : p x = true := by simpa using e
    simp [idxF, h0]
  | x :: l, i + 1, h, e, q => by
    have h0 : p x = false := by simpa using q 0 (by omega)
    have h1 := idxF_hitN p l i (by simpa using h) (by simpa using e) fun j hj => by simpa using q (j + 1) (by omega)
    simp only [idxF, h0, h1]
    rw [if_neg (by simp), if_neg (by omega)]
    omega
theorem idxF_hit (p : Int → Bool) (l : List Int) (i : Int) (h0 : 0 ≤ i) (h : i < (l.length : Int)) (e : p (rd l i) = true) (q : ∀ j : Nat, (j : Int) < i → p (l.getD j 0) = false) : idxF p l = i := by
  obtain ⟨n, rfl⟩ := Int.eq_ofNat_of_zero_le h0
  exact idxF_hitN p l n (by omega) e fun j hj => q j (by omega)
theorem idxF_ge {α : Type} (p : α → Bool) (l : List α) : -1 ≤ idxF p l ∧ idxF p l < l.length := by
  induction l with
  | nil => simp [idxF]
  | cons y l ih =>
    simp only [idxF, List.length_cons]
    split
    · omega
    · split <;> omega
theorem idxF_any {α : Type} (p : α → Bool) (l : List α) : decide (0 ≤ idxF p l) = l.any p := by
  induction l with
  | nil => simp [idxF]
  | cons y l ih =>
    have := idxF_ge p l
    rw [List.any_cons, ← ih]
    cases e : p y with
    | true => simp [idxF, e]
    | false =>
      simp only [idxF, e, Bool.false_or]
      rw [if_neg (by simp)]
      split
      · have : ¬ 0 ≤ idxF p l := by omega
        simp [this]
      · have h1 : 0 ≤ idxF p l := by omega
        have h2 : 0 ≤ idxF p l + 1 := by omega
        simp [h1, h2]
end Go.Proofs.YtfoededcgeemcaaW.PrintWords
