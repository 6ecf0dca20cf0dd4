/- A kit of small lemmas of this claim: functions with rounds, 64-bit wraps, lists; no program in sight. -/
import Derived.Test.YtfjbgmemjjjjoaaWWords
import Derived.Test.YtfjbgmemjjjjoaaWMore
import Derived.IntWalk
namespace Go.Proofs.YtfjbgmemjjjjoaaW.PrintWords
open Go.RowKit
theorem Ev.pos {α : Type} {c : Prop} [Decidable c] {a b : Nat → Option α} {r : α} (hc : c) (h : Ev a r) : Ev (fun n => if c then a n else b n) r := by
  simp only [if_pos hc]; exact h
theorem Ev.neg {α : Type} {c : Prop} [Decidable c] {a b : Nat → Option α} {r : α} (hc : ¬ c) (h : Ev b r) : Ev (fun n => if c then a n else b n) r := by
  simp only [if_neg hc]; exact h
theorem Ev.ite {α : Type} {c : Prop} [Decidable c] {a b : Nat → Option α} {r : α} (ha : c → Ev a r) (hb : ¬ c → Ev b r) : Ev (fun n => if c then a n else b n) r := by
  by_cases hc : c
  · exact Ev.pos hc (ha hc)
  · exact Ev.neg hc (hb hc)
theorem Ev.val {α : Type} {r r' : α} (h : r' = r) : Ev (fun _ => some r') r := by subst h; exact Ev.now _
theorem Ev.to {α : Type} {g : Nat → Option α} {r r' : α} (h : Ev g r') (e : r' = r) : Ev g r := e ▸ h
theorem w64 {n : Int} (h : -9223372036854775808 ≤ n ∧ n ≤ 9223372036854775807) : wrap64 n = n := IntWalk.wrap64_in n h
theorem w64n (n : Nat) (h : n ≤ 9223372036854775807) : wrap64 (n : Int) = n := w64 (by omega)
theorem wup (i : Nat) (h : i ≤ 17592186044416) : wrap64 ((i : Int) + 1) = ((i + 1 : Nat) : Int) := by rw [w64 (by omega)]; omega
theorem wdn (i : Nat) (h0 : 0 < i) (h : i ≤ 17592186044416) : wrap64 ((i : Int) - 1) = ((i - 1 : Nat) : Int) := by rw [w64 (by omega)]; omega
def nth (l : List Int) (i : Nat) : Int := l.getD i 0
theorem rd_nat (l : List Int) (i : Nat) : rd l (i : Int) = nth l i := rfl
theorem nth_lt (l : List Int) (i : Nat) (h : i < l.length) : nth l i = l[i] := by simp [nth, h]
theorem drop_step (l : List Int) (i : Nat) (h : i < l.length) : l.drop i = nth l i :: l.drop (i + 1) := by
  rw [nth_lt l i h]; exact List.drop_eq_getElem_cons h
theorem nth_cons_succ (y : Int) (l : List Int) (i : Nat) : nth (y :: l) (i + 1) = nth l i := rfl
def allFrom (p : Nat → Bool) : Nat → Nat → Bool
  | 0, _ => true
  | d + 1, i => p i && allFrom p d (i + 1)
theorem allFrom_iff (p : Nat → Bool) : ∀ d i, allFrom p d i = true ↔ ∀ j, i ≤ j → j < i + d → p j = true
  | 0, i => by simp [allFrom]; omega
  | d + 1, i => by
    rw [allFrom, Bool.and_eq_true, allFrom_iff p d (i + 1)]
    constructor
    · rintro ⟨h, k⟩ j h1 h2
      by_cases e : j = i
      · exact e ▸ h
      · exact k j (by omega) (by omega)
    · intro h
      exact ⟨h i (by omega) (by omega), fun j h1 h2 => h j (by omega) (by omega)⟩
def ordAt (l : List Int) (i : Nat) : Bool := decide (1 ≤ nth l i) && (decide (nth l i ≤ l.length) && !(l.take i).contains (nth l i))
def isOrd (l : List Int) : Bool := decide (1 ≤ l.length) && (decide (l.length ≤ 7) && allFrom (ordAt l) l.length 0)
theorem isOrd_len {l : List Int} (h : isOrd l = true) : 1 ≤ l.length ∧ l.length ≤ 7 := by
  simp [isOrd] at h; omega
theorem isOrd_at {l : List Int} (h : isOrd l = true) (i : Nat) (hi : i < l.length) : 1 ≤ nth l i ∧ nth l i ≤ l.length ∧ nth l i ∉ l.take i := by
  simp only [isOrd, Bool.and_eq_true] at h
  have := (allFrom_iff _ _ _).1 h.2.2 i (by omega) (by omega)
  simpa [ordAt] using this
def marked (a : Int) : Nat → List Int
  | 0 => []
  | n + 1 => a :: marked (a + 1) n
theorem marked_length (n : Nat) : ∀ a : Int, (marked a n).length = n := by
  induction n with
  | zero => intro a; rfl
  | succ n ih => intro a; simp [marked, ih]
theorem marked_nth (n : Nat) : ∀ (a : Int) (i : Nat), i < n → nth (marked a n) i = a + i := by
  induction n with
  | zero => intro a i h; omega
  | succ n ih =>
    intro a i h
    cases i with
    | zero => simp [marked, nth]
    | succ i =>
      have := ih (a + 1) i (by omega)
      rw [marked, nth_cons_succ, this]
      omega
theorem marked_snoc (n : Nat) : ∀ a : Int, marked a (n + 1) = marked a n ++ [a + n] := by
  induction n with
  | zero => intro a; simp [marked]
  | succ n ih =>
    intro a
    rw [marked, ih (a + 1), marked]
    simp
    omega
def idx : List Int → Int → Int
  | [], _ => -1
  | y :: l, x => if y = x then 0 else if idx l x < 0 then -1 else idx l x + 1
theorem idx_none : ∀ (l : List Int) (x : Int), (∀ j, j < l.length → nth l j ≠ x) → idx l x = -1
  | [], x, _ => rfl
  | y :: l, x, h => by
    have h0 : y ≠ x := h 0 (by simp)
    have h1 := idx_none l x fun j hj => h (j + 1) (by simpa using hj)
    simp [idx, h0, h1]
theorem idx_some : ∀ (l : List Int) (x : Int) (i : Nat), i < l.length → nth l i = x → (∀ j, j < i → nth l j ≠ x) → idx l x = i
  | [], x, i, h, _, _ => by simp at h
  | y :: l, x, 0, h, e, _ => by
    have h0 : y = x := e
    simp [idx, h0]
  | y :: l, x, i + 1, h, e, q => by
    have h0 : y ≠ x := q 0 (by omega)
    have h1 := idx_some l x i (by simpa using h) e fun j hj => q (j + 1) (by omega)
    simp only [idx, if_neg h0, h1]
    rw [if_neg (by omega)]
    omega
theorem idx_ge (l : List Int) (x : Int) : -1 ≤ idx l x ∧ idx l x < l.length := by
  induction l with
  | nil => simp [idx]
  | cons y l ih =>
    simp only [idx, List.length_cons]
    split
    · omega
    · split <;> omega
theorem idx_contains (l : List Int) (x : Int) : decide (idx l x ≥ 0) = l.contains x := by
  induction l with
  | nil => simp [idx]
  | cons y l ih =>
    have := idx_ge l x
    rw [List.contains_cons, ← ih]
    by_cases e : y = x
    · simp [idx, e]
    · have e' : ¬ x = y := fun h => e h.symm
      simp only [idx, if_neg e]
      have e2 : (x == y) = false := by simpa using e'
      rw [e2, Bool.false_or]
      split
      · have : ¬ idx l x ≥ 0 := by omega
        simp [this]
      · have h1 : idx l x ≥ 0 := by omega
        have h2 : idx l x + 1 ≥ 0 := by omega
        simp [h1, h2]
end Go.Proofs.YtfjbgmemjjjjoaaW.PrintWords
