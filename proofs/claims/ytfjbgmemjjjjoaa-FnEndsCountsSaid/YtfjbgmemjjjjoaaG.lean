/- Small lemmas for the walks of this claim that are typed by hand: rows of rows, opened and closed; what is kept of a list. -/
import Derived.Test.YtfjbgmemjjjjoaaWWords
import Derived.Test.YtfjbgmemjjjjoaaWLast
import Derived.Test.YtfjbgmemjjjjoaaWApart
import Derived.Test.YtfjbgmemjjjjoaaWKept
import Derived.IntWalk
namespace Go.Proofs.YtfjbgmemjjjjoaaW.PrintWords
open Go.RowKit Go.Proofs.YtfjbgmemjjjjoaaW.PrintLast
namespace Kd
section
variable {α : Type} {d : Kd α} {e e' : Nat} {w : World} {base : Nat} {ok : Nat → Prop} {v : Value} {xs : List (List α)} {g n cap : Nat}
theorem S_open (h : S (slice e d) e' w base ok (.slice (some ⟨g, 0, none⟩) n cap) xs) :
    n = xs.length ∧ ok g ∧ base ≤ g ∧ n ≤ cap ∧ cap ≤ maxLen ∧ ∃ (cur : Array Value) (f : Nat → Nat), w.heap[g]? = some (.cells cur e' (0, 0)) ∧ cur.size = cap ∧
      ∀ j x, xs[j]? = some x → ∃ v, cur[j]? = some v ∧ d.R e w base (fun k => (ok k ∧ k ≠ g) ∧ f k = j) v x := by
  obtain ⟨f, hok, inner, ho, hr⟩ := h
  rw [List.length_zipIdx] at ho
  have hn : xs.length = n := by
    obtain ⟨A, c, he⟩ := own_slice ho
    injection he with _ h2 _
    exact h2.symm
  subst hn
  obtain ⟨h1, h2⟩ := ho
  rcases h2 with ⟨hv, _⟩ | ⟨g', cap', cur, hv, hb, hh, hc, hm, hs, ht⟩
  · cases hv
  · injection hv with ha _ hc'
    injection ha with ha
    injection ha with ha
    subst ha hc'
    have hsz : ∀ f, (tag f (slice e d)).sz = 1 := fun _ => rfl
    rw [hsz, Nat.mul_one] at hs ht h1
    refine ⟨rfl, hok g (by simp [Value.ownBlock]), hb, hc, hm, cur, f, hh, hs, fun j x hj => ?_⟩
    obtain ⟨v, hv1, hv2⟩ := hr.2 j (x, j) (zip_at hj)
    have hjl : j < xs.length := (List.getElem?_eq_some_iff.1 hj).1
    refine ⟨v, ?_, R_mono hv2 (fun k hk => ⟨⟨hk.1.1, fun he => hk.1.2 (by rw [he]; simp [Value.ownBlock])⟩, hk.2⟩)⟩
    rw [hsz, Nat.mul_one, ← ht] at hv1
    have h5 : ((cur.toList.take xs.length).drop j)[0]? = some v := by
      have := congrArg (fun l => l[0]?) hv1
      simpa using this
    rw [List.getElem?_drop, List.getElem?_take] at h5
    split at h5
    · simpa using h5
    · cases h5
theorem S_close {cur : Array Value} {f : Nat → Nat} (hok : ok g) (hb : base ≤ g) (hn : n = xs.length) (hc : n ≤ cap) (hm : cap ≤ maxLen) (hh : w.heap[g]? = some (.cells cur e' (0, 0))) (hs : cur.size = cap)
    (h : ∀ j x, xs[j]? = some x → ∃ v, cur[j]? = some v ∧ d.R e w base (fun k => (ok k ∧ k ≠ g) ∧ f k = j) v x) : S (slice e d) e' w base ok (.slice (some ⟨g, 0, none⟩) n cap) xs := by
  subst hn
  have hsz : ∀ f, (tag f (slice e d)).sz = 1 := fun _ => rfl
  refine ⟨f, fun k hk => ?_, cur.toList.take xs.length, ?_, ?_⟩
  · simp [Value.ownBlock] at hk
    subst hk
    exact hok
  · rw [List.length_zipIdx]
    refine ⟨by rw [hsz]; simp; omega, .inr ⟨g, cap, cur, rfl, hb, hh, hc, hm, by rw [hsz]; omega, by rw [hsz, Nat.mul_one]⟩⟩
  · refine ⟨by rw [List.length_zipIdx, hsz]; simp; omega, fun j p hj => ?_⟩
    rw [List.getElem?_zipIdx, Nat.zero_add] at hj
    obtain ⟨x, hx, rfl⟩ := Option.map_eq_some_iff.1 hj
    obtain ⟨v, hv, hR⟩ := h j x hx
    have hjl : j < xs.length := (List.getElem?_eq_some_iff.1 hx).1
    refine ⟨v, ?_, R_mono hR (fun k hk => ⟨⟨hk.1.1, fun he => hk.1.2 ?_⟩, hk.2⟩)⟩
    · rw [hsz, Nat.mul_one]
      have hj2 : j < (cur.toList.take xs.length).length := by simp; omega
      rw [List.drop_eq_getElem_cons hj2]
      simp only [List.take_succ_cons, List.take_zero, List.getElem_take, Array.getElem_toList]
      congr 1
      exact (Array.getElem?_eq_some_iff.1 hv).2
    · simp [Value.ownBlock] at he
      exact he
theorem S_pick {K : List Nat} {W : World} {cur cur' : Array Value} {f : Nat → Nat} {z : List α} (hnd : K.Nodup) (hok : ok g) (hb : base ≤ g) (hm : cap ≤ maxLen)
    (h : ∀ j x, xs[j]? = some x → ∃ v, cur[j]? = some v ∧ d.R e w base (fun k => (ok k ∧ k ≠ g) ∧ f k = j) v x) (hk : Kept w W (fun k => k = g))
    (hh : W.heap[g]? = some (.cells cur' e' (0, 0))) (hs : cur'.size = cap) (hn : K.length ≤ cap) (hK : ∀ m t : Nat, K[m]? = some t → t < xs.length ∧ cur'[m]? = cur[t]?) :
    S (slice e d) e' W base ok (.slice (some ⟨g, 0, none⟩) K.length cap) (K.map fun t => xs.getD t z) := by
  refine S_close (f := fun k => K.idxOf (f k)) hok hb (by simp) hn hm hh hs fun j x hj => ?_
  rw [List.getElem?_map] at hj
  obtain ⟨t, ht, rfl⟩ := Option.map_eq_some_iff.1 hj
  obtain ⟨h1, h2⟩ := hK j t ht
  obtain ⟨v, hv, hR⟩ := h t (xs.getD t z) (by rw [List.getD_eq_getElem?_getD, List.getElem?_eq_getElem h1]; rfl)
  refine ⟨v, h2.trans hv, R_mono (R_kept hR hk (fun k hk => hk.1.2)) fun k hk => ⟨hk.1, ?_⟩⟩
  obtain ⟨hjl, he⟩ := List.getElem?_eq_some_iff.1 ht
  show K.idxOf (f k) = j
  rw [hk.2, ← he]
  exact hnd.idxOf_getElem j hjl
end
end Kd
def keepO (of_ : List Int → Option Bool) : List (List Int) → Option (List (List Int))
  | [] => some []
  | x :: l => (of_ x).bind fun b => (keepO of_ l).bind fun r => some (if b = true then r else x :: r)
theorem keepO_some {of_ : List Int → Option Bool} : ∀ {l r : List (List Int)}, keepO of_ l = some r → (∀ x ∈ l, of_ x = some ((of_ x).getD false)) ∧ r = l.filter fun x => !(of_ x).getD false
  | [], r, h => by
    obtain rfl := Option.some.inj h
    exact ⟨fun x hx => by simp at hx, rfl⟩
  | x :: l, r, h => by
    rw [keepO] at h
    obtain ⟨b, hb, h⟩ := Option.bind_eq_some_iff.1 h
    obtain ⟨r2, hr2, h⟩ := Option.bind_eq_some_iff.1 h
    obtain rfl := Option.some.inj h
    obtain ⟨h1, h2⟩ := keepO_some hr2
    refine ⟨fun y hy => ?_, ?_⟩
    · rcases List.mem_cons.1 hy with rfl | hy
      · rw [hb]; rfl
      · exact h1 y hy
    · rw [List.filter_cons, hb, ← h2]
      cases b <;> rfl
theorem keepO_mono {f g : List Int → Option Bool} (h : ∀ x, LeO (f x) (g x)) : ∀ l, LeO (keepO f l) (keepO g l)
  | [] => LeO.refl _
  | x :: l => by
    rw [keepO, keepO]
    exact LeO.bind (h x) (fun b => LeO.bind (keepO_mono h l) (fun r => LeO.refl _))
def keptAt (p : List Int → Bool) (l : List (List Int)) (j : Nat) : List Nat := (List.range j).filter fun t => !p (l.getD t [])
theorem keptAt_succ (p : List Int → Bool) (l : List (List Int)) (j : Nat) : keptAt p l (j + 1) = if p (l.getD j []) = true then keptAt p l j else keptAt p l j ++ [j] := by
  rw [keptAt, List.range_succ, List.filter_append]
  cases hp : p (l.getD j []) <;> simp only [List.filter_cons, List.filter_nil, hp, Bool.not_false, Bool.not_true, if_true, if_false, List.append_nil, Bool.false_eq_true] <;> rfl
theorem keptAt_nodup (p : List Int → Bool) (l : List (List Int)) (j : Nat) : (keptAt p l j).Nodup := List.nodup_range.filter _
theorem keptAt_lt {p : List Int → Bool} {l : List (List Int)} {j t : Nat} (h : t ∈ keptAt p l j) : t < j := by
  have := (List.mem_filter.1 h).1
  simpa using this
theorem keptAt_all (p : List Int → Bool) (l : List (List Int)) : (keptAt p l l.length).map (fun t => l.getD t []) = l.filter fun x => !p x := by
  have h : (List.range l.length).map (fun t => l.getD t []) = l := by
    apply List.ext_getElem
    · simp
    · intro i h1 h2
      simp [h2]
  conv => rhs; rw [← h]
  rw [List.filter_map]
  rfl
theorem keptAt_none (p : List Int → Bool) (l : List (List Int)) : ∀ i, i ≤ l.length → (∀ j, j < i → p (l.getD j []) = false) → keptAt p l i = List.range i
  | 0, _, _ => rfl
  | i + 1, hi, h => by
    rw [keptAt_succ, h i (by omega), keptAt_none p l i (by omega) (fun j hj => h j (by omega)), List.range_succ]
    rfl
end Go.Proofs.YtfjbgmemjjjjoaaW.PrintWords
