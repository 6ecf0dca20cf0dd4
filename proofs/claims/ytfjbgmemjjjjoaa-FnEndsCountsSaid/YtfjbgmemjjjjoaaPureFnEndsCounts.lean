/- Outputs are as many for each order, those that are new are the others, and a queue leaves orders as they are. -/
import Derived.Test.YtfjbgmemjjjjoaaPFnEndsCountsx23
import Derived.Test.YtfjbgmemjjjjoaaK
import Derived.Test.YtfjbgmemjjjjoaaTFnEndsCounts0
import Derived.Test.YtfjbgmemjjjjoaaTFnEndsCounts1
import Derived.Test.YtfjbgmemjjjjoaaTFnEndsCounts2
import Derived.Test.YtfjbgmemjjjjoaaTFnEndsCounts3
import Derived.Test.YtfjbgmemjjjjoaaTFnEndsCounts4
import Derived.Test.YtfjbgmemjjjjoaaTFnEndsCounts5
import Derived.Test.YtfjbgmemjjjjoaaTFnEndsCounts6
import Derived.Test.YtfjbgmemjjjjoaaTFnEndsCounts7
import Derived.Test.YtfjbgmemjjjjoaaTFnEndsCounts8
set_option linter.unusedVariables false
set_option linter.unusedSimpArgs false
namespace Go.Proofs.Ytfjbgmemjjjjoaa.Pure
open Go.RowKit Go.Proofs.Ytfjbgmemjjjjoaa.PFnEndsCounts Go.Proofs.YtfjbgmemjjjjoaaW.PrintWords Go.Proofs.YtfjbgmemjjjjoaaW.PrintLast Go.Proofs.YtfjbgmemjjjjoaaW.PrintMore
theorem ec_all : ∀ n ∈ [1, 2, 3, 4, 5, 6, 7], allO (intsTo n) ecOk n [] = true := by
 intro n hn
 by_cases h7 : n = 7
 ·
  subst h7
  rw [allO]
  simp only [show intsTo 7 = [1, 2, 3, 4, 5, 6, 7] from rfl, List.all_cons, List.all_nil, List.contains_nil, Bool.false_or, Bool.and_true, Bool.and_eq_true]
  exact ⟨ec_all_71, ec_all_72, ec_all_73, ec_all_74, ec_all_75, ec_all_76, ec_all_77⟩
 ·
  exact ec_all_6 n (by simp at hn ⊢; omega)
theorem ed_all : ∀ n ∈ [1, 2, 3, 4, 5, 6, 7], allO (intsTo n) edOk n [] = true := by
 intro n hn
 by_cases h7 : n = 7
 ·
  subst h7
  rw [allO]
  simp only [show intsTo 7 = [1, 2, 3, 4, 5, 6, 7] from rfl, List.all_cons, List.all_nil, List.contains_nil, Bool.false_or, Bool.and_true, Bool.and_eq_true]
  exact ⟨ed_all_71, ed_all_72, ed_all_73, ed_all_74, ed_all_75, ed_all_76, ed_all_77⟩
 ·
  exact ed_all_6 n (by simp at hn ⊢; omega)
theorem l8Count_l (l : List Int) (h7 : l.length ≤ 7) (only : Bool) (g h : List Int → Bool) (hg : ∀ t : List Int, t.length ≤ 1000 → ∃ w : ByteArray, Ev (fun k => spec_l8To.f k l t) (w, g t) ∧ Ev (fun k => impl_endsTo.f k l t) (w, g t)) (hh : ∀ t : List Int, t.length ≤ l.length → ∃ w : ByteArray, Ev (fun k => spec_l2To.f k l t) (w, h t)) :
  ∀ (d i m : Nat), (ordsM l.length).length = i + d → m ≤ i → Ev (fun k => spec_l8Count.l0 k l only (m : Int) (ordsM l.length) (i : Int)) ((m + (((ordsM l.length).drop i).filter fun t => g t && !(only && h t)).length : Nat) : Int)
 | 0, i, m, hd, hm => by
  refine Ev.step (fun k => by rw [spec_l8Count.l0]) ?_
  refine Ev.neg (by omega) (Ev.val ?_)
  rw [List.drop_of_length_le (by omega)]; simp
 | d + 1, i, m, hd, hm => by
  have hlen := facN_le l.length
  have hol := ordsM_length l.length
  have hi : i < (ordsM l.length).length := by omega
  have hxl := ordsM_len _ _ (getD_memK hi)
  rw [drop_stepK _ i hi]
  refine Ev.step (fun k => by rw [spec_l8Count.l0]) ?_
  simp only [wup i (by omega), wup m (by omega), rd_L1_natK]
  generalize (ordsM l.length).getD i [] = x at hxl ⊢
  obtain ⟨w, h1, _⟩ := hg x (by omega)
  obtain ⟨w2, h2⟩ := hh x (by omega)
  have ih := fun m2 hm2 => l8Count_l l h7 only g h hg hh d (i + 1) m2 (by omega) hm2
  refine Ev.pos (by omega) (Ev.pos (by omega) (Ev.bind h1 (Ev.bind h2 ?_)))
  rw [List.filter_cons]
  generalize hZ : ((m + (if (g x && !(only && h x)) = true then x :: ((ordsM l.length).drop (i + 1)).filter (fun t => g t && !(only && h t)) else ((ordsM l.length).drop (i + 1)).filter fun t => g t && !(only && h t)).length : Nat) : Int) = Z
  have more : g x = true → (only && h x) = false → Ev (fun k => spec_l8Count.l0 k l only ((m + 1 : Nat) : Int) (ordsM l.length) ((i + 1 : Nat) : Int)) Z := fun e1 e2 => by
   rw [e1, e2, if_pos (by simp), List.length_cons] at hZ
   refine Ev.to (ih (m + 1) (by omega)) ?_
   rw [← hZ]
   omega
  have same : (g x && !(only && h x)) = false → Ev (fun k => spec_l8Count.l0 k l only (m : Int) (ordsM l.length) ((i + 1 : Nat) : Int)) Z := fun e1 => by
   rw [if_neg (by rw [e1]; simp)] at hZ
   rw [← hZ]
   exact ih m (by omega)
  clear hZ ih
  cases hgx : g x with
  | false => exact Ev.neg (by simp) (same (by rw [hgx]; rfl))
  | true =>
   refine Ev.pos rfl ?_
   cases only with
   | false => exact Ev.neg (by simp) (more hgx rfl)
   | true =>
    refine Ev.pos rfl ?_
    cases hhx : h x with
    | true => exact Ev.pos rfl (same (by rw [hgx, hhx]; rfl))
    | false => exact Ev.neg (by simp) (more hgx (by rw [hhx]; rfl))
theorem specEO_l (l : List Int) (h7 : l.length ≤ 7) (g : List Int → Bool) (hg : ∀ t : List Int, t.length ≤ 1000 → ∃ w : ByteArray, Ev (fun k => spec_l8To.f k l t) (w, g t) ∧ Ev (fun k => impl_endsTo.f k l t) (w, g t)) :
  ∀ (d i : Nat) (acc : List (List Int)), (ordsM l.length).length = i + d → acc.length ≤ i → Ev (fun k => spec_EndsOutputs.l0 k l acc (ordsM l.length) (i : Int)) (acc ++ ((ordsM l.length).drop i).filter g, true)
 | 0, i, acc, h, ha => by
  refine Ev.step (fun k => by rw [spec_EndsOutputs.l0]) ?_
  refine Ev.neg (by omega) (Ev.val ?_)
  rw [List.drop_of_length_le (by omega)]; simp
 | d + 1, i, acc, h, ha => by
  have hlen := facN_le l.length
  have hol := ordsM_length l.length
  have hi : i < (ordsM l.length).length := by omega
  have hxl := ordsM_len _ _ (getD_memK hi)
  rw [drop_stepK _ i hi]
  refine Ev.step (fun k => by rw [spec_EndsOutputs.l0]) ?_
  simp only [wup i (by omega), rd_L1_natK]
  generalize (ordsM l.length).getD i [] = x at hxl ⊢
  obtain ⟨w, h1, _⟩ := hg x (by omega)
  refine Ev.pos (by omega) (Ev.pos (by omega) (Ev.bind h1 ?_))
  rw [List.filter_cons]
  refine Ev.ite (fun hc => ?_) (fun hc => ?_)
  ·
   have hc' : g x = true := hc
   rw [if_pos hc']
   refine Ev.pos (by omega) (Ev.to (specEO_l l h7 g hg d (i + 1) (acc ++ [x]) (by omega) (by rw [List.length_append, List.length_singleton]; omega)) ?_)
   rw [List.append_assoc]; rfl
  ·
   have hc' : ¬ g x = true := hc
   rw [if_neg hc']
   exact specEO_l l h7 g hg d (i + 1) acc (by omega) (by omega)
theorem implOBE_l (l : List Int) (L : List (List Int)) (hL : L.length ≤ 100000) (hLl : ∀ t ∈ L, t.length ≤ l.length) (h : List Int → Bool) (hh : ∀ t : List Int, t.length ≤ l.length → ∃ w : ByteArray, Ev (fun k => impl_wordTo.f k l t) (w, h t)) :
  ∀ (d i m : Nat), L.length = i + d → m ≤ i → Ev (fun k => impl_OnlyByEnds.l0 k l (m : Int) L (L.length : Int) (i : Int)) (((m + ((L.drop i).filter fun t => !h t).length : Nat) : Int), true)
 | 0, i, m, hd, hm => by
  refine Ev.step (fun k => by rw [impl_OnlyByEnds.l0]) ?_
  refine Ev.neg (by omega) (Ev.val ?_)
  rw [List.drop_of_length_le (by omega)]; simp
 | d + 1, i, m, hd, hm => by
  have hi : i < L.length := by omega
  have hxl := hLl _ (getD_memK hi)
  rw [drop_stepK _ i hi]
  refine Ev.step (fun k => by rw [impl_OnlyByEnds.l0]) ?_
  simp only [wup i (by omega), wup m (by omega), rd_L1_natK]
  generalize L.getD i [] = x at hxl ⊢
  obtain ⟨w2, h2⟩ := hh x hxl
  have ih := fun m2 hm2 => implOBE_l l L hL hLl h hh d (i + 1) m2 (by omega) hm2
  refine Ev.pos (by omega) (Ev.pos (by omega) (Ev.pos (by omega) (Ev.bind h2 ?_)))
  rw [List.filter_cons]
  cases hhx : h x with
  | true => exact Ev.pos rfl (by simpa using ih m (by omega))
  | false =>
   refine Ev.neg (by simp) (Ev.to (ih (m + 1) (by omega)) ?_)
   simp only [Bool.not_false, if_true, List.length_cons, Prod.mk.injEq, and_true]
   omega
def okEndsTo (l s : List Int) : Bool := isOrd l && (isOrd s && decide (l.length = s.length))
theorem areOrders_ev (l s : List Int) (hn : l.length ≤ 17592186044415) (hs : s.length ≤ 17592186044415) : Ev (fun k => impl_areOrders.f k l s) (okEndsTo l s) := by
 unfold impl_areOrders.f
 refine Ev.bind (isOrder_ev l (by omega)) (Ev.ite (fun hc => Ev.bind (isOrder_ev s (by omega)) (Ev.ite (fun hd => Ev.val ?_) (fun hd => Ev.val ?_))) (fun hc => Ev.val ?_))
 ·
  rw [Bool.eq_iff_iff]
  simp [okEndsTo, hc, hd]
  omega
 ·
  rw [Bool.not_eq_true] at hd; simp [okEndsTo, hd]
 ·
  rw [Bool.not_eq_true] at hc; simp [okEndsTo, hc]
theorem rInts_l (a b : List Int) (hn : a.length ≤ 17592186044416) (hl : a.length = b.length) : ∀ (d i : Nat), a.length = i + d → Ev (fun k => laws_rInts.l0 k a b i) (decide (a.drop i = b.drop i))
 | 0, i, h => by
  refine Ev.step (fun k => by rw [laws_rInts.l0]) ?_
  refine Ev.neg (by omega) (Ev.val ?_)
  rw [List.drop_of_length_le (by omega), List.drop_of_length_le (by omega)]
  simp
 | d + 1, i, h => by
  refine Ev.step (fun k => by rw [laws_rInts.l0]) ?_
  refine Ev.pos (by omega) (Ev.pos (by omega) (Ev.pos (by omega) ?_))
  have e : wrap64 ((i : Int) + 1) = ((i + 1 : Nat) : Int) := by rw [w64 (by omega)]; omega
  simp only [e]
  rw [drop_step a i (by omega), drop_step b i (by omega)]
  refine Ev.ite (fun hc => ?_) (fun hc => Ev.val ?_)
  ·
   have hc' : nth a i = nth b i := hc
   refine (rInts_l a b hn hl d (i + 1) (by omega)).to ?_
   rw [hc']
   simp
  ·
   have hc' : ¬ nth a i = nth b i := hc
   simp [hc']
theorem rInts_ev (a b : List Int) (hn : a.length ≤ 17592186044416) : Ev (fun k => laws_rInts.f k a b) (decide (a = b)) := by
 unfold laws_rInts.f
 refine Ev.ite (fun hc => ?_) (fun hc => Ev.val ?_)
 ·
  exact (rInts_l a b hn (by omega) a.length 0 (by omega)).to (by simp)
 ·
  have : ¬ a = b := fun h => hc (by rw [h])
  simp [this]
theorem rLists_l (A : List (List Int)) (hn : A.length ≤ 100000) (hr : ∀ r ∈ A, r.length ≤ 1000) : ∀ d i : Nat, A.length = i + d → Ev (fun k => laws_rLists.l0 k A A (i : Int)) true
 | 0, i, h => by
  refine Ev.step (fun k => by rw [laws_rLists.l0]) ?_
  exact Ev.neg (by omega) (Ev.val rfl)
 | d + 1, i, h => by
  have hm := hr _ (getD_memK (xs := A) (i := i) (by omega))
  refine Ev.step (fun k => by rw [laws_rLists.l0]) ?_
  simp only [wup i (by omega), rd_L1_natK]
  refine Ev.pos (by omega) (Ev.pos (by omega) (Ev.pos (by omega) ?_))
  refine Ev.bind (rInts_ev _ _ (by omega)) ?_
  exact Ev.pos (by simp) (rLists_l A hn hr d (i + 1) (by omega))
theorem rLists_ev (A : List (List Int)) (hn : A.length ≤ 100000) (hr : ∀ r ∈ A, r.length ≤ 1000) : Ev (fun k => laws_rLists.f k A A) true := by
 unfold laws_rLists.f
 exact Ev.pos rfl (rLists_l A hn hr A.length 0 (by omega))
theorem ecN_of {n : Nat} (h : 1 ≤ n ∧ n ≤ 7) : ecN n = true := by
 by_cases h7 : n = 7
 ·
  subst h7; exact ecN_7
 ·
  exact ecN_6 n (by simp; omega)
theorem eb_of {o : List Int} (h : isOrd o = true) : ecOk o = true ∧ edOk o = true := ⟨orders_all h _ ec_all, orders_all h _ ed_all⟩
theorem ords_in (y : List Int) (h : isOrd y = true) : y ∈ ordsM y.length := by
 have := (eb_of h).1
 simp only [ecOk, Bool.and_eq_true] at this
 exact ordsM_of this.1
theorem snd_of {α : Type} {x : Option (α × Bool)} {b : Bool} (h : (x.map (·.2) == some b) = true) : ∃ w, x = some (w, b) := by
 cases x with
 | none => simp at h
 | some p =>
  obtain ⟨w, c⟩ := p
  simp at h
  subst h
  exact ⟨w, rfl⟩
theorem eI_of {t : List Int} (h : isOrd t = true) : ∃ w, impl_endsTo.f 100 (marked 1 t.length) t = some (w, eI t) := by
 have := (eb_of h).1
 simp only [ecOk, Bool.and_eq_true] at this
 exact snd_of this.2.1
theorem wI_of {t : List Int} (h : isOrd t = true) : ∃ w, impl_wordTo.f 100 (marked 1 t.length) t = some (w, wI t) := by
 have := (eb_of h).1
 simp only [ecOk, Bool.and_eq_true] at this
 exact snd_of this.2.2
theorem beq_opt {x : Option (ByteArray × Bool)} {q : ByteArray × Bool} (h : (x == some q) = true) : x = some q := by
 cases x with
 | none => exact Bool.noConfusion (show false = true from h)
 | some p =>
  obtain ⟨a, b⟩ := p
  obtain ⟨c, d⟩ := q
  have h2 : (a == c && b == d) = true := h
  rw [Bool.and_eq_true] at h2
  rw [(Go.MapKept.bytes_beq a c).mp h2.1, eq_of_beq h2.2]
theorem ec_one {α : Type} {g : Nat → Option α} {a b : α} (h1 : Ev g a) (h2 : Ev g b) : a = b := by
 obtain ⟨K, h1⟩ := h1
 obtain ⟨L, h2⟩ := h2
 exact Option.some.inj ((h1 (K + L) (by omega)).symm.trans (h2 (K + L) (by omega)))
theorem g_ren {o t : List Int} (ho : isOrd o = true) (ht : isOrd t = true) (e : t.length = o.length) {w : ByteArray} {b : Bool} (h : Ev (fun k => impl_endsTo.f k o (t.map (renO o))) (w, b)) : b = eI t := by
 obtain ⟨w2, h2⟩ := eI_of ht
 have h3 : impl_endsTo.f 100 o (t.map (renO o)) = some (w2, eI t) := by
  have h4 := endsTo_f_ren (renO_ren ho) 100 (marked 1 o.length) t
  rw [renO_sorted ho] at h4
  rw [h4, ← e]
  exact h2
 exact congrArg Prod.snd (ec_one h (Ev.of (fun k => impl_endsTo.mono _ _ k) h3))
theorem h_ren {o t : List Int} (ho : isOrd o = true) (ht : isOrd t = true) (e : t.length = o.length) {w : ByteArray} {b : Bool} (h : Ev (fun k => impl_wordTo.f k o (t.map (renO o))) (w, b)) : b = wI t := by
 obtain ⟨w2, h2⟩ := wI_of ht
 have h3 : impl_wordTo.f 100 o (t.map (renO o)) = some (w2, wI t) := by
  have h4 := wordTo_f_ren (renO_ren ho) 100 (marked 1 o.length) t
  rw [renO_sorted ho] at h4
  rw [h4, ← e]
  exact h2
 exact congrArg Prod.snd (ec_one h (Ev.of (fun k => impl_wordTo.mono _ _ k) h3))
theorem EC_ev (o : List Int) (hn : o.length ≤ 1000) : ∃ (R : List (List Int)) (c : Int), R.length ≤ 100000 ∧ (∀ r ∈ R, r.length ≤ 1000) ∧ Ev (fun k => spec_EndsOutputs.f k o) (R, isOrd o) ∧ Ev (fun k => impl_EndsOutputs.f k o) (R, isOrd o) ∧ Ev (fun k => spec_OnlyByEnds.f k o) (c, isOrd o) ∧ Ev (fun k => impl_OnlyByEnds.f k o) (c, isOrd o) ∧
  (isOrd o = true → (R.length = cE o.length ∧ (cW o.length : Int) + c = (R.length : Int)) ∧ ∀ t ∈ R, ∃ s : ByteArray, Ev (fun k => impl_EndsTo.f k o t) (s, true)) := by
 unfold spec_EndsOutputs.f impl_EndsOutputs.f spec_OnlyByEnds.f impl_OnlyByEnds.f
 by_cases hc : isOrd o = true
 ·
  have hl := isOrd_len hc
  obtain ⟨g, hg⟩ := ends_g o (by omega)
  obtain ⟨h, hh⟩ := words_h o (by omega)
  have hlen := facN_le o.length
  have hol := ordsM_length o.length
  have hfl := List.length_filter_le g (ordsM o.length)
  have hs := l8Count_l o hl.2 true g h hg (fun t ht => (hh t ht).imp fun w hw => hw.1) (ordsM o.length).length 0 0 (by omega) (by omega)
  have hi := implOBE_l o ((ordsM o.length).filter g) (by omega) (fun t ht => by have := ordsM_len _ t (List.mem_filter.1 ht).1; omega) h (fun t ht => (hh t ht).imp fun w hw => hw.2) ((ordsM o.length).filter g).length 0 0 (by omega) (by omega)
  rw [List.drop_zero, List.filter_filter] at hi
  rw [List.drop_zero] at hs
  have hgr : ∀ t : List Int, isOrd t = true → t.length = o.length → g (t.map (renO o)) = eI t := fun t ht e => by
   obtain ⟨w, _, h2⟩ := hg (t.map (renO o)) (by rw [List.length_map]; omega)
   exact g_ren hc ht e h2
  have hhr : ∀ t : List Int, isOrd t = true → t.length = o.length → h (t.map (renO o)) = wI t := fun t ht e => by
   obtain ⟨w, _, h2⟩ := hh (t.map (renO o)) (by rw [List.length_map]; omega)
   exact h_ren hc ht e h2
  have n1 : ((ordsM o.length).filter g).length = cE o.length := count_ren hc ords_in g eI hgr
  have n2 : ((ordsM o.length).filter fun t => g t && h t).length = cW o.length := count_ren hc ords_in (fun t => g t && h t) (fun t => eI t && wI t) fun t ht e => by rw [hgr t ht e, hhr t ht e]
  have n3 := filter_and g h (ordsM o.length)
  rw [hc]
  refine ⟨(ordsM o.length).filter g, ((0 + ((ordsM o.length).filter fun t => g t && !(true && h t)).length : Nat) : Int), by omega, fun r hr => by have := ordsM_len _ r (List.mem_filter.1 hr).1; omega, ?_, ?_, ?_, ?_, fun _ => ⟨⟨n1, ?_⟩, fun t ht => ?_⟩⟩
  ·
   refine Ev.bind (Ev.now _) (Ev.bind (l2Order_ev o (by omega)) (Ev.pos hc (Ev.bind (l2Orders_ev o.length hl.2) ?_)))
   exact Ev.to (specEO_l o hl.2 g hg (ordsM o.length).length 0 [] (by omega) (by simp)) (by simp)
  ·
   refine Ev.bind (isOrder_ev o (by omega)) (Ev.pos hc ?_)
   exact Ev.bind (endsOutputs_ev o hl.2 g hg) (Ev.val rfl)
  ·
   refine Ev.bind (l2Order_ev o (by omega)) (Ev.pos hc ?_)
   refine Ev.bind (a := ((0 + ((ordsM o.length).filter fun t => g t && !(true && h t)).length : Nat) : Int)) ?_ (Ev.val rfl)
   unfold spec_l8Count.f
   exact Ev.bind (l2Orders_ev o.length hl.2) hs
  ·
   refine Ev.bind (isOrder_ev o (by omega)) (Ev.pos hc ?_)
   refine Ev.bind (endsOutputs_ev o hl.2 g hg) (Ev.to hi ?_)
   congr 3
   congr 1
   congr 1
   funext t
   simp [Bool.and_comm]
  ·
   have e1 : ((ordsM o.length).filter fun t => g t && !(true && h t)) = (ordsM o.length).filter fun t => g t && !h t := by simp only [Bool.true_and]
   rw [e1]
   omega
  ·
   have h1 := List.mem_filter.1 ht
   have h2 := ordsM_ord _ hl.1 hl.2 t h1.1
   have h3 := ordsM_len _ t h1.1
   obtain ⟨w, _, h4⟩ := hg t (by omega)
   rw [h1.2] at h4
   refine ⟨w, ?_⟩
   unfold impl_EndsTo.f
   have h5 : okEndsTo o t = true := by simp only [okEndsTo, Bool.and_eq_true, decide_eq_true_eq]; exact ⟨hc, h2, h3.symm⟩
   exact Ev.bind (areOrders_ev o t (by omega) (by omega)) (Ev.pos h5 (Ev.bind h4 (Ev.val rfl)))
 ·
  have hb : isOrd o = false := by simpa using hc
  rw [hb]
  refine ⟨[], 0, by simp, by simp, ?_, ?_, ?_, ?_, fun h => by cases h⟩
  ·
   exact Ev.bind (Ev.now _) (Ev.bind (l2Order_ev o (by omega)) (Ev.neg hc (Ev.val rfl)))
  ·
   exact Ev.bind (isOrder_ev o (by omega)) (Ev.neg hc (Ev.val rfl))
  ·
   exact Ev.bind (l2Order_ev o (by omega)) (Ev.neg hc (Ev.val rfl))
  ·
   exact Ev.bind (isOrder_ev o (by omega)) (Ev.neg hc (Ev.val rfl))
theorem CE_ev (n : Int) : ∃ r : Int × Bool, Ev (fun q => spec_CountEnds.f q n) r ∧ Ev (fun q => impl_CountEnds.f q n) r ∧ (r.2 = true → ∃ m : Nat, n = (m : Int) ∧ (1 ≤ m ∧ m ≤ 7) ∧ r.1 = (cE m : Int)) := by
 unfold spec_CountEnds.f impl_CountEnds.f
 simp only [l1In_is, isSize_is, Option.bind_some]
 by_cases hn : 1 ≤ n ∧ n ≤ 7
 ·
  obtain ⟨m, rfl⟩ := Int.eq_ofNat_of_zero_le (show 0 ≤ n by omega)
  have hml : (marked 1 m).length = m := marked_length m 1
  obtain ⟨g, hg⟩ := ends_g (marked 1 m) (by omega)
  obtain ⟨h, hh⟩ := words_h (marked 1 m) (by omega)
  have hs := l8Count_l (marked 1 m) (by omega) false g h hg (fun t ht => (hh t ht).imp fun w hw => hw.1) (ordsM (marked 1 m).length).length 0 0 (by omega) (by omega)
  rw [List.drop_zero] at hs
  have hff : ((ordsM (marked 1 m).length).filter fun t => g t && !(false && h t)) = (ordsM (marked 1 m).length).filter g := by congr 1; funext t; simp
  rw [hff, Nat.zero_add] at hs
  have hge : (ordsM (marked 1 m).length).filter g = (ordsM m).filter eI := by
   rw [hml]
   refine List.filter_congr fun t ht => ?_
   have h1 := ordsM_ord m (by omega) (by omega) t ht
   have h2 := ordsM_len _ t ht
   obtain ⟨w, _, h3⟩ := hg t (by omega)
   obtain ⟨w2, h4⟩ := eI_of h1
   rw [h2] at h4
   exact congrArg Prod.snd (ec_one h3 (Ev.of (fun k => impl_endsTo.mono _ _ k) h4))
  refine ⟨((((ordsM (marked 1 m).length).filter g).length : Int), true), ?_, ?_, fun _ => ⟨m, rfl, by omega, by rw [hge]; rfl⟩⟩
  ·
   refine Ev.pos (by simpa using hn) (Ev.bind (l2Sorted_ev m (by omega)) ?_)
   refine Ev.bind (a := (((ordsM (marked 1 m).length).filter g).length : Int)) ?_ (Ev.val rfl)
   unfold spec_l8Count.f
   exact Ev.bind (l2Orders_ev _ (by omega)) hs
  ·
   refine Ev.pos (by simpa using hn) (Ev.bind (sorted_ev m (by omega)) ?_)
   exact Ev.bind (endsOutputs_ev _ (by omega) g hg) (Ev.val rfl)
 ·
  refine ⟨(0, false), ?_, ?_, fun h => by cases h⟩
  ·
   exact Ev.neg (by simpa using hn) (Ev.val rfl)
  ·
   exact Ev.neg (by simpa using hn) (Ev.val rfl)
theorem CP_ev (n : Int) : ∃ r : Int × Bool, Ev (fun q => spec_CountPlainEnds.f q n) r ∧ Ev (fun q => impl_CountPlainEnds.f q n) r ∧ (r.2 = true → ∀ m : Nat, n = (m : Int) → (cE m : Int) ≤ r.1) := by
 by_cases hn : 1 ≤ n ∧ n ≤ 7
 ·
  obtain ⟨m, rfl⟩ := Int.eq_ofNat_of_zero_le (show 0 ≤ n by omega)
  have h := ecN_of (n := m) (by omega)
  unfold ecN at h
  split at h
  ·
   rename_i ws p q e1 e2 e3
   simp only [Bool.and_eq_true, beq_iff_eq, decide_eq_true_eq] at h
   exact ⟨p, Ev.of (fun k => spec_CountPlainEnds.mono _ k) h.2.1.2.2, Ev.of (fun k => impl_CountPlainEnds.mono _ k) e2, fun _ j hj => by rw [show j = m by omega]; exact h.2.1.2.1⟩
  ·
   cases h
 ·
  refine ⟨(0, false), ?_, ?_, fun h => by cases h⟩
  ·
   unfold spec_CountPlainEnds.f
   simp only [l1In_is, Option.bind_some]
   exact Ev.neg (by simpa using hn) (Ev.val rfl)
  ·
   unfold impl_CountPlainEnds.f
   simp only [isSize_is, Option.bind_some]
   exact Ev.neg (by simpa using hn) (Ev.val rfl)
theorem AQ_ev (n : Int) : ∃ (q : ByteArray) (b : Bool), Ev (fun k => spec_AsQueue.f k n) (q, b) ∧ impl_AsQueue.f n = some (q, b) ∧ (b = true → 1 ≤ n ∧ n ≤ 7) := by
 by_cases hn : 1 ≤ n ∧ n ≤ 7
 ·
  obtain ⟨m, rfl⟩ := Int.eq_ofNat_of_zero_le (show 0 ≤ n by omega)
  have h := ecN_of (n := m) (by omega)
  unfold ecN at h
  split at h
  ·
   rename_i ws p q e1 e2 e3
   simp only [Bool.and_eq_true, beq_iff_eq] at h
   exact ⟨q.1, q.2, Ev.of (fun k => spec_AsQueue.mono _ k) (beq_opt h.2.2.2.1), e3, fun _ => hn⟩
  ·
   cases h
 ·
  refine ⟨(⟨#[]⟩ : ByteArray), false, ?_, ?_, fun h => by cases h⟩
  ·
   unfold spec_AsQueue.f
   simp only [l1In_is, Option.bind_some]
   exact Ev.neg (by simpa using hn) (Ev.val rfl)
  ·
   unfold impl_AsQueue.f
   simp only [isSize_is, Option.bind_some]
   rw [if_neg (by simpa using hn)]
theorem IES_ev (l : List Int) (hn : l.length ≤ 1000) : ∃ c : Bool, Ev (fun k => spec_IsEndsSortable.f k l) (c, isOrd l) ∧ Ev (fun k => impl_IsEndsSortable.f k l) (c, isOrd l) ∧ (isOrd l = true → ∃ p : Bool, Ev (fun k => impl_IsSortable.f k l) (p, true) ∧ (p = true → c = true)) := by
 by_cases hc : isOrd l = true
 ·
  have := isOrd_len hc
  obtain ⟨r, h1, h2⟩ := endsTo_both l (marked 1 l.length) (by omega) (by rw [marked_length]; omega)
  refine ⟨r.2, ?_, ?_, fun _ => ?_⟩
  ·
   rw [hc]
   unfold spec_IsEndsSortable.f
   refine Ev.bind (l2Order_ev l (by omega)) (Ev.pos hc ?_)
   exact Ev.bind (l2Sorted_ev l.length (by omega)) (Ev.bind h1 (Ev.val rfl))
  ·
   rw [hc]
   unfold impl_IsEndsSortable.f
   refine Ev.bind (isOrder_ev l (by omega)) (Ev.pos hc ?_)
   exact Ev.bind (sorted_ev l.length (by omega)) (Ev.bind h2 (Ev.val rfl))
  ·
   have h := (eb_of hc).2
   unfold edOk at h
   split at h
   ·
    rename_i p x e1 e2
    have e3 := ec_one h2 (Ev.of (fun k => impl_endsTo.mono _ _ k) e2)
    refine ⟨p, ?_, fun hp => ?_⟩
    ·
     unfold impl_IsSortable.f
     exact Ev.bind (isOrder_ev l (by omega)) (Ev.pos hc (Ev.bind (Ev.of (fun k => impl_isSortable.mono _ k) e1) (Ev.val rfl)))
    ·
     rw [e3]
     rw [hp] at h
     simpa using h
   ·
    cases h
 ·
  have hb : isOrd l = false := by simpa using hc
  rw [hb]
  refine ⟨false, ?_, ?_, fun h => by cases h⟩
  ·
   unfold spec_IsEndsSortable.f
   exact Ev.bind (l2Order_ev l (by omega)) (Ev.neg hc (Ev.val rfl))
  ·
   unfold impl_IsEndsSortable.f
   exact Ev.bind (isOrder_ev l (by omega)) (Ev.neg hc (Ev.val rfl))
theorem runEnds_ren {f : Int → Int} (h : Ren f) : ∀ k a (q : ByteArray) b c e g, impl_RunEnds.l0 k (a.map f) q (b.map f) (c.map f) e g = (impl_RunEnds.l0 k a q b c e g).map fun r => (r.1.map f, r.2)
 | 0, _, _, _, _, _, _ => rfl
 | k + 1, a, q, b, c, e, g => by
  simp only [impl_RunEnds.l0, List.length_map, rd_ren h, ← List.map_drop, ← List.map_take, snoc_ren, runEnds_ren h k, apply_ite (Option.map fun r : List Int × Bool => (r.1.map f, r.2)), Option.map_none, Option.map_some]
theorem RE_ev {o : List Int} (h : isOrd o = true) {q : ByteArray} {b : Bool} (hq : impl_AsQueue.f (o.length : Int) = some (q, b)) : Ev (fun k => impl_RunEnds.f k o q) (o, true) := by
 have hl := isOrd_len h
 have h2 := ecN_of (n := o.length) hl
 unfold ecN at h2
 split at h2
 ·
  rename_i ws p q2 e1 e2 e3
  rw [hq] at e3
  obtain rfl := Option.some.inj e3
  simp only [Bool.and_eq_true, beq_iff_eq, decide_eq_true_eq] at h2
  have f1 := h2.2.2.2.2.1
  have f2 := h2.2.2.2.2.2.1
  have f3 := h2.2.2.2.2.2.2
  have f4 := runEnds_ren (renO_ren h) 100 (marked 1 o.length) q [] [] (q.size : Int) 0
  rw [renO_sorted h, f3, Option.map_some] at f4
  simp only [renO_sorted h, List.map_nil] at f4
  unfold impl_RunEnds.f
  refine Ev.bind (isOrder_ev o (by omega)) (Ev.pos h (Ev.bind (Ev.of (fun k => impl_IsEndsWord.mono _ k) f1) (Ev.pos rfl ?_)))
  refine Ev.step (fun k => by rw [impl_RunEnds.j0]) (Ev.neg (by simp [f2]) ?_)
  exact Ev.of (fun k => (impl_RunEnds.mono_l k).2 _ _ _ _ _ _) f4
 ·
  cases h2
theorem DrawEndsOutputs_ok {s : List Int} (hs : CodeB s) : ∃ o : List Int, spec_DrawEndsOutputs.f s = some o ∧ o.length ≤ 8 := by
 unfold spec_DrawEndsOutputs.f spec_DrawOutputsOf.f
 obtain ⟨o, p1, st1, h1, ho, g1⟩ := order_ok hs 0 0 (by omega)
 obtain ⟨y, p3, st3, h3, _, _, g3⟩ := pick_ok hs p1 st1 6 ⟨g1.1, by omega⟩ (by omega)
 simp only [h1, Option.bind_some, spec_l1Cur_one.f, h3]
 by_cases hl : (o.length : Int) > 5
 ·
  rw [if_pos hl]
  by_cases hy : (y == 0) = true
  ·
   rw [if_pos hy]; exact ⟨o, rfl, ho⟩
  ·
   rw [if_neg hy]; exact ⟨_, rfl, by simp⟩
 ·
  rw [if_neg hl]; exact ⟨o, rfl, ho⟩
theorem DrawCountEnds_ok {s : List Int} (hs : CodeB s) : ∃ n : Int, spec_DrawCountEnds.f s = some n := by
 unfold spec_DrawCountEnds.f
 obtain ⟨n, p1, st1, h1, _, g1⟩ := among_ok hs 0 0 [3, 4, 2, 1, 5, 0, 8, 3, 6, 7, 4] (by omega) (by simp)
 exact ⟨n, by rw [h1]; rfl⟩
theorem DrawWordsOf_ok {s : List Int} (hs : CodeB s) : ∃ n : Int, spec_DrawWordsOf.f s = some n := by
 unfold spec_DrawWordsOf.f
 obtain ⟨y, p3, st3, h3, _, _, g3⟩ := pick_ok hs 0 0 9 (by omega) (by omega)
 exact ⟨y, by rw [h3]; rfl⟩
theorem DrawIsEndsSortable_ok {s : List Int} (hs : CodeB s) : ∃ o : List Int, spec_DrawIsEndsSortable.f s = some o ∧ o.length ≤ 8 := by
 unfold spec_DrawIsEndsSortable.f spec_DrawIsOrder.f
 obtain ⟨o, p1, st1, h1, ho, g1⟩ := order_ok hs 0 0 (by omega)
 exact ⟨o, by simp [h1], ho⟩
theorem FnEndsCounts : laws_FnEndsCounts.Pure := by
 intro l0 hm hr hw hv
 have hlen : l0.length ≤ 65536 := by
  unfold laws_rBig.f at hv
  have := of_decide_eq_false (Option.some.inj hv)
  omega
 have hs : CodeB l0 := ⟨by omega, fun x hx => by
  have := hw x hx
  have e0 : IntKind.u8.min = 0 := by decide
  have e1 : IntKind.u8.max = 255 := by decide
  simp [Lit.wf, e0, e1] at this
  omega⟩
 obtain ⟨o, g0, ho⟩ := DrawEndsOutputs_ok hs
 obtain ⟨n, g1⟩ := DrawCountEnds_ok hs
 obtain ⟨m, g2⟩ := DrawWordsOf_ok hs
 obtain ⟨x, g3, hx⟩ := DrawIsEndsSortable_ok hs
 obtain ⟨R, c, hR, hR2, ⟨K1, e1⟩, ⟨K2, e2⟩, ⟨K3, e3⟩, ⟨K4, e4⟩, hE⟩ := EC_ev o (by omega)
 obtain ⟨K5, e5⟩ := rLists_ev R hR hR2
 obtain ⟨r, ⟨K6, e6⟩, ⟨K7, e7⟩, hC⟩ := CE_ev n
 obtain ⟨pl, ⟨K8, e8⟩, ⟨K9, e9⟩, hP⟩ := CP_ev m
 obtain ⟨can, ⟨K10, e10⟩, ⟨K11, e11⟩, hI⟩ := IES_ev x (by omega)
 obtain ⟨K12, e12⟩ := isOrder_ev x (by omega)
 obtain ⟨q, five, ⟨K13, e13⟩, e14, hQ⟩ := AQ_ev m
 obtain ⟨K15, e15⟩ := rInts_ev o o (by omega)
 have h16 : ∃ (p : Bool) (K : Nat), ∀ k, K ≤ k → (isOrd x = true → impl_IsSortable.f k x = some (p, true)) ∧ (isOrd x = true → p = true → can = true) := by
  cases hc : isOrd x with
  | false => exact ⟨false, 0, fun _ _ => ⟨(fun h => by cases h), (fun h => by cases h)⟩⟩
  | true =>
   obtain ⟨p, ⟨K, e⟩, hp⟩ := hI hc
   exact ⟨p, K, fun k hk => ⟨fun _ => e k hk, fun _ => hp⟩⟩
 obtain ⟨p, K16, h16⟩ := h16
 have h17 : ∃ K, ∀ k, K ≤ k → five = true → isOrd o = true → (m == (o.length : Int)) = true → impl_RunEnds.f k o q = some (o, true) := by
  by_cases hc : isOrd o = true ∧ m = (o.length : Int)
  ·
   rw [hc.2] at e14
   obtain ⟨K, e⟩ := RE_ev hc.1 e14
   exact ⟨K, fun k hk _ _ _ => e k hk⟩
  ·
   exact ⟨0, fun _ _ _ h1 h2 => absurd ⟨h1, by simpa using h2⟩ hc⟩
 obtain ⟨K17, h17⟩ := h17
 have h18 : ∃ (ws : List ByteArray) (K : Nat), ∀ k, K ≤ k → isOrd o = true → impl_WordsOf.f k (o.length : Int) = some (ws, true) ∧ ws.length = cW o.length := by
  cases hc : isOrd o with
  | false => exact ⟨[], 0, fun _ _ h => by cases h⟩
  | true =>
   have h := ecN_of (isOrd_len hc)
   unfold ecN at h
   split at h
   ·
    rename_i ws p2 q2 f1 f2 f3
    simp only [Bool.and_eq_true, beq_iff_eq] at h
    obtain ⟨ws1, ws2⟩ := ws
    obtain ⟨K, e⟩ := Ev.of (fun k => impl_WordsOf.mono _ k) f1
    have h5 := h.1.1
    simp only [] at h5
    subst h5
    exact ⟨ws1, K, fun k hk _ => ⟨e k hk, h.1.2⟩⟩
   ·
    cases h
 obtain ⟨ws, K18, h18⟩ := h18
 have h19 : ∃ K, ∀ k, K ≤ k → isOrd o = true → ∀ t ∈ R, ∃ s : ByteArray, impl_EndsTo.f k o t = some (s, true) := by
  cases hc : isOrd o with
  | false => exact ⟨0, fun _ _ h => by cases h⟩
  | true =>
   have hA := (hE hc).2
   have : ∀ Q : List (List Int), (∀ t ∈ Q, t ∈ R) → ∃ K, ∀ k, K ≤ k → ∀ t ∈ Q, ∃ s : ByteArray, impl_EndsTo.f k o t = some (s, true) := by
    intro Q
    induction Q with
    | nil => exact fun _ => ⟨0, fun _ _ t ht => by simp at ht⟩
    | cons t Q ih =>
     intro hQ
     obtain ⟨K, e⟩ := ih fun y hy => hQ y (by simp [hy])
     obtain ⟨s, K2, e2⟩ := hA t (hQ t (by simp))
     refine ⟨K + K2, fun k hk y hy => ?_⟩
     rcases List.mem_cons.1 hy with rfl | hy
     ·
      exact ⟨s, e2 k (by omega)⟩
     ·
      exact e k (by omega) y hy
   obtain ⟨K, e⟩ := this R fun t ht => ht
   exact ⟨K, fun k hk _ => e k hk⟩
 obtain ⟨K19, h19⟩ := h19
 obtain ⟨KK, hKK⟩ : ∃ KK, KK = K1 + K2 + K3 + K4 + K5 + K6 + K7 + K8 + K9 + K10 + K11 + K12 + K13 + K15 + K16 + K17 + K18 + K19 := ⟨_, rfl⟩
 refine ⟨KK, o, R, isOrd o, c, n, r.1, r.2, m, pl.1, pl.2, x, can, isOrd x, m, q, five, p, ws, ?_⟩
 have is1 : ∀ k, impl_IsOrder.f k x = impl_isOrder.f k x := fun k => by unfold impl_IsOrder.f; cases impl_isOrder.f k x <;> rfl
 exact {
  f42 := hv
  f44 := g0
  f47 := e2 _ (by omega)
  f52 := e1 _ (by omega)
  f61 := e5 _ (by omega)
  f66 := e4 _ (by omega)
  f71 := e3 _ (by omega)
  f88 := g1
  f91 := e7 _ (by omega)
  f96 := e6 _ (by omega)
  f108 := by unfold spec_DrawCountPlainEnds.f; rw [g2]; rfl
  f111 := e9 _ (by omega)
  f116 := e8 _ (by omega)
  f128 := g3
  f131 := e11 _ (by omega)
  f136 := e10 _ (by omega)
  f150 := (is1 _).trans (e12 _ (by omega))
  f154 := by unfold spec_DrawAsQueue.f; rw [g2]; rfl
  f157 := e14
  f162 := e13 _ (by omega)
  srt := (h16 _ (by omega)).1
  pcan := (h16 KK (by omega)).2
  le := fun h1 h2 h3 => by
   obtain ⟨j, f1, f2, f3⟩ := hC h1
   have f4 := hP h2 j (by rw [← f1]; exact (by simpa using h3 : n = m).symm)
   exact decide_eq_false (by omega)
  run := h17 _ (by omega)
  oo := (e15 _ (by omega)).trans (by simp)
  wrd := fun h => (h18 KK (by omega) h).1
  sum := fun h => by
   have f1 := (h18 KK (by omega) h).2
   have f2 := (hE h).1.2
   rw [f1, f2, w64 (by omega)]
   exact bne_self_eq_false _
  cnt := fun h h2 h3 => by
   obtain ⟨j, f1, f2, f3⟩ := hC h2
   have f4 := (hE h).1.1
   have f6 : n = (o.length : Int) := by simpa using h3
   have f5 : j = o.length := by omega
   rw [f3, f4, f5]
   exact bne_self_eq_false _
  lenA := by omega
  each := h19 _ (by omega) }
end Go.Proofs.Ytfjbgmemjjjjoaa.Pure
