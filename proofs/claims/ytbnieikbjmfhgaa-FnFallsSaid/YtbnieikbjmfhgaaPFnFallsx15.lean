-- laid by mkprint.py, a program of this claim's writer, over the kit's print program; parts of it are typed by hand
import Derived.Test.YtbnieikbjmfhgaaPFnFallsx0
import Derived.Test.YtbnieikbjmfhgaaPFnFallsx9
import Derived.Test.YtbnieikbjmfhgaaPFnFallsx14
namespace Go.Proofs.Ytbnieikbjmfhgaa.PFnFalls
open Go.RowKit Go.Proofs.YtbnieikbjmfhgaaW.PrintWords Go.Proofs.YtbnieikbjmfhgaaW.PrintLast Go.Proofs.YtbnieikbjmfhgaaW.PrintMore
attribute [local go_sem] max2_int min2_int max_two min_two max_three min_three max_four min_four
set_option linter.unusedVariables false
set_option linter.unusedSimpArgs false
def cmpL : List Int → List Int → Int
 | a :: s, b :: t => if a = b then cmpL s t else if a < b then -1 else 1
 | _, _ => 0
def cmpO (x y : List Int) : Int := if x.length = y.length then cmpL x y else (x.length : Int) - (y.length : Int)
theorem cmpL_self : ∀ x : List Int, cmpL x x = 0
 | [] => rfl
 | a :: s => by rw [cmpL, if_pos rfl, cmpL_self s]
theorem cmpL_eq : ∀ x y : List Int, x.length = y.length → ¬ cmpL x y < 0 → ¬ cmpL y x < 0 → x = y
 | [], [], _, _, _ => rfl
 | [], _ :: _, h, _, _ => by simp at h
 | _ :: _, [], h, _, _ => by simp at h
 | a :: s, b :: t, h, h1, h2 => by
  rw [cmpL] at h1 h2
  by_cases e : a = b
  ·
   subst e
   rw [if_pos rfl] at h1 h2
   rw [cmpL_eq s t (by simpa using h) h1 h2]
  ·
   rw [if_neg e] at h1
   rw [if_neg (Ne.symm e)] at h2
   exfalso
   by_cases c : a < b
   ·
    rw [if_pos c] at h1; omega
   ·
    rw [if_pos (show b < a by omega)] at h2; omega
theorem cmpL_trans : ∀ x y z : List Int, x.length = y.length → y.length = z.length → cmpL x y < 0 → cmpL y z < 0 → cmpL x z < 0
 | [], _, _, _, _, h, _ => by simp [cmpL] at h
 | _ :: _, [], _, h, _, _, _ => by simp at h
 | _ :: _, _ :: _, [], _, h, _, _ => by simp at h
 | a :: s, b :: t, c :: u, h, h', h1, h2 => by
  rw [cmpL] at h1 h2 ⊢
  by_cases e1 : a = b
  ·
   subst e1
   rw [if_pos rfl] at h1
   by_cases e2 : a = c
   ·
    subst e2
    rw [if_pos rfl] at h2 ⊢
    exact cmpL_trans s t u (by simpa using h) (by simpa using h') h1 h2
   ·
    rw [if_neg e2] at h2 ⊢; exact h2
  ·
   rw [if_neg e1] at h1
   by_cases l1 : a < b
   ·
    by_cases e2 : b = c
    ·
     subst e2; rw [if_neg e1, if_pos l1]; omega
    ·
     rw [if_neg e2] at h2
     by_cases l2 : b < c
     ·
      rw [if_neg (by omega), if_pos (by omega)]; omega
     ·
      rw [if_neg l2] at h2; omega
   ·
    rw [if_neg l1] at h1; omega
theorem cmpO_eq (x y : List Int) (h1 : ¬ cmpO x y < 0) (h2 : ¬ cmpO y x < 0) : x = y := by
 unfold cmpO at h1 h2
 by_cases h : x.length = y.length
 ·
  rw [if_pos h] at h1
  rw [if_pos h.symm] at h2
  exact cmpL_eq x y h h1 h2
 ·
  rw [if_neg h] at h1
  rw [if_neg (Ne.symm h)] at h2
  omega
theorem cmpO_self (x : List Int) : cmpO x x = 0 := by rw [cmpO, if_pos rfl, cmpL_self]
theorem cmpO_trans (x y z : List Int) (h1 : cmpO x y < 0) (h2 : cmpO y z < 0) : cmpO x z < 0 := by
 unfold cmpO at h1 h2 ⊢
 by_cases e1 : x.length = y.length
 ·
  rw [if_pos e1] at h1
  by_cases e2 : y.length = z.length
  ·
   rw [if_pos e2] at h2
   rw [if_pos (e1.trans e2)]
   exact cmpL_trans x y z e1 e2 h1 h2
  ·
   rw [if_neg e2] at h2
   rw [if_neg (by omega)]
   omega
 ·
  rw [if_neg e1] at h1
  by_cases e2 : y.length = z.length
  ·
   rw [if_neg (by omega)]; omega
  ·
   rw [if_neg e2] at h2
   rw [if_neg (by omega)]
   omega
theorem cmpO_swo {α : Type} (row : α → List Int) : Go.Sort.SWO (Go.Proofs.ltOf fun x y => cmpO (row x) (row y)) where
 irrefl x := by simp [Go.Proofs.ltOf, cmpO_self]
 trans x y z h1 h2 := by
  simp only [Go.Proofs.ltOf, decide_eq_true_eq] at h1 h2 ⊢
  exact cmpO_trans _ _ _ h1 h2
 ntrans x y z h1 h2 := by
  simp only [Go.Proofs.ltOf, decide_eq_false_iff_not] at h1 h2 ⊢
  intro h
  by_cases c : cmpO (row y) (row x) < 0
  ·
   exact h2 (cmpO_trans _ _ _ c h)
  ·
   rw [cmpO_eq _ _ h1 c] at h; exact h2 h
def leO (x y : List Int) : Bool := !decide (cmpO y x < 0)
def sortL (l : List (List Int)) : List (List Int) := l.mergeSort leO
theorem leO_trans (a b c : List Int) (h1 : leO a b = true) (h2 : leO b c = true) : leO a c = true := by
 simp only [leO, Bool.not_eq_true', decide_eq_false_iff_not] at h1 h2 ⊢
 intro h
 by_cases q : cmpO a b < 0
 ·
  exact h2 (cmpO_trans _ _ _ h q)
 ·
  rw [cmpO_eq _ _ q h1] at h; exact h2 h
theorem leO_total (a b : List Int) : (leO a b || leO b a) = true := by
 simp only [leO, Bool.or_eq_true, Bool.not_eq_true', decide_eq_false_iff_not]
 by_cases h : cmpO b a < 0
 ·
  right; intro h2; have := cmpO_trans _ _ _ h h2; rw [cmpO_self] at this; omega
 ·
  exact .inl h
theorem leO_anti (a b : List Int) (h1 : leO a b = true) (h2 : leO b a = true) : a = b := by
 simp only [leO, Bool.not_eq_true', decide_eq_false_iff_not] at h1 h2
 exact cmpO_eq a b h2 h1
theorem sortL_unique (l m : List (List Int)) (h : m.Perm l) (hs : m.Pairwise fun x y => leO x y = true) : m = sortL l :=
 List.Perm.eq_of_pairwise (le := fun a b => leO a b = true) (fun a b _ _ h1 h2 => leO_anti a b h1 h2) hs (List.pairwise_mergeSort leO_trans leO_total l) (h.trans (List.mergeSort_perm l leO).symm)
theorem sortL_perm (l : List (List Int)) : (sortL l).Perm l := List.mergeSort_perm l leO
def slices_SortFunc.ren : Go.Shelf.Ren := { f := fun x => if x = 6 then 110 else if x = 14 then 124 else if x = 15 then 125 else if x = 20 then 131 else if x = 21 then 132 else if x = 22 then 133 else if x = 23 then 134 else if x = 24 then 135 else if x = 25 then 136 else if x = 26 then 137 else if x = 27 then 138 else if x = 28 then 139 else if x = 29 then 140 else if x = 46 then 143 else if x = 47 then 144 else if x = 48 then 145 else if x = 49 then 146 else if x = 50 then 147 else if x = 57 then 148 else x, t := fun x => if x = 0 then 0 else if x = 3 then 3 else if x = 4 then 4 else if x = 5 then 5 else if x = 9 then 9 else if x = 22 then 52 else if x = 24 then 24 else if x = 25 then 95 else if x = 39 then 80 else if x = 45 then 112 else if x = 46 then 113 else if x = 50 then 37 else if x = 53 then 98 else if x = 55 then 57 else if x = 66 then 120 else if x = 70 then 124 else if x = 76 then 126 else if x = 77 then 33 else x, g := fun x => x }
theorem slices_SortFunc.lays : Go.Proofs.SlLaysF.n6 Try.prog slices_SortFunc.ren := { mixed := by kernel_rfl, f6 := ⟨Try.f110.name, by kernel_rfl, Try.func110.trans (congrArg some (by kernel_rfl))⟩, f14 := ⟨Try.f124.name, by kernel_rfl, Try.func124.trans (congrArg some (by kernel_rfl))⟩, f15 := Try.func125.trans (congrArg some (by kernel_rfl)), f20 := ⟨Try.f131.name, by kernel_rfl, Try.func131.trans (congrArg some (by kernel_rfl))⟩, f21 := ⟨Try.f132.name, by kernel_rfl, Try.func132.trans (congrArg some (by kernel_rfl))⟩, f22 := ⟨Try.f133.name, by kernel_rfl, Try.func133.trans (congrArg some (by kernel_rfl))⟩, f23 := ⟨Try.f134.name, by kernel_rfl, Try.func134.trans (congrArg some (by kernel_rfl))⟩, f24 := ⟨Try.f135.name, by kernel_rfl, Try.func135.trans (congrArg some (by kernel_rfl))⟩, f25 := ⟨Try.f136.name, by kernel_rfl, Try.func136.trans (congrArg some (by kernel_rfl))⟩, f26 := ⟨Try.f137.name, by kernel_rfl, Try.func137.trans (congrArg some (by kernel_rfl))⟩, f27 := ⟨Try.f138.name, by kernel_rfl, Try.func138.trans (congrArg some (by kernel_rfl))⟩, f28 := Try.func139.trans (congrArg some (by kernel_rfl)), f29 := Try.func140.trans (congrArg some (by kernel_rfl)), f46 := ⟨Try.f143.name, by kernel_rfl, Try.func143.trans (congrArg some (by kernel_rfl))⟩, f47 := Try.func144.trans (congrArg some (by kernel_rfl)), f48 := Try.func145.trans (congrArg some (by kernel_rfl)), f49 := ⟨Try.f146.name, by kernel_rfl, Try.func146.trans (congrArg some (by kernel_rfl))⟩, f50 := ⟨Try.f147.name, by kernel_rfl, Try.func147.trans (congrArg some (by kernel_rfl))⟩, f57 := ⟨Try.f148.name, by kernel_rfl, Try.func148.trans (congrArg some (by kernel_rfl))⟩, t0 := Try.underlying0, a0 := Try.isAgg0, z0 := Try.sizeOf0, v0 := Try.zeroValue0, t3 := Try.underlying3, a3 := Try.isAgg3, z3 := Try.sizeOf3, v3 := Try.zeroValue3, t4 := Try.underlying4, a4 := Try.isAgg4, z4 := Try.sizeOf4, v4 := Try.zeroValue4, t5 := Try.underlying5, a5 := Try.isAgg5, z5 := Try.sizeOf5, v5 := Try.zeroValue5, t9 := Try.underlying9, a9 := Try.isAgg9, z9 := Try.sizeOf9, v9 := Try.zeroValue9, t22 := Try.underlying52, a22 := Try.isAgg52, z22 := Try.sizeOf52, v22 := Try.zeroValue52, a24 := Try.isAgg24, z24 := Try.sizeOf24, t25 := Try.underlying95, a25 := Try.isAgg95, z25 := Try.sizeOf95, v25 := Try.zeroValue95, t39 := Try.underlying80, a39 := Try.isAgg80, z39 := Try.sizeOf80, v39 := Try.zeroValue80, t45 := Try.underlying112, a45 := Try.isAgg112, z45 := Try.sizeOf112, v45 := Try.zeroValue112, t46 := Try.underlying113, a46 := Try.isAgg113, z46 := Try.sizeOf113, v46 := Try.zeroValue113, t50 := Try.underlying37, a50 := Try.isAgg37, z50 := Try.sizeOf37, v50 := Try.zeroValue37, t53 := Try.underlying98, a53 := Try.isAgg98, z53 := Try.sizeOf98, v53 := Try.zeroValue98, t55 := Try.underlying57, a55 := Try.isAgg57, z55 := Try.sizeOf57, v55 := Try.zeroValue57, t66 := Try.underlying120, a66 := Try.isAgg120, z66 := Try.sizeOf120, v66 := Try.zeroValue120, t70 := Try.underlying124, a70 := Try.isAgg124, z70 := Try.sizeOf124, v70 := Try.zeroValue124, t76 := Try.underlying126, a76 := Try.isAgg126, z76 := Try.sizeOf126, v76 := Try.zeroValue126, t77 := Try.underlying33, a77 := Try.isAgg33, z77 := Try.sizeOf33, v77 := Try.zeroValue33 }
theorem extract_all {β : Type} {n : Nat} (a : Array β) (h : a.size = n) : a.extract 0 n = a := by subst h; exact Array.extract_size
theorem finRange_val (n : Nat) : (List.finRange n).map (fun i => i.val) = List.range n := by
 apply List.ext_getElem
 ·
  simp
 ·
  intro i h1 h2
  simp
theorem sortWorld_kept {α : Type} [Inhabited α] (enc : α → Value) (w : World) (g n : Nat) (d : Array α) (os : Array Obj) : Kept w (Go.Proofs.sortWorld enc w g 0 n d os) (fun k => k = g) := by
 refine ⟨?_, fun k hk hn => ?_⟩
 ·
  simp [Go.Proofs.sortWorld, Go.Sort.grow, Go.Sort.putRow, Go.Sort.mapBlock, Go.Sort.ahead]
 ·
  unfold Go.Proofs.sortWorld
  rw [Go.Sort.heap_grow_old _ _ (by simpa [Go.Sort.putRow, Go.Sort.mapBlock, Go.Sort.ahead] using hk)]
  simp only [Go.Sort.putRow, Go.Sort.mapBlock, Go.Sort.ahead]
  rw [Array.getElem?_modify, if_neg (Ne.symm hn)]
theorem sortWorld_row {α : Type} [Inhabited α] (enc : α → Value) (w : World) (g n : Nat) (d : Array α) (os : Array Obj) (cur : Array Value) (e : TypeId) (hh : w.heap[g]? = some (.cells cur e (0, 0))) (hs : d.size ≤ cur.size) :
  ∃ cur' : Array Value, (Go.Proofs.sortWorld enc w g 0 n d os).heap[g]? = some (.cells cur' e (0, 0)) ∧ cur'.size = cur.size ∧ ∀ t : Nat, t < d.size → cur'[t]? = some (enc d[t]!) := by
 have hg : g < w.heap.size := (Array.getElem?_eq_some_iff.1 hh).1
 refine ⟨Go.Sort.putCells enc 0 d cur, ?_, by simp [Go.Sort.putCells], fun t ht => ?_⟩
 ·
  unfold Go.Proofs.sortWorld
  rw [Go.Sort.heap_grow_old _ _ (by simpa [Go.Sort.putRow, Go.Sort.mapBlock, Go.Sort.ahead] using hg)]
  simp only [Go.Sort.putRow, Go.Sort.mapBlock, Go.Sort.ahead]
  rw [Array.getElem?_modify, if_pos rfl, hh]
  rfl
 ·
  simp only [Go.Sort.putCells, Array.getElem?_mapIdx]
  rw [Array.getElem?_eq_getElem (by omega), Option.map_some, if_pos ⟨by omega, by omega⟩, Nat.sub_zero]
set_option maxHeartbeats 8000000 in
set_option maxRecDepth 100000 in
theorem slices_SortFunc_int_int.calls (k : Nat) (P0_ : Nat → Prop) (u9000_ : Value) (l0 : List (List Int)) (w0 w : World) (hB : Below w0.heap.size w0 w) (ho0 : Kd.S (Kd.slice 3 (Kd.int .i64)) 24 w w0.heap.size P0_ u9000_ l0) (hp : 0 < l0.length) (hsm : l0.length ≤ 1000000) (hc : ∀ x ∈ l0, ∀ y ∈ l0, impl_compareOrders.f k x y = some (cmpO x y)) :
  Calls Try.prog 110 #[u9000_, .func (.func 111) #[] #[]] w fun e w' => e = .returned (.tuple #[]) ∧ Kd.S (Kd.slice 3 (Kd.int .i64)) 24 w' w0.heap.size P0_ u9000_ (sortL l0) ∧ Below w0.heap.size w0 w' ∧ Kept w w' (fun k_ => P0_ k_) := by
 obtain ⟨G0, c0, hv, _, _, _⟩ := Kd.S_form ho0 hp
 subst hv
 obtain ⟨_, hokG, hbG, hnc, hcm, cur, f, hcur, hcs, hrows⟩ := Kd.S_open ho0
 have hm1 : 9223372036854775807 = maxLen := by decide
 have hlen : l0.length ≤ maxLen := by omega
 haveI hin : Inhabited (Fin l0.length) := ⟨⟨0, hp⟩⟩
 obtain ⟨enc, henc⟩ : ∃ enc : Fin l0.length → Value, enc = fun i => (cur[i.val]?).getD undef := ⟨_, rfl⟩
 have hE : ∀ i : Fin l0.length, cur[i.val]? = some (enc i) ∧ ∃ A c, enc i = .slice A (l0[i.val]).length c ∧ Kd.R (Kd.int .i64) 3 w w0.heap.size (fun k_ => (P0_ k_ ∧ k_ ≠ G0) ∧ f k_ = i.val) (.slice A (l0[i.val]).length c) (l0[i.val]) := by
  intro i
  obtain ⟨v, h1, h2⟩ := hrows i.val l0[i.val] (List.getElem?_eq_getElem i.isLt)
  obtain ⟨A, c, rfl⟩ := Kd.R_slice h2
  have h3 : enc i = .slice A (l0[i.val]).length c := by rw [henc]; simp only [h1, Option.getD_some]
  exact ⟨by rw [h3]; exact h1, A, c, h3, h2⟩
 obtain ⟨d, hd⟩ : ∃ d : Array (Fin l0.length), d = Array.ofFn (fun i => i) := ⟨_, rfl⟩
 have hds : d.size = l0.length := by rw [hd]; simp
 have hdj : ∀ (j : Nat) (hj : j < l0.length), d[j]! = (⟨j, hj⟩ : Fin l0.length) := fun j hj => by
  rw [getElem!_pos d j (by omega)]
  subst hd
  simp
 have h1 : Go.Proofs.OneCell enc := fun i => by obtain ⟨_, A, c, h, _⟩ := hE i; rw [h]; rfl
 have hcmp : Go.Proofs.CmpReads Try.prog 111 #[] enc (fun i j => cmpO (l0[i.val]) (l0[j.val])) G0 0 d.size w := by
  intro m os dk hdk x y
  obtain ⟨_, Ax, cx, ex, Rx⟩ := hE x
  obtain ⟨_, Ay, cy, ey, Ry⟩ := hE y
  have hk := sortWorld_kept enc w G0 m dk os
  have Rx2 := Kd.R_reads' (Kd.R_kept Rx hk (fun k hk => hk.1.2))
  have Ry2 := Kd.R_reads' (Kd.R_kept Ry hk (fun k hk => hk.1.2))
  rw [ex, ey]
  refine (impl_compareOrders.calls k Ax cx (l0[x.val]) Ay cy (l0[y.val]) _ _ Rx2.2.2 Rx2.2.1 Ry2.2.2 Ry2.2.1 (hc _ (List.getElem_mem x.isLt) _ (List.getElem_mem y.isLt))).mono ?_
  rintro e w' ⟨rfl, ⟨nd, rfl⟩⟩
  exact ⟨rfl, nd, rfl⟩
 have hH : Go.Sort.Holds enc w G0 0 d := fun j hj => by
  have hj' : j < l0.length := by omega
  rw [hdj j hj', Nat.zero_add]
  exact ⟨(blk_cell hcur _).trans (hE ⟨j, hj'⟩).1, blk_frozen hcur _⟩
 have key := Go.Proofs.Any.slices_SortFunc slices_SortFunc.lays enc h1 (fun i j => cmpO (l0[i.val]) (l0[j.val])) (cmpO_swo fun i : Fin l0.length => l0[i.val]) 111 #[] G0 0 c0 d w (enters_of Try.func111 (by kernel_rfl) rfl) hcmp.lays hH (blk_lt hcur) (by omega)
 rw [hds] at key
 refine key.mono ?_
 rintro e w' ⟨rfl, d', n, os, hperm, hsort, rfl⟩
 obtain ⟨hp1, _, hp3⟩ := hperm
 rw [hds] at hp1
 have hk := sortWorld_kept enc w G0 n d' os
 obtain ⟨cur', hc', hs', ht'⟩ := sortWorld_row enc w G0 n d' os cur _ hcur (by omega)
 have hx1 : d'.extract 0 l0.length = d' := extract_all d' hp1
 have hx2 : d.extract 0 l0.length = d := extract_all d hds
 rw [hx1, hx2] at hp3
 have hdl : d.toList = List.finRange l0.length := by rw [hd, Array.toList_ofFn]; rfl
 rw [hdl] at hp3
 have hS := Kd.S_pick (z := []) (K := d'.toList.map fun i => i.val) ?nd hokG hbG hcm hrows hk hc' (hs'.trans hcs) (by rw [List.length_map, Array.length_toList]; omega) ?hK
 case nd =>
  refine (hp3.map _).nodup_iff.2 ?_
  rw [finRange_val]
  exact List.nodup_range
 case hK =>
  intro m t hmt
  rw [List.getElem?_map] at hmt
  obtain ⟨i, hi, rfl⟩ := Option.map_eq_some_iff.1 hmt
  rw [Array.getElem?_toList] at hi
  obtain ⟨hm, hi2⟩ := Array.getElem?_eq_some_iff.1 hi
  refine ⟨i.isLt, ?_⟩
  rw [ht' m hm, getElem!_pos d' m hm, hi2, (hE i).1]
 have hL : (d'.toList.map fun i => i.val).map (fun t => l0.getD t []) = sortL l0 := by
  rw [List.map_map]
  refine sortL_unique _ _ ?_ ?_
  ·
   refine (hp3.map _).trans ?_
   have : (List.finRange l0.length).map ((fun t => l0.getD t []) ∘ fun i => i.val) = l0 := by
    apply List.ext_getElem
    ·
     simp
    ·
     intro i h1 h2
     simp [List.getD_eq_getElem?_getD, h2]
   rw [this]
  ·
   rw [List.pairwise_map, List.pairwise_iff_getElem]
   intro i j hi hj hij
   have := hsort i j (Nat.zero_le _) hij (by simpa [hp1] using hj)
   rw [getElem!_pos d' i (by simpa using hi), getElem!_pos d' j (by simpa using hj)] at this
   simp only [Go.Proofs.ltOf, decide_eq_false_iff_not] at this
   simp only [leO, Bool.not_eq_true', decide_eq_false_iff_not, Function.comp, Array.getElem_toList, List.getD_eq_getElem?_getD]
   rw [List.getElem?_eq_getElem (Fin.isLt _), List.getElem?_eq_getElem (Fin.isLt _)]
   exact this
 rw [hL] at hS
 have hlk : (d'.toList.map fun i => i.val).length = l0.length := by rw [List.length_map, Array.length_toList, hp1]
 rw [hlk] at hS
 refine ⟨rfl, hS, ⟨hB.os, hB.tape, hB.output, Nat.le_trans hB.size hk.1, fun q hq => ?_⟩, hk.mono (fun q hq => by subst hq; exact hokG)⟩
 exact (hk.2 q (Nat.lt_of_lt_of_le hq hB.size) (by omega)).trans (hB.block q hq)
def cKeep (l : List (List Int)) (t : Nat) : Bool := t == 0 || !decide (l.getD t [] = l.getD (t - 1) [])
def cK (l : List (List Int)) (j : Nat) : List Nat := (List.range j).filter (cKeep l)
def compL (l : List (List Int)) : List (List Int) := (cK l l.length).map fun t => l.getD t []
theorem cK_succ (l : List (List Int)) (j : Nat) : cK l (j + 1) = if cKeep l j = true then cK l j ++ [j] else cK l j := by
 rw [cK, List.range_succ, List.filter_append]
 cases hp : cKeep l j <;> simp only [List.filter_cons, List.filter_nil, hp, if_true, if_false, List.append_nil, Bool.false_eq_true] <;> rfl
theorem cK_nodup (l : List (List Int)) (j : Nat) : (cK l j).Nodup := List.nodup_range.filter _
theorem cK_lt {l : List (List Int)} {j t : Nat} (h : t ∈ cK l j) : t < j := by
 have := (List.mem_filter.1 h).1
 simpa using this
theorem map_range_getD (l : List (List Int)) : (List.range l.length).map (fun t => l.getD t []) = l := by
 apply List.ext_getElem
 ·
  simp
 ·
  intro i h1 h2
  simp [List.getD_eq_getElem?_getD, h2]
theorem compL_range {l : List (List Int)} (h : cK l l.length = List.range l.length) : compL l = l := by rw [compL, h, map_range_getD]
def CompA (e' : Nat) (l : List (List Int)) (g : Nat) (cur : Array Value) (w0 w w' : World) (j : Int) : Prop :=
 1 ≤ j ∧ j ≤ l.length ∧ cK l j.toNat = List.range j.toNat ∧ Below w.heap.size w w'
def CompB (e' : Nat) (l : List (List Int)) (g cap : Nat) (cur : Array Value) (w0 w w' : World) (m : Nat) (i j : Int) : Prop :=
 0 ≤ i ∧ 1 ≤ j ∧ m + j ≤ l.length ∧ i < m + j ∧ i = (cK l (m + j.toNat)).length ∧ Kept w w' (fun k => k = g) ∧ Below w0.heap.size w0 w' ∧
  ∃ cur' : Array Value, w'.heap[g]? = some (.cells cur' e' (0, 0)) ∧ cur'.size = cap ∧ (∀ a t : Nat, (cK l (m + j.toNat))[a]? = some t → cur'[a]? = cur[t]?) ∧ ∀ t : Nat, m + j.toNat ≤ t + 1 → cur'[t]? = cur[t]?
set_option maxHeartbeats 8000000 in
set_option maxRecDepth 100000 in
theorem slices_CompactFunc_int_int.calls (k : Nat) (P0_ : Nat → Prop) (u9000_ : Value) (l0 : List (List Int)) (w0 w : World) (hB : Below w0.heap.size w0 w) (ho0 : Kd.S (Kd.slice 3 (Kd.int .i64)) 24 w w0.heap.size P0_ u9000_ l0) (hc : ∀ x ∈ l0, ∀ y ∈ l0, slices_Equal_int_int.f k x y = some (decide (x = y))) :
  Calls Try.prog 112 #[u9000_, .func (.func 73) #[] #[]] w fun e w' => ∃ v0_ : Value, e = .returned v0_ ∧ Kd.S (Kd.slice 3 (Kd.int .i64)) 24 w' w0.heap.size P0_ v0_ (compL l0) ∧ Below w0.heap.size w0 w' ∧ Kept w w' (fun k_ => P0_ k_) := by
 by_cases h2 : l0.length < 2
 ·
  obtain ⟨A0, c0, hv⟩ := Kd.S_slice ho0
  subst hv
  have hcl : compL l0 = l0 := compL_range (by
   rcases l0 with _ | ⟨a, _ | ⟨b, t⟩⟩
   ·
    rfl
   ·
    rfl
   ·
    exfalso; simp only [List.length_cons] at h2; omega)
  have c1 : decide ((l0.length : Int) < 2) = true := decide_eq_true (by omega)
  have c1b : decide (l0.length < 2) = true := decide_eq_true h2
  have HO := Aside0.mk ho0
  have HB := Aside0.mk hB
  clear ho0 hB hc
  rw [hcl]
  clear hcl h2
  go_enter Try.func112, Try.ntmps112
  go_wp2
  go_ret
  exact ⟨_, rfl, HO.out, HB.out, Kept.refl _ _⟩
 ·
  obtain ⟨G0, c0, hv, _, _, _⟩ := Kd.S_form ho0 (by omega)
  subst hv
  obtain ⟨_, hokG, hbG, hnc, hcm, cur, f, hcur, hcs, hrows⟩ := Kd.S_open ho0
  have hm1 : 9223372036854775807 = maxLen := by decide
  have c1 : decide ((l0.length : Int) < 2) = false := decide_eq_false (by omega)
  have c1b : decide (l0.length < 2) = false := decide_eq_false h2
  have HRW := Aside0.mk hrows
  have HG := Aside0.mk (show P0_ G0 ∧ w0.heap.size ≤ G0 ∧ l0.length ≤ c0 ∧ c0 ≤ maxLen ∧ cur.size = c0 ∧ 2 ≤ l0.length ∧ maxLen = 9223372036854775807 from ⟨hokG, hbG, hnc, hcm, hcs, by omega, hm1.symm⟩)
  have HCU := Aside0.mk hcur
  have HO := Aside0.mk ho0
  have HB := Aside0.mk hB
  have HC := Aside0.mk hc
  clear hrows hokG hbG hnc hcm hcs hcur ho0 hB hc hm1 h2
  go_enter Try.func112, Try.ntmps112
  go_wp2
  go_loopg [5] l0.length (fun kq v5 w' => ∃ j : Int, v5 = .int .i64 j ∧ Aside0 (kq + j.toNat = l0.length + 1) ∧ Aside0 (CompA 24 l0 G0 cur w0 w w' j))
  case atStart => exact ⟨1, rfl, ⟨rfl⟩, ⟨⟨by omega, by have := HG.out; omega, rfl, Below.refl _ _⟩⟩⟩
  case round =>
   clear c1 c1b
   obtain ⟨j, rfl, HK, HI⟩ := hrel
   obtain ⟨hj1, hjl, hcK, hbI⟩ := HI.out
   obtain ⟨hokG, hbG, hnc, hcm, hcs, h2, hm1⟩ := HG.out
   by_cases hj : j < (l0.length : Int)
   ·
    obtain ⟨jn, hjn⟩ : ∃ jn : Nat, j.toNat = jn := ⟨_, rfl⟩
    have hjl2 : jn < l0.length := by omega
    obtain ⟨x, hx⟩ : ∃ x, l0.getD jn [] = x := ⟨_, rfl⟩
    obtain ⟨y, hy⟩ : ∃ y, l0.getD (jn - 1) [] = y := ⟨_, rfl⟩
    have hxj : l0[jn]? = some x := by rw [← hx, List.getD_eq_getElem?_getD, List.getElem?_eq_getElem hjl2]; rfl
    have hyj : l0[jn - 1]? = some y := by rw [← hy, List.getD_eq_getElem?_getD, List.getElem?_eq_getElem (by omega)]; rfl
    obtain ⟨vj, hvj, hRj⟩ := HRW.out jn x hxj
    obtain ⟨vm, hvm, hRm⟩ := HRW.out (jn - 1) y hyj
    obtain ⟨Aj, cj, hvs⟩ := Kd.R_slice hRj
    subst hvs
    obtain ⟨Am, cm, hvs⟩ := Kd.R_slice hRm
    subst hvs
    have hcx := Kd.R_reads' (Kd.R_kept hRj (Kept.of_below hbI (fun k => k = G0)) (fun k hk => hk.1.2))
    have hcy := Kd.R_reads' (Kd.R_kept hRm (Kept.of_below hbI (fun k => k = G0)) (fun k hk => hk.1.2))
    have hc2 : wr.heap[G0]? = some (.cells cur 24 (0, 0)) := (hbI.block G0 (blk_lt HCU.out)).trans HCU.out
    obtain ⟨jm, hjm⟩ : ∃ jm : Int, jm = j - 1 := ⟨_, rfl⟩
    have z0 : IntKind.i64.wrap (j - 1) = jm := by rw [hjm]; exact (i64_w _).trans (IntWalk.wrap64_in _ (by omega))
    obtain ⟨j1, hj1e⟩ : ∃ j1 : Int, j1 = j + 1 := ⟨_, rfl⟩
    have z1 : IntKind.i64.wrap (j + 1) = j1 := by rw [hj1e]; exact (i64_w _).trans (IntWalk.wrap64_in _ (by omega))
    have e1 : wr.cell? ⟨G0, j.toNat, none⟩ = some (.slice Aj x.length cj) := (blk_cell hc2 _).trans (by rw [hjn]; exact hvj)
    have e2 : wr.cell? ⟨G0, jm.toNat, none⟩ = some (.slice Am y.length cm) := (blk_cell hc2 _).trans (by rw [show jm.toNat = jn - 1 by omega]; exact hvm)
    have p1 : (0 ≤ j) = True := eq_true (by omega)
    have q1 : (j < (l0.length : Int)) = True := eq_true hj
    have q1b : decide (j < (l0.length : Int)) = true := decide_eq_true hj
    have p2 : (0 ≤ jm) = True := eq_true (by omega)
    have q2 : (jm < (l0.length : Int)) = True := eq_true (by omega)
    obtain ⟨b, hb⟩ : ∃ b, decide (x = y) = b := ⟨_, rfl⟩
    have HEQ := Aside0.mk (show slices_Equal_int_int.f k x y = some b from (HC.out x (List.mem_of_getElem? hxj) y (List.mem_of_getElem? hyj)).trans (by rw [hb]))
    have HX := Aside0.mk (And.intro hx (And.intro hy (And.intro hjn (And.intro hj1e (And.intro hb hj)))))
    have HCx := Aside0.mk hcx
    have HCy := Aside0.mk hcy
    clear hj1 hjl hcK hbI hokG hbG hnc hcm hcs h2 hm1 hjn hjl2 hx hy hxj hyj hvj hRj hvm hRm hcx hcy hc2 hjm hj1e hb hj
    have BELW : ∀ w2 : World, Below wr.heap.size wr w2 → Below w.heap.size w w2 := fun w2 h_ => below_step HI.out.2.2.2 h_
    cases b with
    | false =>
     have INV2 : ∀ w2 : World, Below wr.heap.size wr w2 → CompA 24 l0 G0 cur w0 w w2 j1 := fun w2 hb2 => by
      obtain ⟨hj1, hjl, hcK, hbI⟩ := HI.out
      obtain ⟨hx, hy, hjn, hj1e, hb, hj⟩ := HX.out
      have h1 : j1.toNat = jn + 1 := by omega
      refine ⟨by omega, by omega, ?_, below_step hbI hb2⟩
      rw [h1, cK_succ, List.range_succ, ← hjn, hcK, hjn, if_pos]
      rw [cKeep, hx, hy, hb]; simp
     have INV3 := Aside0.mk INV2
     have HM := Aside0.mk (show gk - 1 + j1.toNat = l0.length + 1 ∧ gk - 1 < gk from by
      have h1 := HI.out.1
      obtain ⟨hx, hy, hjn, hj1e, hb, hj⟩ := HX.out
      have hkk := HK.out
      omega)
     clear HI HX HK INV2 BELW
     have eg72 := enters_of (P := Try.prog) Try.func73 (by kernel_rfl) rfl
     go_wp2
     go_quiet (first | ((with_reducible refine (slices_Equal_int_int.calls k _ _ x _ _ y _ _ ?side1 ?side2 ?side3 ?side4 HEQ.out).mono ?_); (case side1 => repeat (first | exact HCx.out.2.2 | (with_reducible refine Kd.C_alloc ?_ _) | (with_reducible refine Kd.C_drewN ?_ _) | (with_reducible refine Kd.C_drew ?_))); (case side2 => exact HCx.out.2.1); (case side3 => repeat (first | exact HCy.out.2.2 | (with_reducible refine Kd.C_alloc ?_ _) | (with_reducible refine Kd.C_drewN ?_ _) | (with_reducible refine Kd.C_drew ?_))); (case side4 => exact HCy.out.2.1); rintro e w' ⟨rfl, ⟨nd, rfl⟩⟩; (try first | exact ⟨rfl, _, World.drewN_drewN _ _ _⟩ | exact ⟨rfl, _, Eq.trans (World.drewN_drewN _ _ _) (congrArg (World.drewN _) (Nat.add_assoc _ _ _))⟩)))
     go_wp2
     go_roundg (gk - 1)
     case measure => exact HM.out.2
     case rel => exact ⟨j1, rfl, ⟨HM.out.1⟩, ⟨INV3.out _ (by repeat (first | exact Below.refl _ _ | apply below_alloc | apply pw_below_drewN | apply below_drew1))⟩⟩
    | true =>
     have eg72 := enters_of (P := Try.prog) Try.func73 (by kernel_rfl) rfl
     go_wp2
     go_quiet (first | ((with_reducible refine (slices_Equal_int_int.calls k _ _ x _ _ y _ _ ?side1 ?side2 ?side3 ?side4 HEQ.out).mono ?_); (case side1 => repeat (first | exact HCx.out.2.2 | (with_reducible refine Kd.C_alloc ?_ _) | (with_reducible refine Kd.C_drewN ?_ _) | (with_reducible refine Kd.C_drew ?_))); (case side2 => exact HCx.out.2.1); (case side3 => repeat (first | exact HCy.out.2.2 | (with_reducible refine Kd.C_alloc ?_ _) | (with_reducible refine Kd.C_drewN ?_ _) | (with_reducible refine Kd.C_drew ?_))); (case side4 => exact HCy.out.2.1); rintro e w' ⟨rfl, ⟨nd, rfl⟩⟩; (try first | exact ⟨rfl, _, World.drewN_drewN _ _ _⟩ | exact ⟨rfl, _, Eq.trans (World.drewN_drewN _ _ _) (congrArg (World.drewN _) (Nat.add_assoc _ _ _))⟩)))
     obtain ⟨m, hm⟩ : ∃ m : Nat, j = m := ⟨j.toNat, by have := HI.out.1; omega⟩
     subst hm
     have hml : m < l0.length := by have := HX.out; omega
     have hmc : ¬ c0 = m := by have := HG.out; omega
     have hmc2 : m ≤ c0 := by have := HG.out; omega
     have INVB := Aside0.mk (show ∀ w2 : World, Below wr.heap.size wr w2 → CompB 24 l0 G0 c0 cur w0 w w2 m (m : Int) 1 from fun w2 hb2 => by
      obtain ⟨hj1, hjl, hcK, hbI⟩ := HI.out
      obtain ⟨hx, hy, hjn, hj1e, hb, hj⟩ := HX.out
      have hbI2 : Below w.heap.size w w2 := below_step hbI hb2
      rw [Int.toNat_natCast] at hcK hjn
      have hk1 : cK l0 (m + 1) = List.range m := by
       rw [cK_succ, if_neg, hcK]
       subst hjn
       rw [cKeep, hx, hy, hb]; simp; omega
      refine ⟨by omega, by omega, by omega, by omega, ?_, Kept.of_below hbI2 _, below_step HB.out hbI2, cur, (hbI2.block G0 (blk_lt HCU.out)).trans HCU.out, HG.out.2.2.2.2.1, fun a t hat => ?_, fun _ _ => rfl⟩
      ·
       rw [show (1 : Int).toNat = 1 from rfl, hk1, List.length_range]
      ·
       rw [show (1 : Int).toNat = 1 from rfl, hk1] at hat
       obtain ⟨ha, he⟩ := List.getElem?_eq_some_iff.1 hat
       rw [List.getElem_range] at he
       rw [he])
     clear HI HX HK z1 HO BELW
     go_wp2
     go_loopg [5, 7] l0.length (fun kq v5 v7 w' => ∃ i j : Int, v5 = .int .i64 i ∧ v7 = .int .i64 j ∧ Aside0 (kq + j.toNat = l0.length + 1) ∧ Aside0 (CompB 24 l0 G0 c0 cur w0 w w' m i j))
     case atStart => exact ⟨(m : Int), 1, rfl, rfl, ⟨rfl⟩, ⟨INVB.out _ (by repeat (first | exact Below.refl _ _ | apply below_alloc | apply pw_below_drewN | apply below_drew1))⟩⟩
     case round =>
      clear INVB p1 q1 q1b e1 e2 HCx HCy HEQ p2 q2 z0
      obtain ⟨i, j, rfl, rfl, HK, HI⟩ := hrel
      obtain ⟨hi0, hj1, hjl, hij, hik, hkept, hbel, cur2, hc2, hs2, hk2, ht2⟩ := HI.out
      obtain ⟨hokG, hbG, hnc, hcm, hcs, h2, hm1⟩ := HG.out
      by_cases hj : j < ((l0.length - m : Nat) : Int)
      ·
       obtain ⟨jn, hjn⟩ : ∃ jn : Nat, m + j.toNat = jn := ⟨_, rfl⟩
       have hjl2 : jn < l0.length := by omega
       obtain ⟨x, hx⟩ : ∃ x, l0.getD jn [] = x := ⟨_, rfl⟩
       obtain ⟨y, hy⟩ : ∃ y, l0.getD (jn - 1) [] = y := ⟨_, rfl⟩
       have hxj : l0[jn]? = some x := by rw [← hx, List.getD_eq_getElem?_getD, List.getElem?_eq_getElem hjl2]; rfl
       have hyj : l0[jn - 1]? = some y := by rw [← hy, List.getD_eq_getElem?_getD, List.getElem?_eq_getElem (by omega)]; rfl
       obtain ⟨vj, hvj, hRj⟩ := HRW.out jn x hxj
       obtain ⟨vm, hvm, hRm⟩ := HRW.out (jn - 1) y hyj
       obtain ⟨Aj, cj, hvs⟩ := Kd.R_slice hRj
       subst hvs
       obtain ⟨Am, cm, hvs⟩ := Kd.R_slice hRm
       subst hvs
       have hcx := Kd.R_reads' (Kd.R_kept hRj hkept (fun k hk => hk.1.2))
       have hcy := Kd.R_reads' (Kd.R_kept hRm hkept (fun k hk => hk.1.2))
       obtain ⟨jm, hjm⟩ : ∃ jm : Int, jm = j - 1 := ⟨_, rfl⟩
       have z0 : IntKind.i64.wrap (j - 1) = jm := by rw [hjm]; exact (i64_w _).trans (IntWalk.wrap64_in _ (by omega))
       obtain ⟨j1, hj1e⟩ : ∃ j1 : Int, j1 = j + 1 := ⟨_, rfl⟩
       have z1 : IntKind.i64.wrap (j + 1) = j1 := by rw [hj1e]; exact (i64_w _).trans (IntWalk.wrap64_in _ (by omega))
       obtain ⟨i1, hi1e⟩ : ∃ i1 : Int, i1 = i + 1 := ⟨_, rfl⟩
       have z2 : IntKind.i64.wrap (i + 1) = i1 := by rw [hi1e]; exact (i64_w _).trans (IntWalk.wrap64_in _ (by omega))
       have e1 : wr.cell? ⟨G0, m + j.toNat, none⟩ = some (.slice Aj x.length cj) := (blk_cell hc2 _).trans ((ht2 _ (by omega)).trans (by rw [hjn]; exact hvj))
       have e2 : wr.cell? ⟨G0, m + jm.toNat, none⟩ = some (.slice Am y.length cm) := (blk_cell hc2 _).trans ((ht2 _ (by omega)).trans (by rw [show m + jm.toNat = jn - 1 by omega]; exact hvm))
       have p1 : (0 ≤ j) = True := eq_true (by omega)
       have q1 : (j < ((l0.length - m : Nat) : Int)) = True := eq_true hj
       have q1b : decide (j < ((l0.length - m : Nat) : Int)) = true := decide_eq_true hj
       have p2 : (0 ≤ jm) = True := eq_true (by omega)
       have q2 : (jm < ((l0.length - m : Nat) : Int)) = True := eq_true (by omega)
       have p3 : (0 ≤ i) = True := eq_true hi0
       have q3 : (i < (l0.length : Int)) = True := eq_true (by omega)
       obtain ⟨b, hb⟩ : ∃ b, decide (x = y) = b := ⟨_, rfl⟩
       have HEQ := Aside0.mk (show slices_Equal_int_int.f k x y = some b from (HC.out x (List.mem_of_getElem? hxj) y (List.mem_of_getElem? hyj)).trans (by rw [hb]))
       have HX := Aside0.mk (And.intro hx (And.intro hy (And.intro hjn (And.intro hj1e (And.intro hi1e (And.intro hb (And.intro hj hvj)))))))
       have HCx := Aside0.mk hcx
       have HCy := Aside0.mk hcy
       clear hi0 hj1 hjl hij hik hkept hbel hc2 hs2 hk2 ht2 hokG hbG hnc hcm hcs h2 hm1 hjn hjl2 hx hy hxj hyj hvj hRj hvm hRm hcx hcy hjm hj1e hi1e hb hj
       obtain ⟨hi0, hj1, hjl, hij, hik, hkept, hbel, cur2, hc2, hs2, hk2, ht2⟩ := HI.out
       obtain ⟨hokG, hbG, hnc, hcm, hcs, h2, hm1⟩ := HG.out
       obtain ⟨hx, hy, hjn, hj1e, hi1e, hb, hj, hvj⟩ := HX.out
       have hjn1 : m + j1.toNat = jn + 1 := by omega
       have hjn0 : jn ≠ 0 := by omega
       have HM := Aside0.mk (show gk - 1 + j1.toNat = l0.length + 1 ∧ gk - 1 < gk from by have := HK.out; omega)
       cases b with
       | true =>
        have INV2 := Aside0.mk (show ∀ w2 : World, Below wr.heap.size wr w2 → CompB 24 l0 G0 c0 cur w0 w w2 m i j1 from fun w2 hb2 => by
         have hc3 : w2.heap[G0]? = some (.cells cur2 24 (0, 0)) := (hb2.block G0 (blk_lt hc2)).trans hc2
         have hkept3 : Kept w w2 (fun k => k = G0) := hkept.below hb2
         have hbel3 : Below w0.heap.size w0 w2 := below_step hbel hb2
         have hke : cK l0 (m + j1.toNat) = cK l0 (m + j.toNat) := by
          rw [hjn1, hjn, cK_succ, if_neg]
          rw [cKeep, hx, hy, hb]; simp [hjn0]
         refine ⟨hi0, by omega, by omega, by omega, by rw [hke]; exact hik, hkept3, hbel3, cur2, hc3, hs2, by rw [hke]; exact hk2, fun t ht => ht2 t (by omega)⟩)
        clear hi0 hj1 hjl hij hik hkept hbel hc2 hs2 hk2 ht2 hokG hbG hnc hcm hcs h2 hm1 hx hy hjn hj1e hi1e hb hj hvj hjn1 hjn0 HI HK HX
        have eg72 := enters_of (P := Try.prog) Try.func73 (by kernel_rfl) rfl
        go_wp2
        go_quiet (first | ((with_reducible refine (slices_Equal_int_int.calls k _ _ x _ _ y _ _ ?side1 ?side2 ?side3 ?side4 HEQ.out).mono ?_); (case side1 => repeat (first | exact HCx.out.2.2 | (with_reducible refine Kd.C_alloc ?_ _) | (with_reducible refine Kd.C_drewN ?_ _) | (with_reducible refine Kd.C_drew ?_))); (case side2 => exact HCx.out.2.1); (case side3 => repeat (first | exact HCy.out.2.2 | (with_reducible refine Kd.C_alloc ?_ _) | (with_reducible refine Kd.C_drewN ?_ _) | (with_reducible refine Kd.C_drew ?_))); (case side4 => exact HCy.out.2.1); rintro e w' ⟨rfl, ⟨nd, rfl⟩⟩; (try first | exact ⟨rfl, _, World.drewN_drewN _ _ _⟩ | exact ⟨rfl, _, Eq.trans (World.drewN_drewN _ _ _) (congrArg (World.drewN _) (Nat.add_assoc _ _ _))⟩)))
        go_wp2
        go_roundg (gk - 1)
        case measure => exact HM.out.2
        case rel => exact ⟨i, j1, rfl, rfl, ⟨HM.out.1⟩, ⟨INV2.out _ (by repeat (first | exact Below.refl _ _ | apply below_alloc | apply pw_below_drewN | apply below_drew1))⟩⟩
       | false =>
        obtain ⟨vi, hvi⟩ : ∃ vi, cur2[i.toNat]? = some vi := ⟨_, Array.getElem?_eq_getElem (by omega)⟩
        have e3 : wr.cell? ⟨G0, i.toNat, none⟩ = some vi := (blk_cell hc2 _).trans hvi
        have f3 : wr.frozen? ⟨G0, i.toNat, none⟩ = false := blk_frozen hc2 _
        have INV2 := Aside0.mk (show ∀ w2 : World, Below wr.heap.size wr w2 → CompB 24 l0 G0 c0 cur w0 w (w2.setCell ⟨G0, i.toNat, none⟩ (.slice Aj x.length cj)) m i1 j1 from fun w2 hb2 => by
         have hc3 : w2.heap[G0]? = some (.cells cur2 24 (0, 0)) := (hb2.block G0 (blk_lt hc2)).trans hc2
         have hkept3 : Kept w w2 (fun k => k = G0) := hkept.below hb2
         have hbel3 : Below w0.heap.size w0 w2 := below_step hbel hb2
         have hke : cK l0 (m + j1.toNat) = cK l0 (m + j.toNat) ++ [jn] := by
          rw [hjn1, hjn, cK_succ, if_pos]
          rw [cKeep, hx, hy, hb]; simp
         refine ⟨by omega, by omega, by omega, by omega, by rw [hke, List.length_append, List.length_singleton]; omega, hkept3.setCell (.inl rfl) _, hbel3.setCell hbG _, cur2.setIfInBounds i.toNat (.slice Aj x.length cj), blk_put hc3 i.toNat _ rfl, by simpa using hs2, fun a t hat => ?_, fun t ht => ?_⟩
         ·
          rw [hke] at hat
          rw [Array.getElem?_setIfInBounds]
          by_cases hai : i.toNat = a
          ·
           rw [if_pos hai, if_pos (by omega)]
           have : t = jn := by
            rw [← hai, hik, Int.toNat_natCast, List.getElem?_append_right (Nat.le_refl _), Nat.sub_self] at hat
            simpa using hat.symm
           rw [this]
           exact hvj.symm
          ·
           rw [if_neg hai]
           refine hk2 a t ?_
           rw [List.getElem?_append_left] at hat
           ·
            exact hat
           ·
            have := (List.getElem?_eq_some_iff.1 hat).1
            rw [List.length_append, List.length_singleton] at this
            omega
         ·
          rw [Array.getElem?_setIfInBounds, if_neg (by omega)]
          exact ht2 t (by omega))
        clear hi0 hj1 hjl hij hik hkept hbel hc2 hs2 hk2 ht2 hokG hbG hnc hcm hcs h2 hm1 hx hy hjn hj1e hi1e hb hj hvj hjn1 hjn0 HI HK HX hvi
        have eg72 := enters_of (P := Try.prog) Try.func73 (by kernel_rfl) rfl
        go_wp2
        go_quiet (first | ((with_reducible refine (slices_Equal_int_int.calls k _ _ x _ _ y _ _ ?side1 ?side2 ?side3 ?side4 HEQ.out).mono ?_); (case side1 => repeat (first | exact HCx.out.2.2 | (with_reducible refine Kd.C_alloc ?_ _) | (with_reducible refine Kd.C_drewN ?_ _) | (with_reducible refine Kd.C_drew ?_))); (case side2 => exact HCx.out.2.1); (case side3 => repeat (first | exact HCy.out.2.2 | (with_reducible refine Kd.C_alloc ?_ _) | (with_reducible refine Kd.C_drewN ?_ _) | (with_reducible refine Kd.C_drew ?_))); (case side4 => exact HCy.out.2.1); rintro e w' ⟨rfl, ⟨nd, rfl⟩⟩; (try first | exact ⟨rfl, _, World.drewN_drewN _ _ _⟩ | exact ⟨rfl, _, Eq.trans (World.drewN_drewN _ _ _) (congrArg (World.drewN _) (Nat.add_assoc _ _ _))⟩)))
        go_wp2
        go_roundg (gk - 1)
        case measure => exact HM.out.2
        case rel => exact ⟨i1, j1, rfl, rfl, ⟨HM.out.1⟩, ⟨INV2.out _ (by repeat (first | exact Below.refl _ _ | apply below_alloc | apply pw_below_drewN | apply below_drew1))⟩⟩
      ·
       have q1b : decide (j < ((l0.length - m : Nat) : Int)) = false := decide_eq_false hj
       have hje : m + j.toNat = l0.length := by omega
       obtain ⟨n, hn⟩ : ∃ n : Nat, i = n := ⟨i.toNat, by omega⟩
       subst hn
       have hnl : n < l0.length := by omega
       have hnc2 : ¬ c0 = n := by omega
       have hnc3 : n ≤ c0 := by omega
       have hnk : n = (cK l0 l0.length).length := by rw [hje] at hik; omega
       have hcl : ∀ ty, (Builtin.clear_ #[52] ty #[.slice (some ⟨G0, n, none⟩) (l0.length - n) (c0 - n)]).run Try.prog wr = .ok (.tuple #[]) (wr.setCells G0 n (List.replicate (l0.length - n) (.slice none 0 0))) :=
        fun ty => Go.Lib.run_clear_slice wr 52 24 ty (.slice none 0 0) Try.underlying52 Try.zeroValue24 rfl rfl G0 n _ _ (by omega) (fun t ht => by rw [blk_cell hc2, Array.getElem?_eq_getElem (by omega)]; rfl) (fun t ht => blk_frozen hc2 _)
       rw [hje] at hk2
       have HZ := Aside0.mk (And.intro hkept (And.intro hbel (And.intro hc2 (And.intro hs2 (And.intro hk2 hnk)))))
       clear HK hi0 hj1 hjl hij hik hkept hbel hc2 hs2 hk2 ht2 hokG hbG hnc hcm hcs h2 hm1 hje hnk HI HC hj
       go_wp2
       go_ret
       obtain ⟨hkept, hbel, hc2, hs2, hk2, hnk⟩ := HZ.out
       obtain ⟨hokG, hbG, hnc, hcm, hcs, h2, hm1⟩ := HG.out
       have hrl : (List.replicate (l0.length - n) (Value.slice none 0 0)).length = l0.length - n := List.length_replicate
       obtain ⟨cur3, hc3, hs3, h3⟩ : ∃ cur3 : Array Value, (wr.setCells G0 n (List.replicate (l0.length - n) (.slice none 0 0))).heap[G0]? = some (.cells cur3 24 (0, 0)) ∧ cur3.size = c0 ∧ ∀ t : Nat, t < n → cur3[t]? = cur2[t]? := by
        obtain ⟨c3, h1, h2, h3⟩ := setCells_row (List.replicate (l0.length - n) (.slice none 0 0)) n wr cur2 hc2 (by rw [hrl]; omega)
        refine ⟨c3, h1, h2.trans hs2, fun t ht => ?_⟩
        rw [← Array.getElem?_toList, ← Array.getElem?_toList, h3, List.append_assoc, List.getElem?_append_left (by rw [List.length_take, Array.length_toList]; omega), List.getElem?_take, if_pos ht]
       have hkept3 : Kept w (wr.setCells G0 n (List.replicate (l0.length - n) (.slice none 0 0))) (fun k => k = G0) := hkept.then_ (S2 := fun k => k = G0) ⟨by rw [(setCells_same _ _ _ _).2.2.2]; exact Nat.le_refl _, fun i _ hn => setCells_far _ _ i hn⟩ (fun k hk => .inl hk)
       refine ⟨_, rfl, ?_, ?_, hkept3.mono (fun k hk => by subst hk; exact hokG)⟩
       ·
        have hS := Kd.S_pick (z := []) (cK_nodup l0 l0.length) hokG hbG hcm HRW.out hkept3 hc3 hs3 (by omega) (fun m2 t hmt => ⟨cK_lt (List.mem_of_getElem? hmt), (h3 m2 (by rw [hnk]; exact (List.getElem?_eq_some_iff.1 hmt).1)).trans (hk2 m2 t hmt)⟩)
        rw [← hnk] at hS
        exact hS
       ·
        obtain ⟨s1, s2, s3, s4⟩ := setCells_same G0 (List.replicate (l0.length - n) (.slice none 0 0)) n wr
        exact ⟨s1.trans hbel.os, s2.trans hbel.tape, s3.trans hbel.output, by rw [s4]; exact hbel.size, fun k hk => (setCells_far _ _ k (by omega)).trans (hbel.block k hk)⟩
   ·
    have q1b : decide (j < (l0.length : Int)) = false := decide_eq_false hj
    have hje : j.toNat = l0.length := by omega
    rw [hje] at hcK
    have HZ := Aside0.mk (And.intro hcK hbI)
    clear HK hj1 hjl hcK hbI hokG hbG hnc hcm hcs h2 hm1 hj hje HI
    go_wp2
    go_ret
    rw [compL_range HZ.out.1]
    exact ⟨_, rfl, Kd.S_below HO.out HZ.out.2, below_step HB.out HZ.out.2, Kept.of_below HZ.out.2 _⟩
def tidyOk (k : Nat) (l : List (List Int)) : Bool := l.all fun x => l.all fun y => (impl_compareOrders.f k x y == some (cmpO x y)) && (slices_Equal_int_int.f k x y == some (decide (x = y)))
theorem tidyOk_iff (k : Nat) (l : List (List Int)) : tidyOk k l = true ↔ ∀ x ∈ l, ∀ y ∈ l, impl_compareOrders.f k x y = some (cmpO x y) ∧ slices_Equal_int_int.f k x y = some (decide (x = y)) := by
 simp only [tidyOk, List.all_eq_true, Bool.and_eq_true, beq_iff_eq]
def impl_tidied.f (k : Nat) (l0 : List (List Int)) : Option (List (List Int)) := if 0 < l0.length ∧ l0.length ≤ 1000000 ∧ tidyOk k l0 = true then some (compL (sortL l0)) else none
theorem impl_tidied.mono : ∀ a0 k, LeO (impl_tidied.f k a0) (impl_tidied.f (k + 1) a0) := by
 intro l k r h
 unfold impl_tidied.f at h ⊢
 by_cases hc : 0 < l.length ∧ l.length ≤ 1000000 ∧ tidyOk k l = true
 ·
  rw [if_pos hc] at h
  rw [if_pos ⟨hc.1, hc.2.1, (tidyOk_iff _ _).2 fun x hx y hy => by
   obtain ⟨h1, h2⟩ := (tidyOk_iff _ _).1 hc.2.2 x hx y hy
   exact ⟨impl_compareOrders.mono x y k _ h1, slices_Equal_int_int.mono x y k _ h2⟩⟩]
  exact h
 ·
  rw [if_neg hc] at h; cases h
set_option maxHeartbeats 8000000 in
set_option maxRecDepth 100000 in
theorem impl_tidied.calls (k : Nat) (P0_ : Nat → Prop) (u9000_ : Value) (l0 : List (List Int)) (r : List (List Int)) (w0 w : World) (hB : Below w0.heap.size w0 w) (ho0 : Kd.S (Kd.slice 3 (Kd.int .i64)) 24 w w0.heap.size P0_ u9000_ l0) (h : impl_tidied.f k l0 = some r) :
  Calls Try.prog 87 #[u9000_] w fun e w' => ∃ v0_ : Value, e = .returned (v0_) ∧ Kd.S (Kd.slice 3 (Kd.int .i64)) 24 w' w0.heap.size (fun k_ => (P0_ k_ ∨ w.heap.size ≤ k_)) v0_ r ∧ Below w0.heap.size w0 w' ∧ Kept w w' (fun k_ => P0_ k_) := by
 unfold impl_tidied.f at h
 by_cases hc : 0 < l0.length ∧ l0.length ≤ 1000000 ∧ tidyOk k l0 = true
 case neg => rw [if_neg hc] at h; cases h
 rw [if_pos hc] at h
 obtain rfl := Option.some.inj h
 clear h
 have HK := Aside0.mk ((tidyOk_iff _ _).1 hc.2.2)
 have HP := Aside0.mk (And.intro hc.1 hc.2.1)
 have HB := Aside0.mk hB
 have HO := Aside0.mk ho0
 clear hc hB ho0
 go_enter Try.func87, Try.ntmps87
 (repeat ((fail_if_success (with_reducible refine gate_dst (N := 4) rfl ?_)); first | go_values | go_skip | go_guarded | go_step | go_upon))
 refine goesL_ (some 4) rfl rfl Try.func110 (by kernel_rfl) rfl #[u9000_, .func (.func 111) #[] #[]] rfl (by (try simp only [List.map_toArray, List.map_cons, List.map_nil]); first | done | rfl) ?_
 refine (slices_SortFunc_int_int.calls k P0_ u9000_ l0 w0 w HB.out HO.out HP.out.1 HP.out.2 (fun x hx y hy => (HK.out x hx y hy).1)).mono ?_
 rintro e w1 ⟨rfl, hS, hb, hk⟩
 refine ⟨_, rfl, ?_⟩
 have HS1 := Aside0.mk hS
 have HB1 := Aside0.mk hb
 have HK1 := Aside0.mk hk
 clear hS hb hk HO HB HP
 (repeat ((fail_if_success (with_reducible refine gate_dst (N := 6) rfl ?_)); first | go_values | go_skip | go_guarded | go_step | go_upon))
 refine goesL_ (some 6) rfl rfl Try.func112 (by kernel_rfl) rfl #[u9000_, .func (.func 73) #[] #[]] rfl (by (try simp only [List.map_toArray, List.map_cons, List.map_nil]); first | done | rfl) ?_
 refine (slices_CompactFunc_int_int.calls k P0_ u9000_ (sortL l0) w0 w1 HB1.out HS1.out (fun x hx y hy => (HK.out x ((sortL_perm l0).mem_iff.1 hx) y ((sortL_perm l0).mem_iff.1 hy)).2)).mono ?_
 rintro e w2 ⟨v2, rfl, hS, hb, hk⟩
 refine ⟨_, rfl, ?_⟩
 have HS2 := Aside0.mk hS
 have HB2 := Aside0.mk hb
 have HK2 := Aside0.mk (HK1.out.then_ hk (fun _ h_ => .inl h_))
 clear hS hb hk HS1 HB1 HK1 HK
 go_wp2
 go_ret
 exact ⟨_, rfl, Kd.S_mono HS2.out (fun _ h_ => .inl h_), HB2.out, HK2.out⟩
end Go.Proofs.Ytbnieikbjmfhgaa.PFnFalls
