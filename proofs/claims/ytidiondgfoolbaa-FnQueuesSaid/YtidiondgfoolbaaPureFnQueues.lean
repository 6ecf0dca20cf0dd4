/- The fewest queues are the longest fall, and ways into queues are there where queues are enough. -/
import Derived.Test.YtidiondgfoolbaaPFnQueuesx19
import Derived.Test.YtidiondgfoolbaaK
import Derived.Test.YtidiondgfoolbaaTFnQueues0
import Derived.Test.YtidiondgfoolbaaTFnQueues1
import Derived.Test.YtidiondgfoolbaaTFnQueues2
import Derived.Test.YtidiondgfoolbaaTFnQueues3
import Derived.Test.YtidiondgfoolbaaTFnQueues4
import Derived.Test.YtidiondgfoolbaaTFnQueues5
import Derived.Test.YtidiondgfoolbaaTFnQueues6
import Derived.Test.YtidiondgfoolbaaTFnQueues7
set_option linter.unusedVariables false
set_option linter.unusedSimpArgs false
namespace Go.Proofs.Ytidiondgfoolbaa.Pure
open Go.RowKit Go.Proofs.Ytidiondgfoolbaa.PFnQueues Go.Proofs.YtidiondgfoolbaaW.PrintWords Go.Proofs.YtidiondgfoolbaaW.PrintLast Go.Proofs.YtidiondgfoolbaaW.PrintMore
theorem fq_all : ∀ n ∈ [1, 2, 3, 4, 5, 6, 7], allO (intsTo n) fqOk n [] = true := by
  intro n hn
  by_cases h7 : n = 7
  · subst h7
    rw [allO]
    simp only [show intsTo 7 = [1, 2, 3, 4, 5, 6, 7] from rfl, List.all_cons, List.all_nil, List.contains_nil, Bool.false_or, Bool.and_true, Bool.and_eq_true]
    exact ⟨fq_all_71, fq_all_72, fq_all_73, fq_all_74, fq_all_75, fq_all_76, fq_all_77⟩
  · exact fq_all_6 n (by simp at hn ⊢; omega)
def cntQ (g : List Int → List (List Int)) (k : Int) (ls : List (List Int)) (m : Int) : Int := ls.foldl (fun m l => if ((g l).length : Int) ≤ k then wrap64 (m + 1) else m) m
theorem drop_stepL (l : List (List Int)) (i : Nat) (h : i < l.length) : l.drop i = l.getD i [] :: l.drop (i + 1) := by
  rw [List.getD_eq_getElem?_getD, List.getElem?_eq_getElem h]; exact List.drop_eq_getElem_cons h
theorem specCQ_l (kk : Int) (ls : List (List Int)) (hn : ls.length ≤ 100000) (hl : ∀ l ∈ ls, l.length ≤ 1000) : ∀ (d i : Nat) (m : Int), ls.length = i + d → Ev (fun k => spec_CountQueueable.l0 k kk m ls (i : Int)) (cntQ qS kk (ls.drop i) m, true)
  | 0, i, m, h => by
    refine Ev.step (fun k => by rw [spec_CountQueueable.l0]) ?_
    refine Ev.neg (by omega) (Ev.val ?_)
    rw [List.drop_of_length_le (by omega)]; rfl
  | d + 1, i, m, h => by
    refine Ev.step (fun k => by rw [spec_CountQueueable.l0]) ?_
    have e : wrap64 ((i : Int) + 1) = ((i + 1 : Nat) : Int) := by rw [w64 (by omega)]; omega
    simp only [e, rd_L5_nat]
    clear e
    refine Ev.pos (by omega) (Ev.pos (by omega) ?_)
    refine Ev.bind (l5Queues_ev _ (hl _ (getD_mem (by omega)))) ?_
    rw [drop_stepL ls i (by omega), cntQ, List.foldl_cons]
    refine Ev.ite (fun hc => ?_) (fun hc => ?_)
    · rw [if_pos hc]; exact specCQ_l kk ls hn hl d (i + 1) _ (by omega)
    · rw [if_neg hc]; exact specCQ_l kk ls hn hl d (i + 1) _ (by omega)
theorem implCQ_l (kk : Int) (ls : List (List Int)) (hn : ls.length ≤ 100000) (hl : ∀ l ∈ ls, l.length ≤ 1000) : ∀ (d i : Nat) (m : Int), ls.length = i + d → Ev (fun k => impl_CountQueueable.l0 k kk m ls (ls.length : Int) (i : Int)) (cntQ qI kk (ls.drop i) m, true)
  | 0, i, m, h => by
    refine Ev.step (fun k => by rw [impl_CountQueueable.l0]) ?_
    refine Ev.neg (by omega) (Ev.val ?_)
    rw [List.drop_of_length_le (by omega)]; rfl
  | d + 1, i, m, h => by
    refine Ev.step (fun k => by rw [impl_CountQueueable.l0]) ?_
    have e : wrap64 ((i : Int) + 1) = ((i + 1 : Nat) : Int) := by rw [w64 (by omega)]; omega
    simp only [e, rd_L5_nat]
    clear e
    refine Ev.pos (by omega) (Ev.pos (by omega) (Ev.pos (by omega) ?_))
    refine Ev.bind (queues_ev _ (hl _ (getD_mem (by omega)))) ?_
    rw [drop_stepL ls i (by omega), cntQ, List.foldl_cons]
    refine Ev.ite (fun hc => ?_) (fun hc => ?_)
    · rw [if_pos hc]; exact implCQ_l kk ls hn hl d (i + 1) _ (by omega)
    · rw [if_neg hc]; exact implCQ_l kk ls hn hl d (i + 1) _ (by omega)
theorem l3Size_is (a : Int) : spec_l3Size.f a = some (decide (1 ≤ a ∧ a ≤ 7)) := by
  unfold spec_l3Size.f
  rw [l1In_is]; rfl
theorem isQueues_is (a : Int) : impl_isQueues.f a = some (decide (1 ≤ a ∧ a ≤ 4)) := by
  unfold impl_isQueues.f
  by_cases h : a ≥ 1
  · rw [if_pos h]; simp [h]
  · rw [if_neg h]; simp; omega
structure FQ (l : List Int) : Prop where
  qs : qS l = qI l
  lr : riM true l = loR l
  lf : riM false l = loF l
  ur : upB true (riM true l) = true
  uf : upB false (riM false l) = true
  lq : (riM false l).length = (qI l).length
  eq : ∀ q ∈ qI l, upB true q = true
  tq : qTot (qI l) = l.length
  ob : isOrd l.reverse = true
  lb : (riM false l.reverse).length = (riM true l).length
  ar : l.length ≤ (riM true l).length * (riM false l).length
  qw : ∀ k : Nat, 1 ≤ k → k ≤ 4 → (qI l).length ≤ k → qwB l (List.replicate k 0) = true
theorem fq_is {l : List Int} (h : isOrd l = true) : FQ l := by
  have hh := orders_all h _ fq_all
  simp only [fqOk, Bool.and_eq_true] at hh
  obtain ⟨a1, a2, a3, a4, a5, a6, a7, a8, a9, a10, a11, a12, a13, a14, a15⟩ := hh
  exact { qs := by simpa [qOk] using a1, lr := eq_of_beq a2, lf := eq_of_beq a3, ur := a4, uf := a5, lq := eq_of_beq a6, eq := List.all_eq_true.1 a7, tq := eq_of_beq a8, ob := a9, lb := eq_of_beq a10, ar := of_decide_eq_true a11,
          qw := fun k h1 h4 hk => by
            have : k = 1 ∨ k = 2 ∨ k = 3 ∨ k = 4 := by omega
            rcases this with rfl | rfl | rfl | rfl
            · simpa [qwOk, hk] using a12
            · simpa [qwOk, hk] using a13
            · simpa [qwOk, hk] using a14
            · simpa [qwOk, hk] using a15 }
def cge (x : Int) (last : List Int) : Nat := last.countP fun y => decide (x ≤ y)
theorem cge_cons (x a : Int) (t : List Int) : cge x (a :: t) = cge x t + (if x ≤ a then 1 else 0) := by
  rw [cge, cge, List.countP_cons]
  simp only [decide_eq_true_eq]
theorem cge_set (x y : Int) : ∀ (last : List Int) (j : Nat), j < last.length → nth last j < y → cge x last ≤ cge x (last.set j y)
  | [], _, hj, _ => by simp at hj
  | a :: t, 0, _, h => by
    have h' : a < y := h
    rw [List.set_cons_zero, cge_cons, cge_cons]
    split <;> split <;> omega
  | a :: t, j + 1, hj, h => by
    have ih := cge_set x y t j (by simpa using hj) h
    rw [List.set_cons_succ, cge_cons, cge_cons]
    omega
theorem cge_mono (z y : Int) (h : z ≤ y) (l : List Int) : cge y l ≤ cge z l :=
  List.countP_mono_left fun a _ ha => by simp only [decide_eq_true_eq] at ha ⊢; omega
theorem cge_new (z y : Int) (hz : z ≤ y) : ∀ (last : List Int) (j : Nat), j < last.length → nth last j < y → cge y last + 1 ≤ cge z (last.set j y)
  | [], _, hj, _ => by simp at hj
  | a :: t, 0, _, h => by
    have h' : a < y := h
    have hm := cge_mono z y hz t
    rw [List.set_cons_zero, cge_cons, cge_cons, if_neg (by omega), if_pos hz]
    omega
  | a :: t, j + 1, hj, h => by
    have ih := cge_new z y hz t j (by simpa using hj) h
    rw [List.set_cons_succ, cge_cons, cge_cons]
    split <;> split <;> omega
theorem cge_lt (y : Int) : ∀ (last : List Int) (j : Nat), j < last.length → nth last j < y → cge y last + 1 ≤ last.length
  | [], _, hj, _ => by simp at hj
  | a :: t, 0, _, h => by
    have h' : a < y := h
    have : cge y t ≤ t.length := List.countP_le_length
    rw [cge_cons, if_neg (by omega), List.length_cons]
    omega
  | a :: t, j + 1, hj, h => by
    have ih := cge_lt y t j (by simpa using hj) h
    rw [cge_cons, List.length_cons]
    split <;> omega
theorem qwK_ex (b : List Int → Bool) (x : Int) (last : List Int) : ∀ d j : Nat, qwK b x last d j = true → ∃ i, i < j + d ∧ nth last i < x ∧ b (last.set i x) = true
  | 0, j, h => by simp [qwK] at h
  | d + 1, j, h => by
    rw [qwK, Bool.or_eq_true, Bool.and_eq_true, decide_eq_true_eq] at h
    rcases h with h | h
    · exact ⟨j, by omega, h.1, h.2⟩
    · obtain ⟨i, h1, h2⟩ := qwK_ex b x last d (j + 1) h
      exact ⟨i, by omega, h2⟩
theorem qwB_low : ∀ (l last s : List Int), qwB l last = true → s.Sublist l → ∀ x t, s = x :: t → upB false s = true → s.length + cge x last ≤ last.length
  | [], last, s, _, hs, x, t, e, _ => by
    rw [List.sublist_nil] at hs
    rw [hs] at e; cases e
  | y :: l, last, s, h, hs, x, t, e, hu => by
    rw [qwB] at h
    obtain ⟨j, hj, hlt, hb⟩ := qwK_ex _ _ _ _ _ h
    have hj' : j < last.length := by omega
    cases hs with
    | cons _ hs =>
      have ih := qwB_low l (last.set j y) s hb hs x t e hu
      have := cge_set x y last j hj' hlt
      rw [List.length_set] at ih
      omega
    | cons_cons _ hs =>
      obtain ⟨rfl, rfl⟩ := List.cons.inj e
      rename_i s'
      cases s' with
      | nil => have := cge_lt y last j hj' hlt; simp only [List.length_cons, List.length_nil]; omega
      | cons z t' =>
        rw [upB, Bool.and_eq_true] at hu
        have hz : z ≤ y := by have := eq_of_beq hu.1; have := of_decide_eq_false this; omega
        have ih := qwB_low l (last.set j y) (z :: t') hb hs z t' rfl hu.2
        have := cge_new z y hz last j hj' hlt
        rw [List.length_set] at ih
        rw [List.length_cons]
        omega
theorem riG_sub (r : Bool) : ∀ (t so x : List Int), x ∈ riG r so t → ∃ s : List Int, x = so ++ s ∧ s.Sublist t
  | [], _, _, h => by simp [riG] at h
  | y :: t, so, x, h => by
    rw [riG, List.mem_append] at h
    rcases h with h | h
    · by_cases c : cnd r so y = true
      · rw [if_pos c, List.mem_cons] at h
        rcases h with rfl | h
        · exact ⟨[y], rfl, List.Sublist.cons_cons _ (List.nil_sublist _)⟩
        · obtain ⟨s, h1, h2⟩ := riG_sub r t _ x h
          exact ⟨y :: s, by rw [h1]; simp, h2.cons_cons _⟩
      · rw [if_neg c] at h; cases h
    · obtain ⟨s, h1, h2⟩ := riG_sub r t so x h
      exact ⟨s, h1, h2.cons _⟩
theorem bst_in : ∀ (xs : List (List Int)) (b : List Int), xs.foldl bst b ∈ b :: xs
  | [], b => by simp
  | x :: xs, b => by
    have h := bst_in xs (bst b x)
    rw [List.foldl_cons]
    rcases List.mem_cons.1 h with h | h
    · rw [h]
      unfold bst
      split
      · simp
      · split
        · split <;> simp
        · simp
    · simp [h]
theorem riM_sub (r : Bool) (l : List Int) : (riM r l).Sublist l := by
  have h := bst_in (riG r [] l) []
  rcases List.mem_cons.1 h with h | h
  · rw [riM, h]; exact List.nil_sublist _
  · obtain ⟨s, h1, h2⟩ := riG_sub r l [] _ h
    rw [riM, h1]; exact h2
theorem qw_iff {l : List Int} (F : FQ l) (k : Nat) (h1 : 1 ≤ k) (h4 : k ≤ 4) : qwB l (List.replicate k 0) = true ↔ (qI l).length ≤ k := by
  refine ⟨fun h => ?_, F.qw k h1 h4⟩
  rw [← F.lq]
  have hs := riM_sub false l
  have hu := F.uf
  generalize riM false l = s at hs hu ⊢
  cases s with
  | nil => simp
  | cons x t =>
    have := qwB_low l _ _ h hs x t rfl hu
    rw [List.length_replicate] at this
    omega
def resLo (r : Bool) (l : List Int) : List Int × Bool := if isOrd l = true then (riM r l, true) else ([], false)
theorem riM_len (r : Bool) (l : List Int) : (riM r l).length ≤ l.length :=
  bst_le _ _ _ (by simp) (fun x hx => by have := riG_len r l [] x hx; simpa using this)
theorem resLo_len (r : Bool) (l : List Int) (hl : l.length ≤ 1000) : (resLo r l).1.length ≤ 1000 := by
  unfold resLo
  split
  · have := riM_len r l; simp only []; omega
  · simp
theorem specRise_ev (l : List Int) (hn : l.length ≤ 17592186044415) : Ev (fun k => spec_LongestRise.f k l) (resLo true l) := by
  unfold spec_LongestRise.f
  refine Ev.bind (l2Order_ev l (by omega)) (Ev.ite (fun hc => ?_) (fun hc => Ev.val ?_))
  · exact Ev.bind (l5Longest_ev true l (isOrd_len hc).2) (Ev.val (by simp [resLo, hc, riM]))
  · simp [resLo, hc]
theorem specFall_ev (l : List Int) (hn : l.length ≤ 17592186044415) : Ev (fun k => spec_LongestFall.f k l) (resLo false l) := by
  unfold spec_LongestFall.f
  refine Ev.bind (l2Order_ev l (by omega)) (Ev.ite (fun hc => ?_) (fun hc => Ev.val ?_))
  · exact Ev.bind (l5Longest_ev false l (isOrd_len hc).2) (Ev.val (by simp [resLo, hc, riM]))
  · simp [resLo, hc]
theorem implRise_ev (l : List Int) (hn : l.length ≤ 17592186044415) : Ev (fun k => impl_LongestRise.f k l) (resLo true l) := by
  unfold impl_LongestRise.f
  refine Ev.bind (isOrder_ev l (by omega)) (Ev.ite (fun hc => ?_) (fun hc => Ev.val ?_))
  · refine Ev.bind (a := loR l) ?_ (Ev.val (by rw [resLo, if_pos hc, (fq_is hc).lr]))
    unfold impl_longest.f
    have h7 := (isOrd_len hc).2
    exact Ev.pos (by omega) (lgGo_l _ (fun x => sortedB x (x.length - 1)) l h7 (fun x h1 h2 => isSorted_ev x (by omega) (by omega)) l.length (Nat.le_refl _))
  · simp [resLo, hc]
theorem implFall_ev (l : List Int) (hn : l.length ≤ 17592186044415) : Ev (fun k => impl_LongestFall.f k l) (resLo false l) := by
  unfold impl_LongestFall.f
  refine Ev.bind (isOrder_ev l (by omega)) (Ev.ite (fun hc => ?_) (fun hc => Ev.val ?_))
  · refine Ev.bind (a := loF l) ?_ (Ev.val (by rw [resLo, if_pos hc, (fq_is hc).lf]))
    unfold impl_longest.f
    have h7 := (isOrd_len hc).2
    exact Ev.pos (by omega) (lgGo_l _ (fun x => sortedB x.reverse (x.reverse.length - 1)) l h7 (fun x h1 h2 => isFall_ev x (by omega) (by omega)) l.length (Nat.le_refl _))
  · simp [resLo, hc]
def resQ (l : List Int) : List (List Int) × Bool := if isOrd l = true then (qI l, true) else ([], false)
theorem specQ_ev (l : List Int) (hn : l.length ≤ 17592186044415) : Ev (fun k => spec_QueuesOf.f k l) (resQ l) := by
  unfold spec_QueuesOf.f
  refine Ev.bind (l2Order_ev l (by omega)) (Ev.ite (fun hc => ?_) (fun hc => Ev.val ?_))
  · exact Ev.bind (l5Queues_ev l (by have := isOrd_len hc; omega)) (Ev.val (by simp [resQ, hc, (fq_is hc).qs]))
  · simp [resQ, hc]
theorem implQ_ev (l : List Int) (hn : l.length ≤ 17592186044415) : Ev (fun k => impl_QueuesOf.f k l) (resQ l) := by
  unfold impl_QueuesOf.f
  refine Ev.bind (isOrder_ev l (by omega)) (Ev.ite (fun hc => ?_) (fun hc => Ev.val ?_))
  · exact Ev.bind (queues_ev l (by have := isOrd_len hc; omega)) (Ev.val (by simp [resQ, hc]))
  · simp [resQ, hc]
theorem specFew_ev (l : List Int) (hn : l.length ≤ 17592186044415) : Ev (fun k => spec_FewestQueues.f k l) (((resQ l).1.length : Int), (resQ l).2) := by
  unfold spec_FewestQueues.f
  refine Ev.bind (l2Order_ev l (by omega)) (Ev.ite (fun hc => ?_) (fun hc => Ev.val ?_))
  · exact Ev.bind (l5Queues_ev l (by have := isOrd_len hc; omega)) (Ev.val (by simp [resQ, hc, (fq_is hc).qs]))
  · simp [resQ, hc]
theorem implFew_ev (l : List Int) (hn : l.length ≤ 17592186044415) : Ev (fun k => impl_FewestQueues.f k l) (((resQ l).1.length : Int), (resQ l).2) := by
  unfold impl_FewestQueues.f
  exact Ev.bind (implQ_ev l hn) (Ev.val rfl)
theorem backOrder_ev (l : List Int) (h : isOrd l = true) : Ev (fun k => impl_BackOrder.f k l) (l.reverse, true) := by
  have h7 := isOrd_len h
  unfold impl_BackOrder.f
  exact Ev.bind (isOrder_ev l (by omega)) (Ev.pos h (Ev.bind (back_ev l (by omega)) (Ev.val rfl)))
def isSz (n : Int) : Bool := decide (1 ≤ n ∧ n ≤ 7)
def resCQ (n k : Int) : Int × Bool := if isSz n = true then (if isKk k = true then (cntQ qI k (ordsM n.toNat) 0, true) else (0, false)) else (0, false)
theorem cntQ_same (k : Int) : ∀ (ls : List (List Int)) (m : Int), (∀ l ∈ ls, isOrd l = true) → cntQ qS k ls m = cntQ qI k ls m
  | [], m, _ => rfl
  | l :: ls, m, h => by
    rw [cntQ, List.foldl_cons, cntQ, List.foldl_cons, (fq_is (h l (by simp))).qs]
    exact cntQ_same k ls _ fun x hx => h x (by simp [hx])
theorem specCQ_ev (n k : Int) : Ev (fun q => spec_CountQueueable.f q n k) (resCQ n k) := by
  unfold spec_CountQueueable.f resCQ
  simp only [l3Size_is, l1In_is, Option.bind_some]
  cases hn : isSz n with
  | true =>
    have hn' : 1 ≤ n ∧ n ≤ 7 := by simpa [isSz] using hn
    rw [if_pos rfl]
    refine Ev.pos (by simpa using hn') ?_
    refine Ev.step (fun q => by rw [spec_CountQueueable.j0]) ?_
    cases hk : isKk k with
    | true =>
      have hk' := isKk_all hk
      obtain ⟨m, rfl⟩ := Int.eq_ofNat_of_zero_le (show 0 ≤ n by omega)
      have hlen := facN_le m
      have hol := ordsM_length m
      have hm : ∀ l ∈ ordsM m, l.length ≤ 1000 := fun l hl => by have := ordsM_len m l hl; omega
      refine Ev.neg (by simpa using hk') ?_
      refine Ev.bind (l2Orders_ev m (by omega)) ?_
      have := specCQ_l k (ordsM m) (by omega) hm (ordsM m).length 0 0 (by omega)
      rw [List.drop_zero, cntQ_same k _ _ (fun l hl => ordsM_ord m (by omega) (by omega) l hl)] at this
      exact this
    | false =>
      have hk' : ¬ (1 ≤ k ∧ k ≤ 4) := by simpa [isKk] using hk
      exact Ev.pos (by simp; omega) (Ev.val rfl)
  | false =>
    have hn' : ¬ (1 ≤ n ∧ n ≤ 7) := by simpa [isSz] using hn
    refine Ev.neg (by simpa using hn') ?_
    refine Ev.step (fun q => by rw [spec_CountQueueable.j0]) ?_
    exact Ev.pos rfl (Ev.val rfl)
theorem implCQ_ev (n k : Int) : Ev (fun q => impl_CountQueueable.f q n k) (resCQ n k) := by
  unfold impl_CountQueueable.f resCQ
  simp only [isSize_is, isQueues_is, Option.bind_some]
  cases hn : isSz n with
  | true =>
    have hn' : 1 ≤ n ∧ n ≤ 7 := by simpa [isSz] using hn
    rw [if_pos rfl]
    refine Ev.pos (by simpa using hn') ?_
    refine Ev.step (fun q => by rw [impl_CountQueueable.j0]) ?_
    cases hk : isKk k with
    | true =>
      have hk' := isKk_all hk
      obtain ⟨m, rfl⟩ := Int.eq_ofNat_of_zero_le (show 0 ≤ n by omega)
      have hlen := facN_le m
      have hol := ordsM_length m
      have hm : ∀ l ∈ ordsM m, l.length ≤ 1000 := fun l hl => by have := ordsM_len m l hl; omega
      refine Ev.neg (by simpa using hk') ?_
      refine Ev.bind (allOrders_ev m (by omega)) ?_
      have := implCQ_l k (ordsM m) (by omega) hm (ordsM m).length 0 0 (by omega)
      rw [List.drop_zero] at this
      exact this
    | false =>
      have hk' : ¬ (1 ≤ k ∧ k ≤ 4) := by simpa [isKk] using hk
      exact Ev.pos (by simp; omega) (Ev.val rfl)
  | false =>
    have hn' : ¬ (1 ≤ n ∧ n ≤ 7) := by simpa [isSz] using hn
    refine Ev.neg (by simpa using hn') ?_
    refine Ev.step (fun q => by rw [impl_CountQueueable.j0]) ?_
    exact Ev.pos rfl (Ev.val rfl)
theorem cntQ_count (g : List Int → List (List Int)) (k : Int) : ∀ (ls : List (List Int)) (m : Nat), m + ls.length ≤ 1000000 → cntQ g k ls (m : Int) = ((m + ls.countP (fun l => decide (((g l).length : Int) ≤ k)) : Nat) : Int)
  | [], m, _ => by simp [cntQ]
  | l :: ls, m, h => by
    rw [List.length_cons] at h
    rw [cntQ, List.foldl_cons, List.countP_cons]
    by_cases c : ((g l).length : Int) ≤ k
    · rw [if_pos c, if_pos (by simpa using c), wup m (by omega)]
      have := cntQ_count g k ls (m + 1) (by omega)
      rw [cntQ] at this
      rw [this]; omega
    · rw [if_neg c, if_neg (by simpa using c)]
      have := cntQ_count g k ls m (by omega)
      rw [cntQ] at this
      rw [this]; omega
theorem first_one : ∀ n ∈ [1, 2, 3, 4, 5, 6, 7], (qI (atM n (marked 1 n) 0)).length ≤ 1 := by
  decide +kernel
theorem dec_is (n m : Int) (h : (resCQ n m).2 = true) (h1 : 1 < m) : wrap64 (m - 1) = m - 1 ∧ (resCQ n (m - 1)).2 = true ∧ (resCQ n (m - 1)).1 ≤ (resCQ n m).1 ∧ 0 < (resCQ n m).1 := by
  unfold resCQ at h ⊢
  cases hn : isSz n with
  | false => rw [hn] at h; cases h
  | true =>
    rw [hn, if_pos rfl] at h
    cases hk : isKk m with
    | false => rw [hk] at h; cases h
    | true =>
      have hk' := isKk_all hk
      have hn' : 1 ≤ n ∧ n ≤ 7 := by simpa [isSz] using hn
      have hk2 : isKk (m - 1) = true := by simp [isKk]; omega
      obtain ⟨x, rfl⟩ := Int.eq_ofNat_of_zero_le (show 0 ≤ n by omega)
      have hlen := facN_le x
      have hol := ordsM_length x
      have h5 : facN x ≤ 5040 := Nat.le_trans hlen (by have : x ≤ 7 := by omega
                                                       have : x = 0 ∨ x = 1 ∨ x = 2 ∨ x = 3 ∨ x = 4 ∨ x = 5 ∨ x = 6 ∨ x = 7 := by omega
                                                       first | omega | (rcases this with rfl | rfl | rfl | rfl | rfl | rfl | rfl | rfl <;> decide))
      refine ⟨w64 (by omega), ?_⟩
      rw [hk2]
      simp only [if_true]
      refine ⟨trivial, ?_⟩
      have e1 := cntQ_count qI m (ordsM x) 0 (by omega)
      have e2 := cntQ_count qI (m - 1) (ordsM x) 0 (by omega)
      rw [Int.toNat_natCast]
      rw [show cntQ qI m (ordsM x) 0 = _ from e1, show cntQ qI (m - 1) (ordsM x) 0 = _ from e2]
      have h3 : (ordsM x).countP (fun l => decide (((qI l).length : Int) ≤ m - 1)) ≤ (ordsM x).countP (fun l => decide (((qI l).length : Int) ≤ m)) := List.countP_mono_left fun l _ hl => by
        simp only [decide_eq_true_eq] at hl ⊢; omega
      have h4 : 0 < (ordsM x).countP (fun l => decide (((qI l).length : Int) ≤ m)) := List.countP_pos_iff.2 ⟨atM x (marked 1 x) 0, List.mem_map.2 ⟨0, List.mem_range.2 (facN_pos x), rfl⟩, by
        have := first_one x (by simp; omega)
        simp only [decide_eq_true_eq]; omega⟩
      omega
theorem DrawQueueWays_ok {s : List Int} (hs : CodeB s) : ∃ (o : List Int) (k : Int), spec_DrawCountQueueWays.f s = some (o, k) ∧ o.length ≤ 8 := by
  unfold spec_DrawCountQueueWays.f
  obtain ⟨o, p1, st1, h1, ho, g1⟩ := order_ok hs 0 0 (by omega)
  obtain ⟨x, p2, st2, h2, hx, g2⟩ := fewOf_ok hs p1 st1 4 11 6 [2, 3, 1, 4, 0, 5] ⟨g1.1, by omega⟩ (by omega) (by omega) (by simp)
  rw [h1]
  exact ⟨o, x, congrArg (fun q : Option (Int × Int × Int) => q.bind fun x => some (o, x.1)) h2, ho⟩
theorem DrawQueueable_ok {s : List Int} (hs : CodeB s) : ∃ n k : Int, spec_DrawCountQueueable.f s = some (n, k) := by
  unfold spec_DrawCountQueueable.f spec_l1Cur_size3.f
  obtain ⟨n, p1, st1, h1, _, g1⟩ := fewOf_ok hs 0 0 6 8 9 [4, 5, 3, 6, 2, 1, 0, 8, 7] (by omega) (by omega) (by omega) (by simp)
  obtain ⟨x, p2, st2, h2, hx, g2⟩ := fewOf_ok hs p1 st1 4 11 6 [2, 3, 1, 4, 0, 5] ⟨g1.1, by omega⟩ (by omega) (by omega) (by simp)
  refine ⟨n, x, ?_⟩
  rw [h1]
  exact congrArg (fun q : Option (Int × Int × Int) => q.bind fun x => some (n, x.1)) h2
theorem lensM_is : ∀ (qs : List (List Int)) (s : Nat), s + qTot qs ≤ 1000000 → lensM qs (s : Int) = ((s + qTot qs : Nat) : Int)
  | [], s, _ => by rw [lensM, qTot]; rfl
  | q :: qs, s, h => by
    rw [qTot] at h ⊢
    have e : wrap64 ((s : Int) + (q.length : Int)) = ((s + q.length : Nat) : Int) := by rw [w64 (by omega)]; omega
    rw [lensM, e, lensM_is qs (s + q.length) (by omega), Nat.add_assoc]
theorem evAll {g : Nat → List Int → Option Bool} : ∀ qs : List (List Int), (∀ q ∈ qs, Ev (fun k => g k q) true) → ∃ K, ∀ k, K ≤ k → ∀ q ∈ qs, g k q = some true
  | [], _ => ⟨0, fun _ _ q hq => by cases hq⟩
  | q :: qs, h => by
    obtain ⟨K, hK⟩ := h q (by simp)
    obtain ⟨L, hL⟩ := evAll qs fun x hx => h x (by simp [hx])
    refine ⟨K + L, fun k hk x hx => ?_⟩
    rcases List.mem_cons.1 hx with rfl | hx
    · exact hK k (by omega)
    · exact hL k (by omega) x hx
theorem FnQueues : laws_FnQueues.Pure := by
  intro s hm hr hw hv
  have hs0 : s.length ≤ 65536 := by
    unfold laws_vBig.f at hv
    have h2 := Option.some.inj hv
    have h3 := of_decide_eq_false h2
    omega
  have hs : CodeB s := ⟨by omega, fun x hx => by
    have h := hw x hx
    have e0 : IntKind.u8.min = 0 := by decide
    have e1 : IntKind.u8.max = 255 := by decide
    simp [Lit.wf, e0, e1] at h
    omega⟩
  obtain ⟨c, hc, hcl, hcb⟩ := vCut_ok hs 1 (by omega)
  have hcs : CodeB c := ⟨by omega, hcb⟩
  obtain ⟨o, kk, g0, ho8⟩ := DrawQueueWays_ok hs
  obtain ⟨n, m, gd⟩ := DrawQueueable_ok hcs
  obtain ⟨K1, g1⟩ := implRise_ev o (by omega)
  obtain ⟨K2, g2⟩ := specRise_ev o (by omega)
  obtain ⟨K3, g3⟩ := implFall_ev o (by omega)
  obtain ⟨K4, g4⟩ := specFall_ev o (by omega)
  obtain ⟨K5, g5⟩ := implFew_ev o (by omega)
  obtain ⟨K6, g6⟩ := specFew_ev o (by omega)
  obtain ⟨K7, g7⟩ := implQ_ev o (by omega)
  obtain ⟨K8, g8⟩ := specQ_ev o (by omega)
  obtain ⟨K9, g9⟩ := implWays_ev o kk (by omega)
  obtain ⟨K10, g10⟩ := specWays_ev o kk (by omega)
  obtain ⟨K11, g11⟩ := implCQ_ev n m
  obtain ⟨K12, g12⟩ := specCQ_ev n m
  obtain ⟨K13, g13⟩ := implCQ_ev n (m - 1)
  have hq1 : (resQ o).1.length ≤ 1000 := by
    unfold resQ; split
    · have := (qI_fit o).1; simp only []; omega
    · simp
  have hq2 : ∀ q ∈ (resQ o).1, 0 < q.length ∧ q.length ≤ 1000 := by
    unfold resQ; split
    · intro q hq; have := (qI_fit o).2 q hq; omega
    · intro q hq; cases hq
  obtain ⟨K14, g14⟩ := vInts_ev (resLo true o).1 (resLo true o).1 (by have := resLo_len true o (by omega); omega)
  obtain ⟨K15, g15⟩ := vInts_ev (resLo false o).1 (resLo false o).1 (by have := resLo_len false o (by omega); omega)
  obtain ⟨K16, g16⟩ := vLists_ev (resQ o).1 (by omega) (fun q hq => (hq2 q hq).2)
  obtain ⟨K17, g17⟩ := vUp_ev (resLo true o).1 true (resLo_len true o (by omega))
  obtain ⟨K18, g18⟩ := vUp_ev (resLo false o).1 false (resLo_len false o (by omega))
  have hback : ∃ K, ∀ k, K ≤ k → isOrd o = true → impl_BackOrder.f k o = some (o.reverse, true) := by
    cases hb : isOrd o with
    | true => obtain ⟨K, g⟩ := backOrder_ev o hb; exact ⟨K, fun k hk _ => g k hk⟩
    | false => exact ⟨0, fun _ _ h => by cases h⟩
  obtain ⟨K19, g19⟩ := hback
  obtain ⟨K20, g20⟩ := implFall_ev o.reverse (by rw [List.length_reverse]; omega)
  have heach : ∃ K, ∀ k, K ≤ k → isOrd o = true → ∀ q ∈ (resQ o).1, laws_vUp.f k q true = some true := by
    cases hb : isOrd o with
    | true =>
      obtain ⟨K, g⟩ := evAll (g := fun k q => laws_vUp.f k q true) (resQ o).1 fun q hq => by
        refine (vUp_ev q true (hq2 q hq).2).to ?_
        have hq' : q ∈ qI o := by rw [resQ, if_pos hb] at hq; exact hq
        exact (fq_is hb).eq q hq'
      exact ⟨K, fun k hk _ => g k hk⟩
    | false => exact ⟨0, fun _ _ h => by cases h⟩
  obtain ⟨K21, g21⟩ := heach
  obtain ⟨b, hb⟩ : ∃ b, isOrd o = b := ⟨_, rfl⟩
  have r1 : (resLo true o).2 = b := by unfold resLo; rw [hb]; cases b <;> rfl
  have r2 : (resLo false o).2 = b := by unfold resLo; rw [hb]; cases b <;> rfl
  have r3 : (resQ o).2 = b := by unfold resQ; rw [hb]; cases b <;> rfl
  refine ⟨K1 + K2 + K3 + K4 + K5 + K6 + K7 + K8 + K9 + K10 + K11 + K12 + K13 + K14 + K15 + K16 + K17 + K18 + K19 + K20 + K21, o, kk, (resLo true o).1, b, (resLo false o).1, ((resQ o).1.length : Int), (resQ o).1, (resWays o kk).1, (resWays o kk).2, c, n, m, (resCQ n m).1, (resCQ n m).2, o.reverse, riM false o.reverse, (resCQ n (m - 1)).1, ?_⟩
  exact {
    f40 := hv
    f43 := g0
    f48 := (g1 _ (by omega)).trans (by rw [← r1])
    f53 := (g2 _ (by omega)).trans (by rw [← r1])
    f58 := (g3 _ (by omega)).trans (by rw [← r2])
    f63 := (g4 _ (by omega)).trans (by rw [← r2])
    f68 := (g5 _ (by omega)).trans (by rw [← r3])
    f73 := (g6 _ (by omega)).trans (by rw [← r3])
    f78 := (g7 _ (by omega)).trans (by rw [← r3])
    f83 := (g8 _ (by omega)).trans (by rw [← r3])
    f89 := g9 _ (by omega)
    f95 := g10 _ (by omega)
    f100 := hc
    f101 := gd
    f107 := g11 _ (by omega)
    f113 := g12 _ (by omega)
    f122 := (g14 _ (by omega)).trans (by simp)
    f133 := (g15 _ (by omega)).trans (by simp)
    f154 := g16 _ (by omega)
    okC := fun h => by
      rw [← hb]
      unfold resWays at h
      split at h
      · assumption
      · cases h
    cmp := fun h => by
      unfold resWays at h ⊢
      unfold resQ
      split at h
      · rename_i ho
        split at h
        · rename_i hk
          have hk' := isKk_all hk
          rw [if_pos ho, if_pos ho, if_pos hk]
          have e := qw_iff (fq_is ho) kk.toNat (by omega) (by omega)
          have e2 := qwN_pos o (List.replicate kk.toNat 0)
          rw [e] at e2
          refine decide_eq_decide.2 ?_
          simp only []
          omega
        · cases h
      · cases h
    dec := fun h h1 => by
      have h1' := of_decide_eq_true h1
      have hd := dec_is n m h h1'
      refine ⟨?_, decide_eq_true hd.2.2.1, decide_eq_true hd.2.2.2⟩
      rw [hd.1]
      exact (g13 _ (by omega)).trans (by rw [← hd.2.1])
    law := fun h => by
      subst h
      have F := fq_is hb
      have e1 : (resLo true o).1 = riM true o := by unfold resLo; rw [if_pos hb]
      have e2 : (resLo false o).1 = riM false o := by unfold resLo; rw [if_pos hb]
      have e3 : (resQ o).1 = qI o := by unfold resQ; rw [if_pos hb]
      have e4 : resLo false o.reverse = (riM false o.reverse, true) := by unfold resLo; rw [if_pos F.ob]
      have hq4 := hq1
      rw [e1] at g17
      rw [e2] at g18
      rw [e3] at hq1 hq2 g21
      rw [e4] at g20
      rw [e1, e2, e3]
      exact {
        sum := (lensM_is (qI o) 0 (by rw [F.tq]; omega)).trans (by rw [F.tq, Nat.zero_add])
        each := fun x hx => ⟨(hq2 x hx).1, g21 _ (by omega) hb x hx⟩
        lenQ := by omega
        back := g19 _ (by omega) hb
        turn := g20 _ (by omega)
        fewF := by rw [F.lq]
        fewQ := rfl
        upR := (g17 _ (by omega)).trans (by rw [F.ur])
        upF := (g18 _ (by omega)).trans (by rw [F.uf])
        lenT := F.lb
        area := by
          have h1 := riM_len true o
          have h2 := riM_len false o
          have h3 := F.ar
          have h4 : (riM true o).length * (riM false o).length ≤ 8 * 8 := Nat.mul_le_mul (by omega) (by omega)
          rw [← Int.natCast_mul, w64 (by omega)]
          omega } }
end Go.Proofs.Ytidiondgfoolbaa.Pure
