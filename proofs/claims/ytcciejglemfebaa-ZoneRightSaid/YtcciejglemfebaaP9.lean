/- Plain: quorums of two configurations must all meet just where the count says so. -/
import Derived.Test.YtcciejglemfebaaP8
namespace Go.Proofs.Ytcciejglemfebaa
open Go

theorem mayB_msk {x : Int} (hx : U x) : mayB x = true ↔ msk x = x := by
  rw [mayB_iff]
  constructor
  · intro h
    refine tb_ext (by unfold msk; exact bits_u _ _ _) hx fun i hi => ?_
    rw [tb_msk_all]
    cases ht : tb x i with
    | false => rfl
    | true =>
      have := h i hi ht
      simp [this.1, this.2]
  · intro h i _ ht
    rw [← h, tb_msk_all] at ht
    simp only [Bool.and_eq_true, decide_eq_true_eq] at ht
    exact ht.2

theorem lt_1024 {x : Int} (hx : U x) (hm : mayB x = true) : ∃ n : Nat, n < 1024 ∧ x = (n : Int) := by
  obtain ⟨a, ha, e, _⟩ := msk_nat hx
  exact ⟨a, ha, by rw [← e, (mayB_msk hx).1 hm]⟩

/-- A quorum: nodes of the set, just so many. -/
theorem mem_quorums {s n x : Int} (hx : U x) : x ∈ quorumsR s n ↔ mayB x = true ∧ (∀ i ∈ nodes, tb x i = true → tb s i = true) ∧ cnt x = n := by
  unfold quorumsR ofSize subsets
  rw [List.mem_filter, subsUp_mem]
  have sub : (msk (inter x s) = x) ↔ (mayB x = true ∧ ∀ i ∈ nodes, tb x i = true → tb s i = true) := by
    constructor
    · intro h
      constructor
      · rw [mayB_iff]
        intro i _ ht
        rw [← h, tb_msk_all] at ht
        simp only [Bool.and_eq_true, decide_eq_true_eq] at ht
        exact ht.2
      · intro i _ ht
        rw [← h, tb_msk_all, show tb (inter x s) i = (tb x i && tb s i) from tb_and _ _ _] at ht
        simp only [Bool.and_eq_true] at ht
        exact ht.1.2
    · rintro ⟨h1, h2⟩
      refine tb_ext (by unfold msk; exact bits_u _ _ _) hx fun i hi => ?_
      rw [tb_msk_all, show tb (inter x s) i = (tb x i && tb s i) from tb_and _ _ _]
      cases ht : tb x i with
      | false => rfl
      | true =>
        have h3 := mayB_iff.1 h1 i hi ht
        rw [h2 i (mem_nodes.2 h3) ht]
        simp [h3.1, h3.2]
  constructor
  · rintro ⟨⟨m, hm, rfl, hp⟩, hc⟩
    unfold subP at hp
    rw [Bool.and_eq_true, beq_iff_eq] at hp
    obtain ⟨h1, h2⟩ := sub.1 hp.2
    exact ⟨h1, h2, by simpa using hc⟩
  · rintro ⟨h1, h2, h3⟩
    obtain ⟨m, hm, rfl⟩ := lt_1024 hx h1
    refine ⟨⟨m, hm, rfl, ?_⟩, by simpa using h3⟩
    unfold subP
    rw [Bool.and_eq_true, beq_iff_eq]
    exact ⟨h1, sub.2 ⟨h1, h2⟩⟩

/-- Of those that are so, any number up to how many they are. -/
theorem pick_some (p : Nat → Bool) : ∀ (l : List Nat) (k : Nat), l.Nodup → k ≤ l.countP p → ∃ q : Nat → Bool, (∀ i, q i = true → p i = true) ∧ l.countP q = k
  | [], k, _, h => ⟨fun _ => false, fun _ h => by simp at h, by simp at h ⊢; omega⟩
  | a :: l, k, hn, h => by
    rw [List.nodup_cons] at hn
    by_cases hk : k ≤ l.countP p
    · obtain ⟨q, hq, hc⟩ := pick_some p l k hn.2 hk
      refine ⟨fun i => q i && decide (i ≠ a), fun i hi => hq i (by simp only [Bool.and_eq_true] at hi; exact hi.1), ?_⟩
      rw [List.countP_cons]
      have : l.countP (fun i => q i && decide (i ≠ a)) = l.countP q := by
        apply List.countP_congr
        intro i hi
        have : i ≠ a := by rintro rfl; exact hn.1 hi
        simp [this]
      rw [this, hc]
      simp
    · rw [List.countP_cons] at h
      exact ⟨p, fun _ h => h, by rw [List.countP_cons]; split at h <;> rename_i hp <;> simp [hp] <;> omega⟩

theorem nodes_nodup : nodes.Nodup := by decide

theorem cnt_collect (q : Nat → Bool) : cnt (collect q 9) = (nodes.countP q : Int) := by
  unfold cnt
  rw [List.countP_congr fun i hi => by rw [tb_collect q 9 (by omega)]]
  have : nodes.countP (fun i => decide (1 ≤ i) && decide (i ≤ 9) && q i) = nodes.countP q := by
    apply List.countP_congr
    intro i hi
    have := mem_nodes.1 hi
    simp [this.1, this.2]
  exact congrArg _ this

theorem collect_may (q : Nat → Bool) : mayB (collect q 9) = true := by
  rw [mayB_iff]
  intro i _ h
  rw [tb_collect q 9 (by omega)] at h
  simp only [Bool.and_eq_true, decide_eq_true_eq] at h
  exact h.1

/-- A set of just so many nodes of another one. -/
theorem some_of {s : Int} {k : Int} (h0 : 0 ≤ k) (h : k ≤ cnt s) : ∃ x, U x ∧ mayB x = true ∧ (∀ i ∈ nodes, tb x i = true → tb s i = true) ∧ cnt x = k := by
  obtain ⟨m, rfl⟩ : ∃ m : Nat, k = (m : Int) := ⟨k.toNat, by omega⟩
  obtain ⟨q, hq, hc⟩ := pick_some (tb s) nodes m nodes_nodup (by unfold cnt at h; omega)
  refine ⟨collect q 9, collect_u q 9, collect_may q, fun i _ hi => ?_, by rw [cnt_collect, hc]⟩
  rw [tb_collect q 9 (by omega)] at hi
  simp only [Bool.and_eq_true] at hi
  exact hq i hi.2

theorem cnt_diff (a b : Int) : cnt (diff a b) + cnt (inter a b) = cnt a := by
  have h := countP_or (fun i => tb a i && !tb b i) (fun i => tb a i && tb b i) nodes
  have e1 : cnt (diff a b) = ((nodes.countP fun i => tb a i && !tb b i : Nat) : Int) := by
    unfold cnt
    rw [List.countP_congr fun i _ => by rw [show tb (diff a b) i = (tb a i && !tb b i) from tb_diff _ _ _]]
  have e2 : cnt (inter a b) = ((nodes.countP fun i => tb a i && tb b i : Nat) : Int) := by
    unfold cnt
    rw [List.countP_congr fun i _ => by rw [show tb (inter a b) i = (tb a i && tb b i) from tb_and _ _ _]]
  have z : nodes.countP (fun i => (tb a i && !tb b i) && (tb a i && tb b i)) = 0 := by
    rw [countP_none]
    intro i _
    cases tb a i <;> cases tb b i <;> rfl
  have u : nodes.countP (fun i => (tb a i && !tb b i) || (tb a i && tb b i)) = nodes.countP (tb a) := by
    apply List.countP_congr
    intro i _
    cases tb a i <;> cases tb b i <;> simp
  rw [z, u] at h
  rw [e1, e2]
  unfold cnt
  omega

theorem cnt_mono {a b : Int} (h : ∀ i ∈ nodes, tb a i = true → tb b i = true) : cnt a ≤ cnt b := by
  unfold cnt
  have := List.countP_mono_left h
  omega

theorem msk_zero {a : Int} : msk a = 0 ↔ cnt a = 0 := by
  rw [← cnt_msk a]
  refine (cnt_zero (by unfold msk; exact bits_u _ _ _) fun i _ h => ?_).symm
  rw [tb_msk_all] at h
  simp only [Bool.and_eq_true, decide_eq_true_eq] at h
  exact h.2

theorem tb_inter (a b : Int) (i : Nat) : tb (inter a b) i = (tb a i && tb b i) := tb_and a b i
theorem tb_union (a b : Int) (i : Nat) : tb (union a b) i = (tb a i || tb b i) := tb_or a b i
theorem tb_diff' (a b : Int) (i : Nat) : tb (diff a b) i = (tb a i && !tb b i) := tb_diff a b i

/-- Quorums of E of A and of C of B all meet, if what of any E must lie in B is more than what of B the C leave. -/
theorem meet_if {A B E C : Int} (h : cnt B - C < E - cnt (diff A B)) {x y : Int} (hx : ∀ i ∈ nodes, tb x i = true → tb A i = true) (hxc : cnt x = E) (hy : ∀ i ∈ nodes, tb y i = true → tb B i = true) (hyc : cnt y = C) : msk (inter x y) ≠ 0 := by
  rw [Ne, msk_zero]
  intro h0
  have e1 := cnt_diff x B
  have e2 : cnt (diff x B) ≤ cnt (diff A B) := cnt_mono fun i hi ht => by
    rw [tb_diff', Bool.and_eq_true] at ht
    rw [tb_diff', hx i hi ht.1, ht.2]
    rfl
  have e3 := cnt_union (inter x B) y
  have e4 : cnt (inter (inter x B) y) ≤ cnt (inter x y) := cnt_mono fun i _ ht => by
    rw [tb_inter, tb_inter, Bool.and_eq_true, Bool.and_eq_true] at ht
    rw [tb_inter, ht.1.1, ht.2]
    rfl
  have e5 : cnt (union (inter x B) y) ≤ cnt B := cnt_mono fun i hi ht => by
    rw [tb_union, tb_inter, Bool.or_eq_true, Bool.and_eq_true] at ht
    rcases ht with ht | ht
    · exact ht.2
    · exact hy i hi ht
  have := cnt_nonneg (inter (inter x B) y)
  omega

/-- Else two are apart. -/
theorem apart_if {A B E C : Int} (hE : 0 ≤ E) (hE2 : E ≤ cnt A) (hC : 0 ≤ C) (hC2 : C ≤ cnt B) (h : max (E - cnt (diff A B)) 0 ≤ cnt B - C) :
    ∃ x y, (U x ∧ mayB x = true ∧ (∀ i ∈ nodes, tb x i = true → tb A i = true) ∧ cnt x = E) ∧ (U y ∧ mayB y = true ∧ (∀ i ∈ nodes, tb y i = true → tb B i = true) ∧ cnt y = C) ∧ msk (inter x y) = 0 := by
  have d := cnt_diff A B
  have n1 := cnt_nonneg (diff A B)
  by_cases hs : E ≤ cnt (diff A B)
  · obtain ⟨x, ux, mx, sx, cx⟩ := some_of hE hs
    obtain ⟨y, uy, my, sy, cy⟩ := some_of hC hC2
    refine ⟨x, y, ⟨ux, mx, fun i hi ht => ?_, cx⟩, ⟨uy, my, sy, cy⟩, ?_⟩
    · have := sx i hi ht
      rw [tb_diff', Bool.and_eq_true] at this
      exact this.1
    · rw [msk_zero]
      unfold cnt
      have : nodes.countP (tb (inter x y)) = 0 := by
        rw [countP_none]
        intro i hi
        rw [tb_inter]
        cases hx : tb x i with
        | false => rfl
        | true =>
          cases hy : tb y i with
          | false => rfl
          | true =>
            have h1 := sx i hi hx
            rw [tb_diff', sy i hi hy] at h1
            simp at h1
      omega
  · obtain ⟨z, uz, mz, sz, cz⟩ := some_of (s := inter A B) (k := E - cnt (diff A B)) (by omega) (by omega)
    have dz := cnt_diff B z
    have iz : cnt (inter B z) = cnt z := cnt_congr fun i hi => by
      rw [tb_inter]
      cases hz : tb z i with
      | false => simp
      | true =>
        have := sz i hi hz
        rw [tb_inter, Bool.and_eq_true] at this
        rw [this.2]
        rfl
    obtain ⟨y, uy, my, sy, cy⟩ := some_of (s := diff B z) (k := C) hC (by omega)
    refine ⟨msk (union (diff A B) z), y, ⟨by unfold msk; exact bits_u _ _ _, ?_, fun i hi ht => ?_, ?_⟩, ⟨uy, my, fun i hi ht => ?_, cy⟩, ?_⟩
    · rw [mayB_iff]
      intro i _ ht
      rw [tb_msk_all] at ht
      simp only [Bool.and_eq_true, decide_eq_true_eq] at ht
      exact ht.2
    · rw [tb_msk hi, tb_union, tb_diff', Bool.or_eq_true, Bool.and_eq_true] at ht
      rcases ht with ht | ht
      · exact ht.1
      · have := sz i hi ht
        rw [tb_inter, Bool.and_eq_true] at this
        exact this.1
    · rw [cnt_msk]
      have e := cnt_union (diff A B) z
      have e0 : cnt (inter (diff A B) z) = 0 := by
        unfold cnt
        have : nodes.countP (tb (inter (diff A B) z)) = 0 := by
          rw [countP_none]
          intro i hi
          rw [tb_inter, tb_diff']
          cases hz : tb z i with
          | false => simp
          | true =>
            have := sz i hi hz
            rw [tb_inter, Bool.and_eq_true] at this
            simp [this.2]
        omega
      omega
    · have := sy i hi ht
      rw [tb_diff', Bool.and_eq_true] at this
      exact this.1
    · rw [msk_zero]
      unfold cnt
      have : nodes.countP (tb (inter (msk (union (diff A B) z)) y)) = 0 := by
        rw [countP_none]
        intro i hi
        rw [tb_inter, tb_msk hi, tb_union, tb_diff']
        cases hy : tb y i with
        | false => simp
        | true =>
          have := sy i hi hy
          rw [tb_diff', Bool.and_eq_true] at this
          simp only [this.1]
          have h2 := this.2
          revert h2
          cases tb z i <;> simp
      omega

def meetC (a b : Cfg) : Bool := decide (cnt (votesC b) - b.c < max (a.e - cnt (diff (votesC a) (votesC b))) 0)

theorem diff_msk (a b : Int) : cnt (diff (msk a) (msk b)) = cnt (diff a b) := cnt_congr fun i hi => by rw [tb_diff', tb_diff', tb_msk hi, tb_msk hi]

theorem meetR_eq (a b : Cfg) (ha : 1 ≤ a.e) (ha2 : a.e ≤ cnt (votesC a)) (hb : 1 ≤ b.c) (hb2 : b.c ≤ cnt (votesC b)) : meetR a b = meetC a b := by
  have e1 : cnt (votesR a) = cnt (votesC a) := cnt_msk _
  have e2 : cnt (votesR b) = cnt (votesC b) := cnt_msk _
  have e3 : cnt (diff (votesR a) (votesR b)) = cnt (diff (votesC a) (votesC b)) := diff_msk _ _
  unfold meetC
  rw [← e2, ← e3]
  by_cases h : cnt (votesR b) - b.c < max (a.e - cnt (diff (votesR a) (votesR b))) 0
  · rw [decide_eq_true h]
    unfold meetR meetB
    rw [List.all_eq_true]
    intro x hx
    rw [List.all_eq_true]
    intro y hy
    obtain ⟨_, sx, cx⟩ := (mem_quorums (quorums_u hx)).1 hx
    obtain ⟨_, sy, cy⟩ := (mem_quorums (quorums_u hy)).1 hy
    rw [bne_iff_ne]
    exact meet_if (by omega) sx cx sy cy
  · rw [decide_eq_false h]
    obtain ⟨x, y, ⟨ux, mx, sx, cx⟩, ⟨uy, my, sy, cy⟩, h0⟩ := apart_if (A := votesR a) (B := votesR b) (E := a.e) (C := b.c) (by omega) (by omega) (by omega) (by omega) (by omega)
    unfold meetR meetB
    rw [List.all_eq_false]
    refine ⟨x, (mem_quorums ux).2 ⟨mx, sx, cx⟩, ?_⟩
    rw [Bool.not_eq_true, List.all_eq_false]
    exact ⟨y, (mem_quorums uy).2 ⟨my, sy, cy⟩, by rw [h0]; decide⟩
end Go.Proofs.Ytcciejglemfebaa
