/- Plain: the document's answer to May, and that it is the program's. -/
import Derived.Test.YtcciejglemfebaaP6
namespace Go.Proofs.Ytcciejglemfebaa
open Go

def allR (x : Cfg) : Int := cnt (msk (union (votesR x) x.l))
def mayR (x : Cfg) : Bool :=
  mayB x.v && (mayB x.w && (mayB x.l && ((allR x == cnt x.v + cnt x.w + cnt x.l) && ((cnt x.v != 0) &&
    (decide (1 ≤ x.e) && (decide (x.e ≤ cnt (votesR x)) && (decide (1 ≤ x.c) && (decide (x.c ≤ cnt (votesR x)) && (decide (cnt (votesR x) < x.e + x.c) && decide (cnt (votesR x) < 2 * x.e))))))))))

theorem mayB_iff {s : Int} : mayB s = true ↔ ∀ i, i < 16 → tb s i = true → 1 ≤ i ∧ i ≤ 9 := by
  unfold mayB
  rw [beq_iff_eq]
  constructor
  · intro h i _ ht
    have := congrArg (tb · i) h
    rw [show tb (diff s 1022) i = (tb s i && !tb 1022 i) from tb_diff _ _ _, tb_zero, ht, tb_1022] at this
    simpa using this
  · intro h
    refine eq_zero_of_tb (bits_u _ _ _) fun i hi => ?_
    rw [tb_diff, tb_1022]
    cases ht : tb s i with
    | false => rfl
    | true =>
      have := h i hi ht
      simp [this.1, this.2]

/-- How many are so: one for each. -/
theorem countP_or (p q : Nat → Bool) : ∀ l : List Nat, l.countP (fun i => p i || q i) + l.countP (fun i => p i && q i) = l.countP p + l.countP q
  | [] => rfl
  | a :: l => by
    have ih := countP_or p q l
    simp only [List.countP_cons]
    cases p a <;> cases q a <;> simp <;> omega
theorem countP_none {p : Nat → Bool} {l : List Nat} : l.countP p = 0 ↔ ∀ i ∈ l, p i = false := by
  rw [List.countP_eq_zero]
  constructor
  · intro h i hi
    simpa using h i hi
  · intro h i hi
    simp [h i hi]

theorem mem_nodes {i : Nat} : i ∈ nodes ↔ 1 ≤ i ∧ i ≤ 9 := by
  unfold nodes
  simp only [List.mem_cons, List.not_mem_nil, or_false]
  omega

theorem cnt_congr {a b : Int} (h : ∀ i, i ∈ nodes → tb a i = tb b i) : cnt a = cnt b := by
  unfold cnt
  rw [List.countP_congr fun i hi => by rw [h i hi]]

theorem tb_msk {a : Int} {i : Nat} (h : i ∈ nodes) : tb (msk a) i = tb a i := by
  have := mem_nodes.1 h
  show tb (bits .and .u16 a 1022) i = _
  rw [tb_and, tb_1022]
  simp [this.1, this.2]
theorem cnt_msk (a : Int) : cnt (msk a) = cnt a := cnt_congr fun _ h => tb_msk h

theorem cnt_union (a b : Int) : cnt (union a b) + cnt (inter a b) = cnt a + cnt b := by
  have h := countP_or (tb a) (tb b) nodes
  have e1 : cnt (union a b) = ((nodes.countP fun i => tb a i || tb b i : Nat) : Int) := by
    unfold cnt
    rw [List.countP_congr fun i _ => by rw [show tb (union a b) i = (tb a i || tb b i) from tb_or _ _ _]]
  have e2 : cnt (inter a b) = ((nodes.countP fun i => tb a i && tb b i : Nat) : Int) := by
    unfold cnt
    rw [List.countP_congr fun i _ => by rw [show tb (inter a b) i = (tb a i && tb b i) from tb_and _ _ _]]
  rw [e1, e2]
  unfold cnt
  omega

/-- A set of nodes alone that has none is empty. -/
theorem cnt_zero {a : Int} (ha : U a) (hm : ∀ i, i < 16 → tb a i = true → 1 ≤ i ∧ i ≤ 9) : cnt a = 0 ↔ a = 0 := by
  constructor
  · intro h
    have h0 : nodes.countP (tb a) = 0 := by unfold cnt at h; omega
    refine eq_zero_of_tb ha fun i hi => ?_
    cases ht : tb a i with
    | false => rfl
    | true => rw [countP_none.1 h0 i (mem_nodes.2 (hm i hi ht))] at ht; cases ht
  · rintro rfl
    decide +kernel

theorem inter_nodes {a b : Int} (hm : ∀ i, i < 16 → tb a i = true → 1 ≤ i ∧ i ≤ 9) : ∀ i, i < 16 → tb (inter a b) i = true → 1 ≤ i ∧ i ≤ 9 := by
  intro i hi h
  rw [show tb (inter a b) i = (tb a i && tb b i) from tb_and _ _ _, Bool.and_eq_true] at h
  exact hm i hi h.1

theorem cnt_votesR (x : Cfg) : cnt (votesR x) = cnt (union x.v x.w) := cnt_msk _

theorem allR_eq (x : Cfg) : allR x = cnt (union (union x.v x.w) x.l) := by
  unfold allR
  rw [cnt_msk]
  refine cnt_congr fun i hi => ?_
  show tb (bits .or .u16 _ _) i = tb (bits .or .u16 _ _) i
  rw [tb_or, tb_or, show tb (votesR x) i = tb (union x.v x.w) i from tb_msk hi]

theorem mayR_eq (x : Cfg) (hv : U x.v) (hw : U x.w) (hl : U x.l) : mayR x = mayC x := by
  obtain ⟨v, w, l, e, c⟩ := x
  rw [Bool.eq_iff_iff, mayC_iff]
  unfold mayR
  simp only [Bool.and_eq_true, decide_eq_true_eq, beq_iff_eq, bne_iff_ne]
  rw [allR_eq, cnt_votesR]
  dsimp only at hv hw hl ⊢
  have key : mayB v = true → mayB w = true → mayB l = true →
      ((cnt (union (union v w) l) = cnt v + cnt w + cnt l ∧ cnt v ≠ 0) ↔ (bits .and .u16 v w = 0 ∧ bits .and .u16 v l = 0 ∧ bits .and .u16 w l = 0 ∧ v ≠ 0)) := by
    intro hmv hmw hml
    have bv := mayB_iff.1 hmv
    have bw := mayB_iff.1 hmw
    have e1 := cnt_union (union v w) l
    have e2 := cnt_union v w
    have n1 := cnt_nonneg (inter v w)
    have n2 := cnt_nonneg (inter (union v w) l)
    have z1 : cnt (inter v w) = 0 ↔ bits .and .u16 v w = 0 := cnt_zero (bits_u _ _ _) (inter_nodes bv)
    have bu : ∀ i, i < 16 → tb (union v w) i = true → 1 ≤ i ∧ i ≤ 9 := by
      intro i hi h
      rw [show tb (union v w) i = (tb v i || tb w i) from tb_or _ _ _, Bool.or_eq_true] at h
      rcases h with h | h
      · exact bv i hi h
      · exact bw i hi h
    have z2 : cnt (inter (union v w) l) = 0 ↔ bits .and .u16 (union v w) l = 0 := cnt_zero (bits_u _ _ _) (inter_nodes bu)
    have z3 : bits .and .u16 (union v w) l = 0 ↔ bits .and .u16 v l = 0 ∧ bits .and .u16 w l = 0 := by
      constructor
      · intro h
        have hh : ∀ i, ((tb v i || tb w i) && tb l i) = false := by
          intro i
          have := congrArg (tb · i) h
          rw [tb_and, tb_zero, show tb (union v w) i = (tb v i || tb w i) from tb_or _ _ _] at this
          exact this
        constructor
        · refine eq_zero_of_tb (bits_u _ _ _) fun i _ => ?_
          rw [tb_and]
          have := hh i
          revert this
          cases tb v i <;> cases tb w i <;> cases tb l i <;> simp
        · refine eq_zero_of_tb (bits_u _ _ _) fun i _ => ?_
          rw [tb_and]
          have := hh i
          revert this
          cases tb v i <;> cases tb w i <;> cases tb l i <;> simp
      · rintro ⟨h1, h2⟩
        refine eq_zero_of_tb (bits_u _ _ _) fun i _ => ?_
        have a := congrArg (tb · i) h1
        have b := congrArg (tb · i) h2
        rw [tb_and, tb_zero] at a b
        rw [tb_and, show tb (union v w) i = (tb v i || tb w i) from tb_or _ _ _]
        revert a b
        cases tb v i <;> cases tb w i <;> cases tb l i <;> simp
    have z4 := cnt_zero hv bv
    rw [← z1, ← and_assoc (c := v ≠ 0), ← z3, ← z2, Ne, Ne, ← z4]
    constructor
    · rintro ⟨a, b⟩
      exact ⟨by omega, by omega, b⟩
    · rintro ⟨a, b, d⟩
      exact ⟨by omega, d⟩
  constructor
  · rintro ⟨h1, h2, h3, h4, h5, h6, h7, h8, h9, ha, hb⟩
    obtain ⟨k1, k2, k3, k4⟩ := (key h1 h2 h3).1 ⟨h4, h5⟩
    exact ⟨h1, h2, h3, k1, k2, k3, k4, h6, h7, h8, h9, by omega, by omega⟩
  · rintro ⟨h1, h2, h3, k1, k2, k3, k4, h6, h7, h8, h9, ha, hb⟩
    obtain ⟨h4, h5⟩ := (key h1 h2 h3).2 ⟨k1, k2, k3, k4⟩
    exact ⟨h1, h2, h3, h4, h5, h6, h7, h8, h9, by omega, by omega⟩
theorem tb_msk_all (a : Int) (i : Nat) : tb (msk a) i = (tb a i && (decide (1 ≤ i) && decide (i ≤ 9))) := by
  show tb (bits .and .u16 a 1022) i = _
  rw [tb_and, tb_1022]

/-- Nodes that are all among the others. -/
theorem within_iff {a d : Int} (ha : U a) (hm : mayB a = true) : msk (inter a (msk d)) = a ↔ diff a d = 0 := by
  have hn := mayB_iff.1 hm
  constructor
  · intro h
    refine eq_zero_of_tb (bits_u _ _ _) fun i _ => ?_
    rw [tb_diff]
    have := congrArg (tb · i) h
    rw [tb_msk_all, show tb (inter a (msk d)) i = (tb a i && tb (msk d) i) from tb_and _ _ _, tb_msk_all] at this
    revert this
    cases tb a i <;> cases tb d i <;> simp
  · intro h
    refine tb_ext (by unfold msk; exact bits_u _ _ _) ha fun i hi => ?_
    rw [tb_msk_all, show tb (inter a (msk d)) i = (tb a i && tb (msk d) i) from tb_and _ _ _, tb_msk_all]
    have h2 := congrArg (tb · i) h
    rw [show tb (diff a d) i = (tb a i && !tb d i) from tb_diff _ _ _, tb_zero] at h2
    cases ht : tb a i with
    | false => rfl
    | true =>
      have h3 := hn i hi ht
      rw [ht] at h2
      revert h2
      cases tb d i <;> simp [h3.1, h3.2]
end Go.Proofs.Ytcciejglemfebaa
