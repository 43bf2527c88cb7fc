/- What the document counts is what the program counts, in plain Lean. -/
import Derived.Test.YtcciejglemfebaaP11
namespace Go.Proofs.Ytcciejglemfebaa

theorem got_count (x : Cfg) (got : Int) : cnt (msk (inter (votesR x) got)) = cnt (inter (votesC x) got) := by
  rw [cnt_msk]
  refine cnt_congr fun i hi => ?_
  rw [tb_inter, tb_inter]
  unfold votesR votesC
  rw [tb_msk hi]
theorem elects_as (x : Cfg) (got : Int) : electsC x got = decide (x.e ≤ cnt (msk (inter (votesR x) got))) := by
  rw [got_count]; rfl
theorem commits_as (x : Cfg) (got : Int) : commitsC x got = (decide (x.c ≤ cnt (msk (inter (votesR x) got))) && !(msk (inter x.v got) == 0)) := by
  rw [got_count]
  unfold commitsC
  congr 1
  have h := msk_zero (a := inter x.v got)
  have h0 := cnt_nonneg (inter x.v got)
  by_cases hz : cnt (inter x.v got) = 0
  · rw [h.2 hz, hz]; rfl
  · have h1 : msk (inter x.v got) ≠ 0 := fun h2 => hz (h.1 h2)
    rw [decide_eq_true (by omega)]
    simpa using h1

/-- Who is in a joint, as the document joins it up. -/
def rvotingJ (j : Jnt) : Int := if j.two then msk (union (msk (union 0 (votesR j.old))) (votesR j.new)) else msk (union 0 (votesR j.old))
def rdataC (s : Int) (x : Cfg) : Int := msk (union (msk (union s x.v)) x.l)
def rdataJ (j : Jnt) : Int := if j.two then rdataC (rdataC 0 j.old) j.new else rdataC 0 j.old
def rmembersJ (j : Jnt) : Int := msk (union (rvotingJ j) (rdataJ j))
def rleadsJ (j : Jnt) (n : Int) : Bool := hasB j.old.v n || (j.two && hasB j.new.v n)

theorem may_off {x : Cfg} (h : mayC x = true) {i : Nat} (hi : i < 16) (hn : ¬ (1 ≤ i ∧ i ≤ 9)) : tb x.v i = false ∧ tb x.w i = false ∧ tb x.l i = false := by
  obtain ⟨v, w, l, e, c⟩ := x
  have hm := (mayC_iff v w l e c).1 h
  refine ⟨?_, ?_, ?_⟩
  · cases ht : tb v i with
    | false => rfl
    | true => exact absurd (mayB_iff.1 hm.1 i hi ht) hn
  · cases ht : tb w i with
    | false => rfl
    | true => exact absurd (mayB_iff.1 hm.2.1 i hi ht) hn
  · cases ht : tb l i with
    | false => rfl
    | true => exact absurd (mayB_iff.1 hm.2.2.1 i hi ht) hn

theorem hasB_union (a b n : Int) : hasB (union a b) n = (hasB a n || hasB b n) := by
  unfold hasB
  rw [tb_union]
  cases decide (1 ≤ n) <;> cases decide (n ≤ 9) <;> simp
theorem leads_eq (j : Jnt) (n : Int) : leadsJ j n = rleadsJ j n := by
  unfold leadsJ rleadsJ bothJ
  cases hj : j.two <;> simp [hasB_union]

theorem same_sets {j : Jnt} (h : mayJ j = true) : votingJ j = rvotingJ j ∧ dataJ j = rdataJ j ∧ membersJ j = rmembersJ j := by
  obtain ⟨h1, h2⟩ := may_both h
  have key : ∀ i, i < 16 → tb (votingJ j) i = tb (rvotingJ j) i ∧ tb (dataJ j) i = tb (rdataJ j) i ∧ tb (membersJ j) i = tb (rmembersJ j) i := by
    intro i hi
    unfold rmembersJ votingJ rvotingJ dataJ rdataJ membersJ rdataC bothJ votesR
    cases ht : j.two with
    | false =>
      simp only [Bool.false_eq_true, if_false]
      by_cases hn : 1 ≤ i ∧ i ≤ 9
      · simp only [tb_union, tb_msk_all, tb_zero, hn.1, hn.2, decide_true, Bool.and_true, Bool.false_or]
        generalize tb j.old.v i = a; generalize tb j.old.w i = b; generalize tb j.old.l i = c
        revert a b c; decide
      · obtain ⟨e1, e2, e3⟩ := may_off h1 hi hn
        simp only [tb_union, tb_msk_all, tb_zero, e1, e2, e3, Bool.or_false, Bool.false_and, and_self]
    | true =>
      simp only [if_true]
      by_cases hn : 1 ≤ i ∧ i ≤ 9
      · simp only [tb_union, tb_msk_all, tb_zero, hn.1, hn.2, decide_true, Bool.and_true, Bool.false_or]
        generalize tb j.old.v i = a; generalize tb j.old.w i = b; generalize tb j.old.l i = c
        generalize tb j.new.v i = a'; generalize tb j.new.w i = b'; generalize tb j.new.l i = c'
        revert a b c a' b' c'; decide
      · obtain ⟨e1, e2, e3⟩ := may_off h1 hi hn
        obtain ⟨f1, f2, f3⟩ := may_off (h2 ht) hi hn
        simp only [tb_union, tb_msk_all, tb_zero, e1, e2, e3, f1, f2, f3, Bool.or_false, Bool.false_and, and_self]
  refine ⟨tb_ext ?_ ?_ fun i hi => (key i hi).1, tb_ext ?_ ?_ fun i hi => (key i hi).2.1, tb_ext ?_ ?_ fun i hi => (key i hi).2.2⟩
  · unfold votingJ bothJ; split <;> exact bits_u _ _ _
  · unfold rvotingJ; split <;> exact bits_u _ _ _
  · unfold dataJ bothJ; split <;> exact bits_u _ _ _
  · unfold rdataJ rdataC; split <;> exact bits_u _ _ _
  · unfold membersJ bothJ; split <;> exact bits_u _ _ _
  · unfold rmembersJ; exact bits_u _ _ _
end Go.Proofs.Ytcciejglemfebaa
