/- What elects and commits, in plain Lean: more never less, all of those that vote do, none does not. -/
import Derived.Test.YtcciejglemfebaaP10
namespace Go.Proofs.Ytcciejglemfebaa

def bothJ (f : Cfg → Int) (j : Jnt) : Int := if j.two then union (f j.old) (f j.new) else f j.old
def votingJ (j : Jnt) : Int := bothJ (fun x => union x.v x.w) j
def membersJ (j : Jnt) : Int := bothJ (fun x => union (union x.v x.w) x.l) j
def dataJ (j : Jnt) : Int := bothJ (fun x => union x.v x.l) j
def leadsJ (j : Jnt) (n : Int) : Bool := hasB (bothJ (fun x => x.v) j) n

def Sub (a b : Int) : Prop := ∀ i ∈ nodes, tb a i = true → tb b i = true

theorem Sub.inter {a b : Int} (h : Sub a b) (s : Int) : cnt (inter s a) ≤ cnt (inter s b) := cnt_mono fun i hi ha => by
  rw [tb_inter, Bool.and_eq_true] at ha ⊢
  exact ⟨ha.1, h i hi ha.2⟩

theorem electsC_more {x : Cfg} {a b : Int} (h : Sub a b) (he : electsC x a = true) : electsC x b = true := by
  unfold electsC at he ⊢
  have := h.inter (votesC x)
  simp only [decide_eq_true_eq] at he ⊢
  omega
theorem commitsC_more {x : Cfg} {a b : Int} (h : Sub a b) (he : commitsC x a = true) : commitsC x b = true := by
  unfold commitsC at he ⊢
  have h1 := h.inter (votesC x)
  have h2 := h.inter x.v
  simp only [Bool.and_eq_true, decide_eq_true_eq] at he ⊢
  omega
theorem elects_more {j : Jnt} {a b : Int} (h : Sub a b) (he : electsJ j a = true) : electsJ j b = true := by
  unfold electsJ at he ⊢
  cases hj : j.two <;> rw [hj] at he <;> simp only [Bool.and_eq_true, Bool.not_true, Bool.not_false, Bool.false_or, Bool.true_or, and_true] at he ⊢
  · exact electsC_more h he
  · exact ⟨electsC_more h he.1, electsC_more h he.2⟩
theorem commits_more {j : Jnt} {a b : Int} (h : Sub a b) (he : commitsJ j a = true) : commitsJ j b = true := by
  unfold commitsJ at he ⊢
  cases hj : j.two <;> rw [hj] at he <;> simp only [Bool.and_eq_true, Bool.not_true, Bool.not_false, Bool.false_or, Bool.true_or, and_true] at he ⊢
  · exact commitsC_more h he
  · exact ⟨commitsC_more h he.1, commitsC_more h he.2⟩

theorem inter_all {s a : Int} (h : Sub s a) : cnt (inter s a) = cnt s := cnt_congr fun i hi => by
  rw [tb_inter]
  cases hs : tb s i with
  | false => rfl
  | true => rw [h i hi hs]; rfl

theorem may_elects {x : Cfg} {a : Int} (hm : mayC x = true) (h : Sub (votesC x) a) : electsC x a = true := by
  obtain ⟨v, w, l, e, c⟩ := x
  have := (mayC_iff v w l e c).1 hm
  unfold electsC
  rw [inter_all h, decide_eq_true_eq]
  exact this.2.2.2.2.2.2.2.2.1
theorem may_cnt {v w l e c : Int} (hm : mayC ⟨v, w, l, e, c⟩ = true) (hu : U v) : 0 < cnt v := by
  have h := (mayC_iff v w l e c).1 hm
  have h1 := cnt_nonneg v
  rcases Int.lt_or_eq_of_le h1 with h2 | h2
  · exact h2
  · refine absurd ((cnt_zero hu fun i hi ht => ?_).1 h2.symm) h.2.2.2.2.2.2.1
    exact mayB_iff.1 h.1 i hi ht
theorem may_commits {x : Cfg} {a : Int} (hm : mayC x = true) (hu : U x.v) (h : Sub (votesC x) a) : commitsC x a = true := by
  obtain ⟨v, w, l, e, c⟩ := x
  have := (mayC_iff v w l e c).1 hm
  have hv : Sub v a := fun i hi hv => h i hi (by show tb (union v w) i = true; rw [tb_union, hv]; rfl)
  unfold commitsC
  rw [inter_all h, inter_all hv, Bool.and_eq_true, decide_eq_true_eq, decide_eq_true_eq]
  exact ⟨this.2.2.2.2.2.2.2.2.2.2.1, may_cnt hm hu⟩
theorem inter_none (s : Int) : cnt (inter s 0) = 0 := by
  unfold cnt
  rw [List.countP_eq_zero.2]; · rfl
  intro i _
  rw [tb_inter, tb_zero]
  simp
theorem may_none {x : Cfg} (hm : mayC x = true) : electsC x 0 = false ∧ commitsC x 0 = false := by
  obtain ⟨v, w, l, e, c⟩ := x
  have := (mayC_iff v w l e c).1 hm
  unfold electsC commitsC
  rw [inter_none, inter_none]
  have h1 := this.2.2.2.2.2.2.2.1
  simp
  show 0 < e
  omega

theorem may_both {j : Jnt} (h : mayJ j = true) : mayC j.old = true ∧ (j.two = true → mayC j.new = true) := by
  refine ⟨may_old h, fun ht => ?_⟩
  unfold mayJ at h
  rw [if_pos ht, Bool.and_eq_true] at h
  exact h.2

theorem voting_old (j : Jnt) : Sub (votesC j.old) (votingJ j) := fun i _ h => by
  unfold votingJ bothJ
  split
  · rw [tb_union]; show (tb (votesC j.old) i || _) = true; rw [h]; rfl
  · exact h
theorem voting_new {j : Jnt} (ht : j.two = true) : Sub (votesC j.new) (votingJ j) := fun i _ h => by
  unfold votingJ bothJ
  rw [if_pos ht, tb_union]
  show (_ || tb (votesC j.new) i) = true
  rw [h, Bool.or_true]

theorem all_elect {j : Jnt} (h : mayJ j = true) : electsJ j (votingJ j) = true := by
  obtain ⟨h1, h2⟩ := may_both h
  unfold electsJ
  rw [may_elects h1 (voting_old j), Bool.true_and]
  cases ht : j.two with
  | false => rfl
  | true => rw [may_elects (h2 ht) (voting_new ht)]; rfl
theorem all_commit {j : Jnt} (h : mayJ j = true) (hu : U j.old.v) (hn : U j.new.v) : commitsJ j (votingJ j) = true := by
  obtain ⟨h1, h2⟩ := may_both h
  unfold commitsJ
  rw [may_commits h1 hu (voting_old j), Bool.true_and]
  cases ht : j.two with
  | false => rfl
  | true => rw [may_commits (h2 ht) hn (voting_new ht)]; rfl
theorem none_elect {j : Jnt} (h : mayJ j = true) : electsJ j 0 = false := by
  unfold electsJ
  rw [(may_none (may_both h).1).1, Bool.false_and]
theorem none_commit {j : Jnt} (h : mayJ j = true) : commitsJ j 0 = false := by
  unfold commitsJ
  rw [(may_none (may_both h).1).2, Bool.false_and]
theorem members_some {j : Jnt} (h : mayJ j = true) (hu : U j.old.v) : 1 ≤ cnt (membersJ j) := by
  have h1 := may_cnt (v := j.old.v) (w := j.old.w) (l := j.old.l) (e := j.old.e) (c := j.old.c) (may_both h).1 hu
  have : cnt j.old.v ≤ cnt (membersJ j) := cnt_mono fun i _ hi => by
    unfold membersJ bothJ
    split <;> simp only [tb_union, hi, Bool.true_or]
  omega
theorem sub_more (a b : Int) : Sub (msk a) (msk (union a b)) := fun i hi h => by
  rw [tb_msk hi] at h ⊢
  rw [tb_union, h]; rfl
end Go.Proofs.Ytcciejglemfebaa
