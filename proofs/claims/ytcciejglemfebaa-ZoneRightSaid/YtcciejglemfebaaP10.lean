/- Plain: whatever elects meets whatever commits, or elects, wherever a configuration is shared. -/
import Derived.Test.YtcciejglemfebaaP9
namespace Go.Proofs.Ytcciejglemfebaa
open Go

def electsC (x : Cfg) (got : Int) : Bool := decide (x.e ≤ cnt (inter (votesC x) got))
def commitsC (x : Cfg) (got : Int) : Bool := decide (x.c ≤ cnt (inter (votesC x) got)) && decide (0 < cnt (inter x.v got))
def electsJ (j : Jnt) (got : Int) : Bool := electsC j.old got && (!j.two || electsC j.new got)
def commitsJ (j : Jnt) (got : Int) : Bool := commitsC j.old got && (!j.two || commitsC j.new got)

/-- Two sets that have more of a third than it has, together: they meet. -/
theorem meet_count {V a b : Int} {E C : Int} (hE : E ≤ cnt (inter V a)) (hC : C ≤ cnt (inter V b)) (h : cnt V < E + C) : bits .and .u16 a b ≠ 0 := by
  intro h0
  have e1 := cnt_union (inter V a) (inter V b)
  have e2 : cnt (union (inter V a) (inter V b)) ≤ cnt V := cnt_mono fun i _ ht => by
    rw [tb_union, tb_inter, tb_inter, Bool.or_eq_true, Bool.and_eq_true, Bool.and_eq_true] at ht
    rcases ht with ht | ht <;> exact ht.1
  have e3 : cnt (inter (inter V a) (inter V b)) ≤ cnt (inter a b) := cnt_mono fun i _ ht => by
    rw [tb_inter, tb_inter, tb_inter, Bool.and_eq_true, Bool.and_eq_true, Bool.and_eq_true] at ht
    rw [tb_inter, ht.1.2, ht.2.2]
    rfl
  have e4 : cnt (inter a b) = 0 := by
    show cnt (bits .and .u16 a b) = 0
    rw [h0]
    decide +kernel
  omega

theorem share_commit {x : Cfg} {a b : Int} (hm : mayC x = true) (ha : electsC x a = true) (hb : commitsC x b = true) : bits .and .u16 a b ≠ 0 := by
  obtain ⟨v, w, l, e, c⟩ := x
  obtain ⟨_, _, _, _, _, _, _, _, _, _, _, h1, _⟩ := (mayC_iff _ _ _ _ _).1 hm
  unfold electsC at ha
  unfold commitsC at hb
  rw [Bool.and_eq_true] at hb
  have h2 : e ≤ cnt (inter (union v w) a) := of_decide_eq_true ha
  have h3 : c ≤ cnt (inter (union v w) b) := of_decide_eq_true hb.1
  exact meet_count (V := union v w) h2 h3 (by omega)

theorem share_elect {x : Cfg} {a b : Int} (hm : mayC x = true) (ha : electsC x a = true) (hb : electsC x b = true) : bits .and .u16 a b ≠ 0 := by
  obtain ⟨v, w, l, e, c⟩ := x
  obtain ⟨_, _, _, _, _, _, _, _, _, _, _, _, h1⟩ := (mayC_iff _ _ _ _ _).1 hm
  unfold electsC at ha hb
  have h2 : e ≤ cnt (inter (union v w) a) := of_decide_eq_true ha
  have h3 : e ≤ cnt (inter (union v w) b) := of_decide_eq_true hb
  exact meet_count (V := union v w) h2 h3 (by omega)

/-- Two joints that share a configuration that may be. -/
def Shares (p q : Jnt) : Prop := ∃ x, mayC x = true ∧ (∀ a, electsJ p a = true → electsC x a = true) ∧ (∀ b, electsJ q b = true → electsC x b = true) ∧ (∀ b, commitsJ q b = true → commitsC x b = true)

theorem elects_old {j : Jnt} {a : Int} (h : electsJ j a = true) : electsC j.old a = true := by
  unfold electsJ at h
  rw [Bool.and_eq_true] at h
  exact h.1
theorem elects_new {j : Jnt} {a : Int} (ht : j.two = true) (h : electsJ j a = true) : electsC j.new a = true := by
  unfold electsJ at h
  rw [Bool.and_eq_true, ht] at h
  exact h.2
theorem commits_old {j : Jnt} {a : Int} (h : commitsJ j a = true) : commitsC j.old a = true := by
  unfold commitsJ at h
  rw [Bool.and_eq_true] at h
  exact h.1
theorem commits_new {j : Jnt} {a : Int} (ht : j.two = true) (h : commitsJ j a = true) : commitsC j.new a = true := by
  unfold commitsJ at h
  rw [Bool.and_eq_true, ht] at h
  exact h.2

theorem Shares.commit {p q : Jnt} (h : Shares p q) {a b : Int} (ha : electsJ p a = true) (hb : commitsJ q b = true) : bits .and .u16 a b ≠ 0 := by
  obtain ⟨x, hm, h1, _, h3⟩ := h
  exact share_commit hm (h1 a ha) (h3 b hb)
theorem Shares.elect {p q : Jnt} (h : Shares p q) {a b : Int} (ha : electsJ p a = true) (hb : electsJ q b = true) : bits .and .u16 a b ≠ 0 := by
  obtain ⟨x, hm, h1, h2, _⟩ := h
  exact share_elect hm (h1 a ha) (h2 b hb)

theorem may_old {j : Jnt} (h : mayJ j = true) : mayC j.old = true := by
  unfold mayJ at h
  split at h <;> rw [Bool.and_eq_true] at h <;> exact h.1

theorem Shares.self {j : Jnt} (h : mayJ j = true) : Shares j j := ⟨j.old, may_old h, fun _ => elects_old, fun _ => elects_old, fun _ => commits_old⟩

theorem change_ok {j : Jnt} {t : Cfg} (h : (changeJ j t).2 = 0) : changeJ j t = (⟨j.old, t, true⟩, 0) ∧ j.two = false ∧ mayC t = true := by
  unfold changeJ at h ⊢
  cases ht : j.two with
  | true => rw [ht] at h; simp at h
  | false =>
    rw [ht] at h
    simp only [Bool.false_eq_true, if_false] at h ⊢
    cases hm : mayC t with
    | false => rw [hm] at h; simp at h
    | true =>
      rw [hm] at h
      simp only [Bool.true_eq_false, if_false] at h ⊢
      split at h
      · simp at h
      · rename_i hc
        rw [if_neg hc]
        refine ⟨rfl, ?_, ?_⟩ <;> first | rfl | trivial

/-- The joint ahead of a change, the change, and what it ends in: whichever stand beside each other share a configuration. -/
theorem shares_list {j : Jnt} {t : Cfg} (hm : mayJ j = true) (ht : mayC t = true) :
    ∀ p q : Nat, p < 3 → q < 3 → ¬ (p - q > 1 ∨ q - p > 1) → Shares ([j, ⟨j.old, t, true⟩, ⟨t, zeroC, false⟩].getD p zeroJ) ([j, ⟨j.old, t, true⟩, ⟨t, zeroC, false⟩].getD q zeroJ) := by
  intro p q hp hq hpq
  have ho := may_old hm
  have hp' : p = 0 ∨ p = 1 ∨ p = 2 := by omega
  have hq' : q = 0 ∨ q = 1 ∨ q = 2 := by omega
  rcases hp' with rfl | rfl | rfl <;> rcases hq' with rfl | rfl | rfl
  · exact Shares.self hm
  · show Shares j ⟨j.old, t, true⟩
    exact ⟨j.old, ho, fun _ h => elects_old (j := (j : Jnt)) h, fun _ h => elects_old (j := (⟨j.old, t, true⟩ : Jnt)) h, fun _ h => commits_old (j := (⟨j.old, t, true⟩ : Jnt)) h⟩
  · omega
  · show Shares ⟨j.old, t, true⟩ j
    exact ⟨j.old, ho, fun _ h => elects_old (j := (⟨j.old, t, true⟩ : Jnt)) h, fun _ h => elects_old (j := (j : Jnt)) h, fun _ h => commits_old (j := (j : Jnt)) h⟩
  · show Shares ⟨j.old, t, true⟩ ⟨j.old, t, true⟩
    exact ⟨j.old, ho, fun _ h => elects_old (j := (⟨j.old, t, true⟩ : Jnt)) h, fun _ h => elects_old (j := (⟨j.old, t, true⟩ : Jnt)) h, fun _ h => commits_old (j := (⟨j.old, t, true⟩ : Jnt)) h⟩
  · show Shares ⟨j.old, t, true⟩ ⟨t, zeroC, false⟩
    exact ⟨t, ht, fun _ h => elects_new (j := (⟨j.old, t, true⟩ : Jnt)) rfl h, fun _ h => elects_old (j := (⟨t, zeroC, false⟩ : Jnt)) h, fun _ h => commits_old (j := (⟨t, zeroC, false⟩ : Jnt)) h⟩
  · omega
  · show Shares ⟨t, zeroC, false⟩ ⟨j.old, t, true⟩
    exact ⟨t, ht, fun _ h => elects_old (j := (⟨t, zeroC, false⟩ : Jnt)) h, fun _ h => elects_new (j := (⟨j.old, t, true⟩ : Jnt)) rfl h, fun _ h => commits_new (j := (⟨j.old, t, true⟩ : Jnt)) rfl h⟩
  · show Shares ⟨t, zeroC, false⟩ ⟨t, zeroC, false⟩
    exact ⟨t, ht, fun _ h => elects_old (j := (⟨t, zeroC, false⟩ : Jnt)) h, fun _ h => elects_old (j := (⟨t, zeroC, false⟩ : Jnt)) h, fun _ h => commits_old (j := (⟨t, zeroC, false⟩ : Jnt)) h⟩

theorem mayJ_two {x t : Cfg} (hx : mayC x = true) (ht : mayC t = true) : mayJ ⟨x, t, true⟩ = true := by
  show (mayC x && mayC t) = true
  rw [hx, ht]
  rfl
theorem mayJ_one {t : Cfg} (ht : mayC t = true) : mayJ ⟨t, zeroC, false⟩ = true := by
  show (mayC t && (zeroC == zeroC)) = true
  rw [ht]
  decide
end Go.Proofs.Ytcciejglemfebaa
