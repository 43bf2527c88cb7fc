/- Plain: configurations and joints as data, and what package conf says of them. -/
import Derived.Test.YtcciejglemfebaaP0
namespace Go.Proofs.Ytcciejglemfebaa
open Go

/-- Has a number no bits but nodes? -/
def mayB (s : Int) : Bool := diff s 1022 == 0

theorem cnt_nonneg (s : Int) : 0 ≤ cnt s := by unfold cnt; omega
theorem cnt_le (s : Int) : cnt s ≤ 9 := by
  unfold cnt
  have : nodes.countP (tb s) ≤ nodes.length := List.countP_le_length
  have e : nodes.length = 9 := rfl
  omega

/-- A configuration: voters, witnesses, learners, how many elect, how many commit. -/
structure Cfg where
  v : Int
  w : Int
  l : Int
  e : Int
  c : Int
deriving DecidableEq

/-- A joint. -/
structure Jnt where
  old : Cfg
  new : Cfg
  two : Bool
deriving DecidableEq

def votesC (x : Cfg) : Int := union x.v x.w

def mayC (x : Cfg) : Bool :=
  mayB x.v && mayB x.w && mayB x.l && (inter x.v x.w == 0) && (inter x.v x.l == 0) && (inter x.w x.l == 0) && (x.v != 0) &&
    (decide (1 ≤ x.e) && decide (x.e ≤ cnt (votesC x)) && decide (1 ≤ x.c) && decide (x.c ≤ cnt (votesC x)) && decide (cnt (votesC x) - x.c < x.e) && decide (cnt (votesC x) - x.e < x.e))

theorem mayC_iff (v w l e c : Int) : mayC ⟨v, w, l, e, c⟩ = true ↔
    mayB v = true ∧ mayB w = true ∧ mayB l = true ∧ bits .and .u16 v w = 0 ∧ bits .and .u16 v l = 0 ∧ bits .and .u16 w l = 0 ∧ v ≠ 0 ∧
      1 ≤ e ∧ e ≤ cnt (union v w) ∧ 1 ≤ c ∧ c ≤ cnt (union v w) ∧ cnt (union v w) - c < e ∧ cnt (union v w) - e < e := by
  unfold mayC votesC
  simp only [Bool.and_eq_true, decide_eq_true_eq, beq_iff_eq, bne_iff_ne, and_assoc]

def zeroC : Cfg := ⟨0, 0, 0, 0, 0⟩

def mayJ (j : Jnt) : Bool := if j.two then mayC j.old && mayC j.new else mayC j.old && (j.new == zeroC)

def zeroJ : Jnt := ⟨zeroC, zeroC, false⟩

def changeJ (j : Jnt) (t : Cfg) : Jnt × Int :=
  if j.two then (zeroJ, 10) else if mayC t = false then (zeroJ, 11) else if t.w ≠ j.old.w ∨ diff t.v (union j.old.v j.old.l) ≠ 0 then (zeroJ, 10) else (⟨j.old, t, true⟩, 0)

def finalJ (j : Jnt) : Jnt := if j.two then ⟨j.new, zeroC, false⟩ else j

end Go.Proofs.Ytcciejglemfebaa
