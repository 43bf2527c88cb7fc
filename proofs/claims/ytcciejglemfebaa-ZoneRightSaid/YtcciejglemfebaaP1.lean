/- Plain: the set of a list of nodes, one by one. -/
import Derived.Test.YtcciejglemfebaaP0
namespace Go.Proofs.Ytcciejglemfebaa
open Go

/-- What Of comes to from a set on: the set and 0, or 0 and 1. -/
def ofGo (s : Int) : List Int → Int × Int
  | [] => (s, 0)
  | n :: l => if one n = 0 then (0, 1) else ofGo (union s (one n)) l

theorem drop_getD (l : List Int) (k : Nat) (h : k < l.length) : l.drop k = l.getD k 0 :: l.drop (k + 1) := by
  rw [List.drop_eq_getElem_cons h]
  simp [List.getD, List.getElem?_eq_getElem h]

theorem ofGo_zero (s n : Int) (l : List Int) (h : one n = 0) : ofGo s (n :: l) = (0, 1) := by
  simp [ofGo, h]
theorem ofGo_more (s n : Int) (l : List Int) (h : one n ≠ 0) : ofGo s (n :: l) = ofGo (union s (one n)) l := by
  simp [ofGo, h]
end Go.Proofs.Ytcciejglemfebaa
