/- Plain: all subsets of a set, told by number; those of one size; whether those of two lists meet. -/
import Derived.Test.YtcciejglemfebaaP5
namespace Go.Proofs.Ytcciejglemfebaa
open Go

/-- Is the number v a subset of s? -/
def subP (s : Int) (v : Nat) : Bool := mayB v && (msk (inter v s) == (v : Int))

def subsUp (s : Int) : Nat → List Int
  | 0 => []
  | k + 1 => if subP s k then subsUp s k ++ [(k : Int)] else subsUp s k

theorem subsUp_len (s : Int) : ∀ k, (subsUp s k).length ≤ k
  | 0 => Nat.le_refl _
  | k + 1 => by
    have := subsUp_len s k
    unfold subsUp
    split
    · rw [List.length_append]; simp; omega
    · omega
theorem subsUp_on {s : Int} {k : Nat} (h : subP s k = true) : subsUp s (k + 1) = subsUp s k ++ [(k : Int)] := by rw [subsUp, if_pos h]
theorem subsUp_off {s : Int} {k : Nat} (h : subP s k = false) : subsUp s (k + 1) = subsUp s k := by rw [subsUp, if_neg (by simp [h])]
theorem subsUp_mem {s x : Int} : ∀ {k : Nat}, x ∈ subsUp s k ↔ ∃ n : Nat, n < k ∧ x = (n : Int) ∧ subP s n = true
  | 0 => by simp [subsUp]
  | k + 1 => by
    cases h : subP s k with
    | true =>
      rw [subsUp_on h, List.mem_append, subsUp_mem]
      simp only [List.mem_singleton]
      constructor
      · rintro (⟨n, a, b, c⟩ | rfl)
        · exact ⟨n, by omega, b, c⟩
        · exact ⟨k, by omega, rfl, h⟩
      · rintro ⟨n, a, b, c⟩
        by_cases hn : n = k
        · subst hn; exact .inr b
        · exact .inl ⟨n, by omega, b, c⟩
    | false =>
      rw [subsUp_off h, subsUp_mem]
      constructor
      · rintro ⟨n, a, b, c⟩
        exact ⟨n, by omega, b, c⟩
      · rintro ⟨n, a, b, c⟩
        by_cases hn : n = k
        · subst hn; rw [h] at c; cases c
        · exact ⟨n, by omega, b, c⟩

def subsets (s : Int) : List Int := subsUp s 1024

theorem subsets_u {s x : Int} (h : x ∈ subsets s) : U x := by
  obtain ⟨n, hn, rfl, _⟩ := subsUp_mem.1 h
  exact ⟨by omega, by omega⟩

/-- Those of so many. -/
def ofSize (n : Int) (l : List Int) : List Int := l.filter fun x => cnt x == n
def quorumsR (s n : Int) : List Int := ofSize n (subsets s)

theorem quorums_u {s n x : Int} (h : x ∈ quorumsR s n) : U x := subsets_u (List.mem_filter.1 h).1

/-- Do they all meet? -/
def meetB (x y : List Int) : Bool := x.all fun a => y.all fun b => msk (inter a b) != 0

def votesR (x : Cfg) : Int := msk (union x.v x.w)
def meetR (a b : Cfg) : Bool := meetB (quorumsR (votesR a) a.e) (quorumsR (votesR b) b.c)
theorem votesR_u (x : Cfg) : U (votesR x) := by unfold votesR msk; exact bits_u _ _ _

theorem all_take {p : Int → Bool} {l : List Int} {k : Nat} (h : k < l.length) : (l.take (k + 1)).all p = ((l.take k).all p && p (l.getD k 0)) := by
  rw [List.take_succ_eq_append_getElem h, List.all_append]
  simp [List.getD, List.getElem?_eq_getElem h]
theorem meetB_take {x y : List Int} {k : Nat} (h : k < x.length) : meetB (x.take (k + 1)) y = (meetB (x.take k) y && y.all fun b => msk (inter (x.getD k 0) b) != 0) := all_take h
theorem meetB_false {x y : List Int} {k m : Nat} (h : k < x.length) (hm : m < y.length) (hz : msk (inter (x.getD k 0) (y.getD m 0)) = 0) : meetB x y = false := by
  have e1 : x.getD k 0 = x[k] := by simp [List.getD, List.getElem?_eq_getElem h]
  have e2 : y.getD m 0 = y[m] := by simp [List.getD, List.getElem?_eq_getElem hm]
  unfold meetB
  rw [List.all_eq_false]
  refine ⟨x[k], List.getElem_mem _, ?_⟩
  rw [Bool.not_eq_true, List.all_eq_false]
  refine ⟨y[m], List.getElem_mem _, ?_⟩
  rw [← e1, ← e2, hz]
  decide
theorem quorumsR_len (s n : Int) : (quorumsR s n).length ≤ 1024 := Nat.le_trans (List.length_filter_le _ _) (subsUp_len s 1024)
end Go.Proofs.Ytcciejglemfebaa
