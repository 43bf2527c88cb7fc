/- Plain: which node of a region is next, looked for from above and from below: the same. -/
import Derived.Test.YtcciejglemfebaaP3
namespace Go.Proofs.Ytcciejglemfebaa
open Go

section
variable (C : Nat → Bool) (ld : Nat → Int)
/-- One look from above: node k + 1 against b, the best yet (0: none). -/
def stepD (k b : Nat) : Nat := if C k = true ∧ (b = 0 ∨ ld k ≤ ld (b - 1)) then k + 1 else b
def downB : Nat → Nat → Nat
  | 0, b => b
  | k + 1, b => downB k (stepD C ld k b)
/-- One look from below. -/
def stepU (k b : Nat) : Nat := if C k = true ∧ (b = 0 ∨ ld k < ld (b - 1)) then k + 1 else b
/-- So many nodes left to look at, from node k + 1 on. -/
def upB : Nat → Nat → Nat → Nat
  | 0, _, b => b
  | m + 1, k, b => upB m (k + 1) (stepU C ld k b)

/-- b is the best of the nodes from lo + 1 to hi: the least load, then the least number; 0: there is none. -/
def IsBest (lo hi b : Nat) : Prop :=
  (b = 0 ∧ ∀ k, lo ≤ k → k < hi → C k = false) ∨
    ∃ j, b = j + 1 ∧ lo ≤ j ∧ j < hi ∧ C j = true ∧ ∀ k, lo ≤ k → k < hi → C k = true → ld j < ld k ∨ (ld j = ld k ∧ j ≤ k)

theorem downB_step {k b : Nat} (h : 1 ≤ k) : downB C ld k b = downB C ld (k - 1) (stepD C ld (k - 1) b) := by
  obtain ⟨j, rfl⟩ : ∃ j, k = j + 1 := ⟨k - 1, by omega⟩
  rfl
theorem stepD_off {k b : Nat} (h : C k = false) : stepD C ld k b = b := by simp [stepD, h]
theorem stepD_zero {k : Nat} (h : C k = true) : stepD C ld k 0 = k + 1 := by simp [stepD, h]
theorem stepD_le {k b : Nat} (h : C k = true) (g : ld k ≤ ld (b - 1)) : stepD C ld k b = k + 1 := by simp [stepD, h, g]
theorem stepD_gt {k b : Nat} (h0 : b ≠ 0) (g : ¬ ld k ≤ ld (b - 1)) : stepD C ld k b = b := by simp [stepD, h0, g]
theorem stepU_off {k b : Nat} (h : C k = false) : stepU C ld k b = b := by simp [stepU, h]
theorem stepU_zero {k : Nat} (h : C k = true) : stepU C ld k 0 = k + 1 := by simp [stepU, h]
theorem stepU_lt {k b : Nat} (h : C k = true) (g : ld k < ld (b - 1)) : stepU C ld k b = k + 1 := by simp [stepU, h, g]
theorem stepU_ge {k b : Nat} (h0 : b ≠ 0) (g : ¬ ld k < ld (b - 1)) : stepU C ld k b = b := by
  unfold stepU
  rw [if_neg]
  rintro ⟨_, h | h⟩
  · exact h0 h
  · exact g h

theorem isBest_down {k n b : Nat} (hk : k < n) (h : IsBest C ld (k + 1) n b) : IsBest C ld k n (stepD C ld k b) := by
  unfold stepD
  split
  · rename_i hc
    obtain ⟨hC, hb⟩ := hc
    refine Or.inr ⟨k, rfl, Nat.le_refl _, hk, hC, fun i h1 h2 h3 => ?_⟩
    by_cases hik : i = k
    · subst hik; exact Or.inr ⟨rfl, Nat.le_refl _⟩
    · rcases h with ⟨h0, hno⟩ | ⟨j, hj, hj1, hj2, hj3, hj4⟩
      · rw [hno i (by omega) h2] at h3; cases h3
      · subst hj
        have := hj4 i (by omega) h2 h3
        simp at hb
        omega
  · rename_i hc
    rcases h with ⟨h0, hno⟩ | ⟨j, hj, hj1, hj2, hj3, hj4⟩
    · subst h0
      refine Or.inl ⟨rfl, fun i h1 h2 => ?_⟩
      by_cases hik : i = k
      · subst hik
        cases hC : C i with
        | false => rfl
        | true => exact absurd ⟨hC, Or.inl rfl⟩ hc
      · exact hno i (by omega) h2
    · subst hj
      refine Or.inr ⟨j, rfl, by omega, hj2, hj3, fun i h1 h2 h3 => ?_⟩
      by_cases hik : i = k
      · subst hik
        have : ¬ ld i ≤ ld j := fun hle => hc ⟨h3, Or.inr (by simpa using hle)⟩
        omega
      · exact hj4 i (by omega) h2 h3

theorem isBest_up {k b : Nat} (h : IsBest C ld 0 k b) : IsBest C ld 0 (k + 1) (stepU C ld k b) := by
  unfold stepU
  split
  · rename_i hc
    obtain ⟨hC, hb⟩ := hc
    refine Or.inr ⟨k, rfl, by omega, by omega, hC, fun i h1 h2 h3 => ?_⟩
    by_cases hik : i = k
    · subst hik; exact Or.inr ⟨rfl, Nat.le_refl _⟩
    · rcases h with ⟨h0, hno⟩ | ⟨j, hj, hj1, hj2, hj3, hj4⟩
      · rw [hno i (by omega) (by omega)] at h3; cases h3
      · subst hj
        have := hj4 i (by omega) (by omega) h3
        simp at hb
        omega
  · rename_i hc
    rcases h with ⟨h0, hno⟩ | ⟨j, hj, hj1, hj2, hj3, hj4⟩
    · subst h0
      refine Or.inl ⟨rfl, fun i h1 h2 => ?_⟩
      by_cases hik : i = k
      · subst hik
        cases hC : C i with
        | false => rfl
        | true => exact absurd ⟨hC, Or.inl rfl⟩ hc
      · exact hno i (by omega) (by omega)
    · subst hj
      refine Or.inr ⟨j, rfl, by omega, by omega, hj3, fun i h1 h2 h3 => ?_⟩
      by_cases hik : i = k
      · subst hik
        have : ¬ ld i < ld j := fun hlt => hc ⟨h3, Or.inr (by simpa using hlt)⟩
        by_cases he : ld j = ld i
        · exact Or.inr ⟨he, by omega⟩
        · omega
      · exact hj4 i (by omega) (by omega) h3

theorem isBest_unique {lo hi a b : Nat} (h : IsBest C ld lo hi a) (g : IsBest C ld lo hi b) : a = b := by
  rcases h with ⟨h0, hno⟩ | ⟨j, hj, hj1, hj2, hj3, hj4⟩
  · rcases g with ⟨g0, gno⟩ | ⟨i, gi, gi1, gi2, gi3, gi4⟩
    · omega
    · rw [hno i gi1 gi2] at gi3; cases gi3
  · rcases g with ⟨g0, gno⟩ | ⟨i, gi, gi1, gi2, gi3, gi4⟩
    · rw [gno j hj1 hj2] at hj3; cases hj3
    · have := hj4 i gi1 gi2 gi3
      have := gi4 j hj1 hj2 hj3
      omega

theorem isBest_downB {n : Nat} : ∀ (k b : Nat), k ≤ n → IsBest C ld k n b → IsBest C ld 0 n (downB C ld k b)
  | 0, _, _, h => h
  | k + 1, b, hk, h => isBest_downB k _ (by omega) (isBest_down C ld (by omega) h)
theorem isBest_upB : ∀ (m k b : Nat), IsBest C ld 0 k b → IsBest C ld 0 (k + m) (upB C ld m k b)
  | 0, _, _, h => h
  | m + 1, k, b, h => by
    have := isBest_upB m (k + 1) _ (isBest_up C ld h)
    rwa [show k + 1 + m = k + (m + 1) from by omega] at this

/-- The node that is next. -/
def bestB (n : Nat) : Nat := downB C ld n 0
theorem bestB_is (n : Nat) : IsBest C ld 0 n (bestB C ld n) := isBest_downB C ld n 0 (Nat.le_refl _) (Or.inl ⟨rfl, fun _ _ _ => by omega⟩)
theorem upB_best (n : Nat) : upB C ld n 0 0 = bestB C ld n := by
  have h := isBest_upB C ld n 0 0 (Or.inl ⟨rfl, fun _ _ _ => by omega⟩)
  rw [Nat.zero_add] at h
  exact isBest_unique C ld h (bestB_is C ld n)
theorem bestB_le (n : Nat) : bestB C ld n ≤ n := by
  rcases bestB_is C ld n with ⟨h, _⟩ | ⟨j, h, _, h2, _⟩ <;> omega
theorem bestB_cand {n : Nat} (h : bestB C ld n ≠ 0) : C (bestB C ld n - 1) = true := by
  rcases bestB_is C ld n with ⟨h', _⟩ | ⟨j, h', _, h2, h3, _⟩
  · exact absurd h' h
  · rw [h']; exact h3
end

/-- Is node k + 1 of the region, and free? -/
def candB (regs : List Int) (r used : Int) (k : Nat) : Bool := (regs.getD k 0 == r) && !hasB used ((k : Int) + 1)
/-- The node of a region that is next; 0: there is none. -/
def nextB (regs load : List Int) (r used : Int) : Nat := bestB (candB regs r used) (fun k => load.getD k 0) regs.length

theorem candB_off1 {regs : List Int} {r u : Int} {k : Nat} (h : regs.getD (k - 1) 0 ≠ r) : candB regs r u (k - 1) = false := by
  unfold candB; rw [beq_false_of_ne h]; rfl
theorem candB_off2 {regs : List Int} {r u i : Int} {k : Nat} (hi : i = (k : Int)) (h1 : 1 ≤ k) (h : hasB u i = true) : candB regs r u (k - 1) = false := by
  subst hi; unfold candB; rw [show (((k - 1 : Nat) : Int) + 1) = (k : Int) from by omega, h]; simp
theorem candB_on {regs : List Int} {r u i : Int} {k : Nat} (hi : i = (k : Int)) (h1 : 1 ≤ k) (h : regs.getD (k - 1) 0 = r) (h2 : hasB u i = false) : candB regs r u (k - 1) = true := by
  subst hi; unfold candB; rw [show (((k - 1 : Nat) : Int) + 1) = (k : Int) from by omega, h2, h]; simp

/-- So many nodes of a region, one behind the other; none: there are not so many. -/
def takeGo (regs load : List Int) (r taken : Int) : Nat → Int → Option Int
  | 0, got => some got
  | n + 1, got => if nextB regs load r (union taken got) = 0 then none else takeGo regs load r taken n (union got (one (nextB regs load r (union taken got))))
theorem takeGo_none {regs load : List Int} {r taken got : Int} {n : Nat} (h : nextB regs load r (union taken got) = 0) : takeGo regs load r taken (n + 1) got = none := by
  simp [takeGo, h]
theorem takeGo_some {regs load : List Int} {r taken got : Int} {n : Nat} (h : nextB regs load r (union taken got) ≠ 0) :
    takeGo regs load r taken (n + 1) got = takeGo regs load r taken n (union got (one (nextB regs load r (union taken got)))) := by
  simp [takeGo, h]
end Go.Proofs.Ytcciejglemfebaa
