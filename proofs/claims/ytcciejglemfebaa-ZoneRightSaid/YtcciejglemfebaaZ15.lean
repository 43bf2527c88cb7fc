/- Plain: a node that is taken has no more load than one of its region that is not. -/
import Derived.Test.YtcciejglemfebaaZ9
import Derived.Test.YtcciejglemfebaaP12
namespace Go.Proofs.Ytcciejglemfebaa
open Go

theorem hasB_one (n m : Int) : hasB (one n) m = (decide (1 ≤ n) && decide (n ≤ 9) && decide (m = n)) := by
  unfold hasB
  rw [tb_one]
  by_cases h1 : 1 ≤ m
  · have e : ((m.toNat : Nat) : Int) = m := by omega
    rw [e, decide_eq_true h1]
    by_cases h9 : m ≤ 9
    · simp [h9]
    · rw [decide_eq_false h9]
      by_cases hn : n ≤ 9
      · have : ¬ m = n := by omega
        simp [this]
      · simp [hn]
  · rw [decide_eq_false h1]
    by_cases hn : 1 ≤ n
    · have : ¬ m = n := by omega
      simp [this]
    · simp [hn]

/-- Who is taken has no more load than who is not, in one region; of two with the same load, the first is taken. -/
def Bal (regs load : List Int) (u : Int) : Prop :=
  ∀ a b : Nat, a < regs.length → b < regs.length → regs.getD a 0 = regs.getD b 0 → hasB u ((a : Int) + 1) = true → hasB u ((b : Int) + 1) = false →
    load.getD a 0 < load.getD b 0 ∨ (load.getD a 0 = load.getD b 0 ∧ a ≤ b)

theorem next_has {regs load : List Int} {r u : Int} (hl : regs.length ≤ 9) {j : Nat} (hj : nextB regs load r u = j + 1) (hjl : j < regs.length) (k : Nat) :
    hasB (union u (one (nextB regs load r u : Nat))) ((k : Int) + 1) = (hasB u ((k : Int) + 1) || decide (k = j)) := by
  rw [hasB_union, hasB_one, hj]
  have h1 : decide ((1 : Int) ≤ ((j + 1 : Nat) : Int)) = true := decide_eq_true (by omega)
  have h2 : decide (((j + 1 : Nat) : Int) ≤ 9) = true := decide_eq_true (by omega)
  rw [h1, h2]
  by_cases hk : k = j
  · subst hk; simp
  · have : ¬ ((k : Int) + 1 = ((j + 1 : Nat) : Int)) := by omega
    rw [decide_eq_false hk, decide_eq_false this]; simp

theorem bal_next {regs load : List Int} {r u : Int} (hl : regs.length ≤ 9) (h : Bal regs load u) (hn : nextB regs load r u ≠ 0) : Bal regs load (union u (one (nextB regs load r u : Nat))) := by
  have hb := bestB_is (candB regs r u) (fun k => load.getD k 0) regs.length
  change IsBest _ _ 0 regs.length (nextB regs load r u) at hb
  rcases hb with ⟨h0, _⟩ | ⟨j, hj, _, hjl, hC, hmin⟩
  · exact absurd h0 hn
  · intro a b ha hbl hr h1 h2
    rw [next_has hl hj hjl] at h1 h2
    simp only [Bool.or_eq_true, Bool.or_eq_false_iff, decide_eq_true_eq, decide_eq_false_iff_not] at h1 h2
    rcases h1 with h1 | h1
    · exact h a b ha hbl hr h1 h2.1
    · subst h1
      have hCa := hC
      unfold candB at hCa
      simp only [Bool.and_eq_true, beq_iff_eq] at hCa
      have hCb : candB regs r u b = true := by
        unfold candB
        simp only [Bool.and_eq_true, beq_iff_eq]
        exact ⟨hr ▸ hCa.1, by rw [h2.1]; rfl⟩
      exact hmin b (by omega) hbl hCb

theorem bal_take {regs load : List Int} {r taken : Int} (hl : regs.length ≤ 9) : ∀ (n : Nat) (got : Int) {g : Int}, Bal regs load (union taken got) → takeGo regs load r taken n got = some g → Bal regs load (union taken g)
  | 0, got, g, h, e => by
    have : got = g := by simpa [takeGo] using e
    subst this
    exact h
  | n + 1, got, g, h, e => by
    by_cases hn : nextB regs load r (union taken got) = 0
    · rw [takeGo_none hn] at e; cases e
    · rw [takeGo_some hn] at e
      refine bal_take hl n _ ?_ e
      rw [← union_assoc]
      exact bal_next hl h hn

theorem bal_allot {regs load : List Int} {z : Zn} (hl : regs.length ≤ 9) : ∀ (m p : Nat) {s t : S3}, Bal regs load s.all → allotGo regs load z m p s = some t → Bal regs load t.all
  | 0, _, s, t, h, e => by
    have : s = t := by simpa [allotGo] using e
    subst this
    exact h
  | m + 1, p, s, t, h, e => by
    cases hg : takeGo regs load ((p / 3 : Nat) : Int) s.all ((z.at (p % 3)).getD (p / 3) 0).toNat 0 with
    | none => rw [allotGo_none hg] at e; cases e
    | some g =>
      rw [allotGo_some hg] at e
      refine bal_allot hl m (p + 1) ?_ e
      rw [put_all]
      exact bal_take hl _ 0 (by rw [union_zero (all_us s)]; exact h) hg

/-- Where Allot ends well: the three sets. -/
theorem allotP_inv {regs load : List Int} {z : Zn} (h : (allotP regs load z).2 = 0) :
    mayRegsB regs = true ∧ mayZB z = true ∧ ∃ t, allotGo regs load z 12 0 ⟨0, 0, 0⟩ = some t ∧ (allotP regs load z).1 = cfgOf z t := by
  unfold allotP at h ⊢
  split at h
  · rename_i hm
    rw [if_pos hm]
    refine ⟨hm.1, hm.2, ?_⟩
    split at h
    · exact absurd h (by decide)
    · rename_i t ht
      exact ⟨t, ht, rfl⟩
  · exact absurd h (by decide)

theorem allot_bal {regs load : List Int} {z : Zn} (h : (allotP regs load z).2 = 0) :
    regs.length ≤ 9 ∧ Bal regs load (union (union (allotP regs load z).1.v (allotP regs load z).1.w) (allotP regs load z).1.l) := by
  obtain ⟨h1, _, t, ht, e⟩ := allotP_inv h
  have hl := (mayregs_len h1).2
  refine ⟨hl, ?_⟩
  rw [e]
  exact bal_allot hl 12 0 (fun a b _ _ _ h1 _ => by
    have e0 : hasB (S3.all ⟨0, 0, 0⟩) ((a : Int) + 1) = false := by
      show hasB (union (union 0 0) 0) _ = false
      rw [hasB_union, hasB_union]
      unfold hasB
      simp [tb_zero]
    rw [e0] at h1; cases h1) ht

theorem members_has (v w l e c n : Int) : hasB (rmembersJ ⟨⟨v, w, l, e, c⟩, zeroC, false⟩) n = hasB (union (union v w) l) n := by
  unfold hasB
  by_cases h1 : 1 ≤ n
  · by_cases h9 : n ≤ 9
    · have a1 : 1 ≤ n.toNat := by omega
      have a9 : n.toNat ≤ 9 := by omega
      unfold rmembersJ rvotingJ rdataJ rdataC votesR
      simp only [Bool.false_eq_true, if_false, tb_union, tb_msk_all, tb_zero, a1, a9, decide_true, Bool.and_true, Bool.false_or]
      generalize tb v n.toNat = a; generalize tb w n.toNat = b; generalize tb l n.toNat = d
      cases a <;> cases b <;> cases d <;> rfl
    · simp [h9]
  · simp [h1]
end Go.Proofs.Ytcciejglemfebaa
