/- Plain: what a configuration survives; what Check answers. -/
import Derived.Test.YtcciejglemfebaaZ6
import Derived.Test.YtcciejglemfebaaP8
namespace Go.Proofs.Ytcciejglemfebaa
open Go

/-- Does a configuration go on without some nodes? -/
def standsC (c : Cfg) (gone : Int) : Bool :=
  decide (c.e ≤ cnt (diff (union c.v c.w) gone)) && decide (c.c ≤ cnt (diff (union c.v c.w) gone)) && decide (0 < cnt (diff c.v gone))

/-- The first k nodes that lie in a region, as a set. -/
def goneGo (regs : List Int) (r : Int) : Nat → Int
  | 0 => 0
  | k + 1 => if regs.getD k 0 = r then union (goneGo regs r k) (one ((k : Int) + 1)) else goneGo regs r k

/-- The first that fails, from k on, of so many. -/
def firstBad (f : Nat → Bool) : Nat → Nat → Option Nat
  | 0, _ => none
  | m + 1, k => if f k = true then firstBad f m (k + 1) else some k

def survN (regs : List Int) (c : Cfg) : Bool × Int :=
  match firstBad (fun i => standsC c (union 0 (one ((i : Int) + 1)))) regs.length 0 with
  | none => (true, -1)
  | some i => (false, (i : Int) + 1)
def survR (regs : List Int) (c : Cfg) : Bool × Int :=
  match firstBad (fun r => standsC c (goneGo regs (r : Int) regs.length)) 4 0 with
  | none => (true, -1)
  | some r => (false, (r : Int))
/-- What Survives answers. -/
def survP (regs : List Int) (c : Cfg) (what : Int) : Bool × Int :=
  if mayRegsB regs = false then (false, -1)
  else if what = 1 then survN regs c
  else if what = 2 then survR regs c
  else if what = 0 then (true, -1) else (false, -1)

/-- What Check answers. -/
def checkP (regs load : List Int) (z : Zn) : Cfg × Int :=
  if (allotP regs load z).2 ≠ 0 then (zeroC, (allotP regs load z).2)
  else if mayC (allotP regs load z).1 = false then (zeroC, 11)
  else if (survP regs (allotP regs load z).1 z.s).1 = false then (zeroC, 12)
  else ((allotP regs load z).1, 0)

theorem firstBad_on {f : Nat → Bool} {m k : Nat} (h : f k = true) : firstBad f (m + 1) k = firstBad f m (k + 1) := by simp [firstBad, h]
theorem firstBad_off {f : Nat → Bool} {m k : Nat} (h : f k = false) : firstBad f (m + 1) k = some k := by simp [firstBad, h]
theorem survN_some {regs : List Int} {c : Cfg} {i : Nat} (h : firstBad (fun i => standsC c (union 0 (one ((i : Int) + 1)))) regs.length 0 = some i) : survN regs c = (false, (i : Int) + 1) := by
  unfold survN; rw [h]
theorem survN_none {regs : List Int} {c : Cfg} (h : firstBad (fun i => standsC c (union 0 (one ((i : Int) + 1)))) regs.length 0 = none) : survN regs c = (true, -1) := by
  unfold survN; rw [h]
theorem survR_some {regs : List Int} {c : Cfg} {r : Nat} (h : firstBad (fun r => standsC c (goneGo regs (r : Int) regs.length)) 4 0 = some r) : survR regs c = (false, (r : Int)) := by
  unfold survR; rw [h]
theorem survR_none {regs : List Int} {c : Cfg} (h : firstBad (fun r => standsC c (goneGo regs (r : Int) regs.length)) 4 0 = none) : survR regs c = (true, -1) := by
  unfold survR; rw [h]
theorem goneGo_on {regs : List Int} {r : Int} {k : Nat} (h : regs.getD k 0 = r) : goneGo regs r (k + 1) = union (goneGo regs r k) (one ((k : Int) + 1)) := by
  simp only [goneGo, if_pos h]
theorem goneGo_off {regs : List Int} {r : Int} {k : Nat} (h : regs.getD k 0 ≠ r) : goneGo regs r (k + 1) = goneGo regs r k := by
  simp only [goneGo, if_neg h]
theorem goneGo_u (regs : List Int) (r : Int) : ∀ k, U (goneGo regs r k)
  | 0 => (show U 0 from ⟨by decide, by decide⟩)
  | k + 1 => by
    unfold goneGo
    split
    · exact bits_u _ _ _
    · exact goneGo_u regs r k

/-! ### node by node -/
/-- How many of the first k nodes are in one set and not in another. -/
def upTo (a g : Int) : Nat → Int
  | 0 => 0
  | k + 1 => if hasB a ((k : Int) + 1) = true ∧ hasB g ((k : Int) + 1) = false then upTo a g k + 1 else upTo a g k
theorem upTo_le (a g : Int) : ∀ k : Nat, 0 ≤ upTo a g k ∧ upTo a g k ≤ k
  | 0 => ⟨Int.le_refl _, Int.le_refl _⟩
  | k + 1 => by
    have := upTo_le a g k
    unfold upTo
    split <;> omega
theorem upTo_on {a g : Int} {k : Nat} (h : hasB a ((k : Int) + 1) = true) (h' : hasB g ((k : Int) + 1) = false) : upTo a g (k + 1) = upTo a g k + 1 := by simp [upTo, h, h']
theorem upTo_off1 {a g : Int} {k : Nat} (h : hasB g ((k : Int) + 1) = true) : upTo a g (k + 1) = upTo a g k := by simp [upTo, h]
theorem upTo_off2 {a g : Int} {k : Nat} (h : hasB a ((k : Int) + 1) = false) : upTo a g (k + 1) = upTo a g k := by simp [upTo, h]
theorem hasB_nat (s : Int) {k : Nat} (h : k < 9) : hasB s ((k : Int) + 1) = tb s (k + 1) := by
  unfold hasB
  have e : ((k : Int) + 1).toNat = k + 1 := by omega
  rw [e]
  have h1 : decide (1 ≤ (k : Int) + 1) = true := decide_eq_true (by omega)
  have h2 : decide ((k : Int) + 1 ≤ 9) = true := decide_eq_true (by omega)
  rw [h1, h2]; rfl
theorem upTo_range (a g : Int) : ∀ k : Nat, k ≤ 9 → upTo a g k = (((List.range k).map (· + 1)).countP (tb (diff a g)) : Int)
  | 0, _ => rfl
  | k + 1, h => by
    have ih := upTo_range a g k (by omega)
    rw [List.range_succ, List.map_append, List.countP_append]
    have e : tb (diff a g) (k + 1) = (tb a (k + 1) && !tb g (k + 1)) := tb_diff _ _ _
    have ha := hasB_nat a (k := k) (by omega)
    have hg := hasB_nat g (k := k) (by omega)
    unfold upTo
    rw [ha, hg, ih]
    cases h1 : tb a (k + 1) <;> cases h2 : tb g (k + 1) <;> simp [e, h1, h2]
theorem upTo_cnt (a g : Int) : upTo a g 9 = cnt (diff a g) := by
  rw [upTo_range a g 9 (Nat.le_refl _)]
  rfl
theorem upTo_msk (a g : Int) : ∀ k : Nat, k ≤ 9 → upTo (msk a) g k = upTo a g k
  | 0, _ => rfl
  | k + 1, h => by
    have ih := upTo_msk a g k (by omega)
    have e : hasB (msk a) ((k : Int) + 1) = hasB a ((k : Int) + 1) := by
      rw [hasB_nat _ (by omega), hasB_nat _ (by omega), tb_msk]
      have : k + 1 ≤ 9 := h
      match k, this with
      | 0, _ => decide
      | 1, _ => decide
      | 2, _ => decide
      | 3, _ => decide
      | 4, _ => decide
      | 5, _ => decide
      | 6, _ => decide
      | 7, _ => decide
      | 8, _ => decide
      | k + 9, h => omega
    unfold upTo
    rw [e, ih]

theorem allotGo_us {regs load : List Int} {z : Zn} : ∀ (m p : Nat) {s t : S3}, s.Us → allotGo regs load z m p s = some t → t.Us
  | 0, _, s, t, h, e => by
    have : s = t := by simpa [allotGo] using e
    subst this
    exact h
  | m + 1, p, s, t, h, e => by
    cases hg : takeGo regs load ((p / 3 : Nat) : Int) s.all ((z.at (p % 3)).getD (p / 3) 0).toNat 0 with
    | none => rw [allotGo_none hg] at e; cases e
    | some g =>
      rw [allotGo_some hg] at e
      exact allotGo_us m (p + 1) (put_us h _ (bits_u _ _ _) _) e
theorem allotP_us (regs load : List Int) (z : Zn) : U (allotP regs load z).1.v ∧ U (allotP regs load z).1.w ∧ U (allotP regs load z).1.l := by
  have h0 : U 0 := ⟨by decide, by decide⟩
  unfold allotP
  split
  · split
    · exact ⟨h0, h0, h0⟩
    · rename_i s hs
      exact allotGo_us 12 0 ⟨h0, h0, h0⟩ hs
  · exact ⟨h0, h0, h0⟩
end Go.Proofs.Ytcciejglemfebaa
