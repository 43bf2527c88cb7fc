/- Plain: what Allot places is just what the zone asks for, region by region; all of it among the nodes that there are. -/
import Derived.Test.YtcciejglemfebaaZ15
namespace Go.Proofs.Ytcciejglemfebaa
open Go

/-- How many of the first j nodes lie in a region and in a set. -/
def cntGo (regs : List Int) (r u : Int) : Nat → Int
  | 0 => 0
  | j + 1 => if regs.getD j 0 = r ∧ hasB u ((j : Int) + 1) = true then cntGo regs r u j + 1 else cntGo regs r u j
theorem cntGo_le (regs : List Int) (r u : Int) : ∀ j : Nat, 0 ≤ cntGo regs r u j ∧ cntGo regs r u j ≤ j
  | 0 => ⟨Int.le_refl _, Int.le_refl _⟩
  | j + 1 => by
    have := cntGo_le regs r u j
    unfold cntGo
    split <;> omega
theorem cntGo_on {regs : List Int} {r u : Int} {j : Nat} (h : regs.getD j 0 = r) (h' : hasB u ((j : Int) + 1) = true) : cntGo regs r u (j + 1) = cntGo regs r u j + 1 := by
  simp only [cntGo, if_pos (And.intro h h')]
theorem cntGo_off1 {regs : List Int} {r u : Int} {j : Nat} (h : regs.getD j 0 ≠ r) : cntGo regs r u (j + 1) = cntGo regs r u j := by
  simp only [cntGo]; rw [if_neg (fun hh => h hh.1)]
theorem cntGo_off2 {regs : List Int} {r u : Int} {j : Nat} (h : hasB u ((j : Int) + 1) = false) : cntGo regs r u (j + 1) = cntGo regs r u j := by
  simp only [cntGo]; rw [if_neg (fun hh => by rw [h] at hh; cases hh.2)]
theorem cntGo_congr {regs : List Int} {r u u' : Int} : ∀ j : Nat, (∀ k, k < j → hasB u ((k : Int) + 1) = hasB u' ((k : Int) + 1)) → cntGo regs r u j = cntGo regs r u' j
  | 0, _ => rfl
  | j + 1, h => by
    have ih := cntGo_congr (regs := regs) (r := r) j fun k hk => h k (by omega)
    unfold cntGo
    rw [ih, h j (by omega)]

/-- One node more. -/
theorem cntGo_add {regs : List Int} {r u : Int} {i : Nat} (hi : i < 9) (hu : hasB u ((i : Int) + 1) = false) : ∀ j : Nat,
    cntGo regs r (union u (one (((i + 1 : Nat) : Int)))) j = cntGo regs r u j + (if i < j ∧ regs.getD i 0 = r then 1 else 0)
  | 0 => by simp [cntGo]
  | j + 1 => by
    have ih := cntGo_add (regs := regs) (r := r) hi hu j
    have e : hasB (union u (one (((i + 1 : Nat) : Int)))) ((j : Int) + 1) = (hasB u ((j : Int) + 1) || decide (j = i)) := by
      rw [hasB_union, hasB_one]
      have h1 : decide ((1 : Int) ≤ ((i + 1 : Nat) : Int)) = true := decide_eq_true (by omega)
      have h2 : decide (((i + 1 : Nat) : Int) ≤ 9) = true := decide_eq_true (by omega)
      rw [h1, h2]
      by_cases hk : j = i
      · subst hk; simp
      · have : ¬ ((j : Int) + 1 = ((i + 1 : Nat) : Int)) := by omega
        rw [decide_eq_false hk, decide_eq_false this]; simp
    unfold cntGo
    rw [ih, e]
    by_cases hji : j = i
    · subst hji
      have n1 : ¬ (j < j ∧ regs.getD j 0 = r) := by omega
      by_cases hr : regs.getD j 0 = r
      · rw [if_neg n1, if_pos ⟨hr, by simp⟩, if_neg (fun hh => by rw [hu] at hh; cases hh.2), if_pos ⟨by omega, hr⟩]; omega
      · rw [if_neg n1, if_neg (fun hh => hr hh.1), if_neg (fun hh => hr hh.1), if_neg (fun hh => hr hh.2)]
    · rw [decide_eq_false hji, Bool.or_false]
      have e2 : (i < j + 1 ∧ regs.getD i 0 = r) ↔ (i < j ∧ regs.getD i 0 = r) := by
        constructor
        · rintro ⟨a, b⟩; exact ⟨by omega, b⟩
        · rintro ⟨a, b⟩; exact ⟨by omega, b⟩
      by_cases hc : i < j ∧ regs.getD i 0 = r
      · rw [if_pos hc, if_pos (e2.2 hc)]; split <;> omega
      · rw [if_neg hc, if_neg (fun hh => hc (e2.1 hh))]; split <;> omega

/-- All of a set's nodes are among the nodes that there are. -/
def Within (regs : List Int) (u : Int) : Prop := ∀ k : Nat, hasB u ((k : Int) + 1) = true → k < regs.length

theorem next_spec {regs load : List Int} {r u : Int} (hn : nextB regs load r u ≠ 0) :
    ∃ j, nextB regs load r u = j + 1 ∧ j < regs.length ∧ regs.getD j 0 = r ∧ hasB u ((j : Int) + 1) = false := by
  have hb := bestB_is (candB regs r u) (fun k => load.getD k 0) regs.length
  change IsBest _ _ 0 regs.length (nextB regs load r u) at hb
  rcases hb with ⟨h0, _⟩ | ⟨j, hj, _, hjl, hC, _⟩
  · exact absurd h0 hn
  · unfold candB at hC
    simp only [Bool.and_eq_true, beq_iff_eq, Bool.not_eq_true'] at hC
    exact ⟨j, hj, hjl, hC.1, hC.2⟩

/-- What a take adds to a set within what was taken. -/
theorem take_cnt {regs load : List Int} {r taken s0 : Int} (hl : regs.length ≤ 9) (hsub : ∀ k : Nat, hasB s0 ((k : Int) + 1) = true → hasB taken ((k : Int) + 1) = true) (r' : Int) :
    ∀ (n : Nat) (got : Int) {g : Int}, takeGo regs load r taken n got = some g →
      cntGo regs r' (union s0 g) regs.length = cntGo regs r' (union s0 got) regs.length + (if r = r' then (n : Int) else 0)
  | 0, got, g, e => by
    have : got = g := by simpa [takeGo] using e
    subst this
    simp
  | n + 1, got, g, e => by
    by_cases hn : nextB regs load r (union taken got) = 0
    · rw [takeGo_none hn] at e; cases e
    · obtain ⟨j, hj, hjl, hjr, hju⟩ := next_spec hn
      rw [takeGo_some hn, hj] at e
      have ih := take_cnt hl hsub r' n _ e
      have hno : hasB (union s0 got) ((j : Int) + 1) = false := by
        rw [hasB_union] at hju ⊢
        simp only [Bool.or_eq_false_iff] at hju ⊢
        refine ⟨?_, hju.2⟩
        cases hs : hasB s0 ((j : Int) + 1) with
        | false => rfl
        | true => rw [hsub j hs] at hju; cases hju.1
      have ea := cntGo_add (regs := regs) (r := r') (u := union s0 got) (i := j) (by omega) hno regs.length
      rw [ih, ← union_assoc, ea]
      by_cases hr : r = r'
      · rw [if_pos hr, if_pos hr, if_pos ⟨hjl, hjr.trans hr⟩]; omega
      · rw [if_neg hr, if_neg hr, if_neg (fun hh => hr (hjr.symm.trans hh.2))]; omega

theorem take_within {regs load : List Int} {r taken : Int} (hl : regs.length ≤ 9) : ∀ (n : Nat) (got : Int) {g : Int}, Within regs (union taken got) → takeGo regs load r taken n got = some g → Within regs (union taken g)
  | 0, got, g, h, e => by
    have : got = g := by simpa [takeGo] using e
    subst this
    exact h
  | n + 1, got, g, h, e => by
    by_cases hn : nextB regs load r (union taken got) = 0
    · rw [takeGo_none hn] at e; cases e
    · obtain ⟨j, hj, hjl, _, _⟩ := next_spec hn
      have hh := next_has (load := load) (r := r) (u := union taken got) hl hj hjl
      rw [takeGo_some hn] at e
      refine take_within hl n _ (fun k hk => ?_) e
      rw [← union_assoc, hh, Bool.or_eq_true, decide_eq_true_eq] at hk
      rcases hk with hk | hk
      · exact h k hk
      · omega

theorem at_sub (s : S3) (i k : Nat) (h : hasB (s.at i) ((k : Int) + 1) = true) : hasB s.all ((k : Int) + 1) = true := by
  unfold S3.all
  rw [hasB_union, hasB_union]
  match i with
  | 0 => rw [show hasB s.v _ = true from h]; rfl
  | 1 => rw [show hasB s.w _ = true from h]; simp
  | i + 2 => rw [show hasB s.l _ = true from h]; simp
theorem put_other (s : S3) (x : Int) {i j : Nat} (hi : i < 3) (hj : j < 3) (h : i ≠ j) : (s.put x i).at j = s.at j := by
  have : i = 0 ∨ i = 1 ∨ i = 2 := by omega
  have : j = 0 ∨ j = 1 ∨ j = 2 := by omega
  rcases ‹i = 0 ∨ i = 1 ∨ i = 2› with rfl | rfl | rfl <;> rcases ‹j = 0 ∨ j = 1 ∨ j = 2› with rfl | rfl | rfl <;> first | rfl | exact absurd rfl h

/-- What stands so far, p steps done. -/
def Placed (regs : List Int) (z : Zn) (p : Nat) (s : S3) : Prop :=
  ∀ r i : Nat, i < 3 → cntGo regs (r : Int) (s.at i) regs.length = if 3 * r + i < p then (z.at i).getD r 0 else 0

theorem placed_step {regs load : List Int} {z : Zn} (hl : regs.length ≤ 9) (hz : mayZB z = true) {p : Nat} {s : S3} {g : Int} (hU : s.Us) (h : Placed regs z p s)
    (hg : takeGo regs load ((p / 3 : Nat) : Int) s.all ((z.at (p % 3)).getD (p / 3) 0).toNat 0 = some g) : Placed regs z (p + 1) (s.put (union (s.at (p % 3)) g) (p % 3)) := by
  intro r i hi
  have hp : p % 3 < 3 := Nat.mod_lt _ (by omega)
  by_cases he : p % 3 = i
  · have hc := take_cnt (s0 := s.at i) hl (fun k hk => at_sub s i k hk) (r : Int) _ _ hg
    rw [he, put_at]
    rw [he, union_zero (at_us hU i), h r i hi] at hc
    rw [hc]
    have hnn := mayz_list hz i (p / 3)
    by_cases hr : p / 3 = r
    · have e3 : 3 * r + i = p := by omega
      rw [if_neg (show ¬ 3 * r + i < p by omega), if_pos (show ((p / 3 : Nat) : Int) = (r : Int) by omega), if_pos (show 3 * r + i < p + 1 by omega), hr]
      rw [hr] at hnn
      omega
    · have hr' : ¬ (((p / 3 : Nat) : Int) = (r : Int)) := by omega
      rw [if_neg hr']
      by_cases hlt : 3 * r + i < p
      · rw [if_pos hlt, if_pos (by omega)]; omega
      · rw [if_neg hlt, if_neg (by omega)]; omega
  · rw [put_other s _ hp hi he, h r i hi]
    by_cases hlt : 3 * r + i < p
    · rw [if_pos hlt, if_pos (by omega)]
    · rw [if_neg hlt, if_neg (by omega)]

theorem placed_allot {regs load : List Int} {z : Zn} (hl : regs.length ≤ 9) (hz : mayZB z = true) : ∀ (m p : Nat) {s t : S3}, s.Us → Placed regs z p s → Within regs s.all → allotGo regs load z m p s = some t → Placed regs z (p + m) t ∧ Within regs t.all
  | 0, p, s, t, _, h, hw, e => by
    have : s = t := by simpa [allotGo] using e
    subst this
    exact ⟨h, hw⟩
  | m + 1, p, s, t, hU, h, hw, e => by
    cases hg : takeGo regs load ((p / 3 : Nat) : Int) s.all ((z.at (p % 3)).getD (p / 3) 0).toNat 0 with
    | none => rw [allotGo_none hg] at e; cases e
    | some g =>
      rw [allotGo_some hg] at e
      have := placed_allot hl hz m (p + 1) (put_us hU _ (bits_u _ _ _) _) (placed_step hl hz hU h hg) (by
        rw [put_all]
        exact take_within hl _ 0 (by rw [union_zero (all_us s)]; exact hw) hg) e
      rw [show p + 1 + m = p + (m + 1) from by omega] at this
      exact this

theorem hasB_zero (n : Int) : hasB 0 n = false := by unfold hasB; simp [tb_zero]
theorem cntGo_zero (regs : List Int) (r : Int) : ∀ j : Nat, cntGo regs r 0 j = 0
  | 0 => rfl
  | j + 1 => by rw [cntGo_off2 (hasB_zero _)]; exact cntGo_zero regs r j

/-- Where Allot ends well: all is placed as it is asked for, within the nodes that there are. -/
theorem allot_placed {regs load : List Int} {z : Zn} {t : S3} (h1 : mayRegsB regs = true) (h2 : mayZB z = true) (ht : allotGo regs load z 12 0 ⟨0, 0, 0⟩ = some t) :
    (∀ r i : Nat, r < 4 → i < 3 → cntGo regs (r : Int) (t.at i) regs.length = (z.at i).getD r 0) ∧ Within regs t.all := by
  have h0 : U 0 := ⟨by decide, by decide⟩
  have := placed_allot (mayregs_len h1).2 h2 12 0 (s := ⟨0, 0, 0⟩) ⟨h0, h0, h0⟩ (fun r i hi => by
    have e : S3.at ⟨0, 0, 0⟩ i = 0 := by
      match i, hi with
      | 0, _ => rfl
      | 1, _ => rfl
      | 2, _ => rfl
      | i + 3, hi => omega
    rw [e, cntGo_zero, if_neg (by omega)]) (fun k hk => by
    unfold S3.all at hk
    rw [hasB_union, hasB_union, hasB_zero] at hk
    cases hk) ht
  refine ⟨fun r i hr hi => ?_, this.2⟩
  rw [this.1 r i hi, if_pos (by omega)]
end Go.Proofs.Ytcciejglemfebaa
