/- Plain: what Check lets through goes on without any one region (node); what it refuses as not surviving has one without which it does not. -/
import Derived.Test.YtcciejglemfebaaZ16
import Derived.Test.YtcciejglemfebaaP12
namespace Go.Proofs.Ytcciejglemfebaa
open Go

/-- Is node j + 1 left, where k is what is lost? -/
def condL (regs : List Int) (s k : Int) (j : Nat) : Bool :=
  (decide (s = 0) || (decide (s = 1) && !decide ((j : Int) + 1 = k))) || (decide (s = 2) && !decide (regs.getD j 0 = k))
/-- Those that are left of the first j nodes. -/
def leftGo (regs : List Int) (s k : Int) : Nat → Int
  | 0 => 0
  | j + 1 => if condL regs s k j = true then union (leftGo regs s k j) (one ((j : Int) + 1)) else leftGo regs s k j
theorem leftGo_on {regs : List Int} {s k : Int} {j : Nat} (h : condL regs s k j = true) : leftGo regs s k (j + 1) = union (leftGo regs s k j) (one ((j : Int) + 1)) := by
  simp only [leftGo, if_pos h]
theorem leftGo_off {regs : List Int} {s k : Int} {j : Nat} (h : condL regs s k j = false) : leftGo regs s k (j + 1) = leftGo regs s k j := by
  simp only [leftGo, h, Bool.false_eq_true, if_false]
theorem leftGo_u (regs : List Int) (s k : Int) : ∀ j, U (leftGo regs s k j)
  | 0 => (show U 0 from ⟨by decide, by decide⟩)
  | j + 1 => by
    unfold leftGo
    split
    · exact bits_u _ _ _
    · exact leftGo_u regs s k j
theorem one_has {j : Nat} (hj : j < 9) (i : Nat) : hasB (one ((j : Int) + 1)) ((i : Int) + 1) = decide (i = j) := by
  rw [hasB_one]
  have h1 : decide ((1 : Int) ≤ (j : Int) + 1) = true := decide_eq_true (by omega)
  have h2 : decide ((j : Int) + 1 ≤ 9) = true := decide_eq_true (by omega)
  rw [h1, h2]
  by_cases h : i = j
  · subst h; simp
  · have : ¬ ((i : Int) + 1 = (j : Int) + 1) := by omega
    rw [decide_eq_false h, decide_eq_false this]; rfl
theorem leftGo_has (regs : List Int) (s k : Int) : ∀ j : Nat, j ≤ 9 → ∀ i : Nat, hasB (leftGo regs s k j) ((i : Int) + 1) = (decide (i < j) && condL regs s k i)
  | 0, _, i => by show hasB 0 _ = _; rw [hasB_zero]; simp
  | j + 1, hj, i => by
    have ih := leftGo_has regs s k j (by omega) i
    cases hc : condL regs s k j with
    | true =>
      rw [leftGo_on hc, hasB_union, ih, one_has (by omega)]
      by_cases h : i = j
      · subst h; rw [hc]; simp
      · rw [decide_eq_false h, Bool.or_false]
        by_cases h2 : i < j
        · rw [decide_eq_true h2, decide_eq_true (show i < j + 1 by omega)]
        · rw [decide_eq_false h2, decide_eq_false (show ¬ i < j + 1 by omega)]
    | false =>
      rw [leftGo_off hc, ih]
      by_cases h : i = j
      · subst h; rw [hc]; simp
      · by_cases h2 : i < j
        · rw [decide_eq_true h2, decide_eq_true (show i < j + 1 by omega)]
        · rw [decide_eq_false h2, decide_eq_false (show ¬ i < j + 1 by omega)]
theorem goneGo_has (regs : List Int) (r : Int) : ∀ j : Nat, j ≤ 9 → ∀ i : Nat, hasB (goneGo regs r j) ((i : Int) + 1) = (decide (i < j) && decide (regs.getD i 0 = r))
  | 0, _, i => by show hasB 0 _ = _; rw [hasB_zero]; simp
  | j + 1, hj, i => by
    have ih := goneGo_has regs r j (by omega) i
    by_cases hc : regs.getD j 0 = r
    · rw [goneGo_on hc, hasB_union, ih, one_has (by omega)]
      by_cases h : i = j
      · subst h; rw [decide_eq_true hc]; simp
      · rw [decide_eq_false h, Bool.or_false]
        by_cases h2 : i < j
        · rw [decide_eq_true h2, decide_eq_true (show i < j + 1 by omega)]
        · rw [decide_eq_false h2, decide_eq_false (show ¬ i < j + 1 by omega)]
    · rw [goneGo_off hc, ih]
      by_cases h : i = j
      · subst h; rw [decide_eq_false hc]; simp
      · by_cases h2 : i < j
        · rw [decide_eq_true h2, decide_eq_true (show i < j + 1 by omega)]
        · rw [decide_eq_false h2, decide_eq_false (show ¬ i < j + 1 by omega)]

/-- Does it break, with these left? -/
def brk (d : Cfg) (left : Int) : Bool := (!electsC d left || !commitsC d left) || (msk (inter left d.v) == 0)
def breaksGo (f : Nat → Bool) : Nat → Bool
  | 0 => false
  | k + 1 => breaksGo f k || f k
theorem breaksGo_iff (f : Nat → Bool) : ∀ n : Nat, breaksGo f n = true ↔ ∃ k, k < n ∧ f k = true
  | 0 => by simp [breaksGo]
  | n + 1 => by
    unfold breaksGo
    rw [Bool.or_eq_true, breaksGo_iff f n]
    constructor
    · rintro (⟨k, hk, h⟩ | h)
      · exact ⟨k, by omega, h⟩
      · exact ⟨n, by omega, h⟩
    · rintro ⟨k, hk, h⟩
      by_cases e : k = n
      · subst e; exact Or.inr h
      · exact Or.inl ⟨k, by omega, h⟩
theorem firstBad_none (f : Nat → Bool) : ∀ m k : Nat, firstBad f m k = none ↔ ∀ i, k ≤ i → i < k + m → f i = true
  | 0, k => by simp [firstBad]; intro i h1 h2; omega
  | m + 1, k => by
    cases h : f k with
    | true =>
      rw [firstBad_on h, firstBad_none f m (k + 1)]
      constructor
      · intro hh i h1 h2
        by_cases e : i = k
        · subst e; exact h
        · exact hh i (by omega) (by omega)
      · intro hh i h1 h2; exact hh i (by omega) (by omega)
    | false =>
      rw [firstBad_off h]
      constructor
      · intro hh; cases hh
      · intro hh; have := hh k (by omega) (by omega); rw [h] at this; cases this

theorem node_nat {i : Nat} (h : i ∈ nodes) : ∃ k : Nat, i = k + 1 ∧ k < 9 := by
  unfold nodes at h
  simp at h
  exact ⟨i - 1, by omega, by omega⟩

/-- It breaks with these left just if it does not stand with those gone. -/
theorem brk_stands {d : Cfg} {left gone : Int} (h : ∀ i : Nat, i < 9 → hasB (union d.v d.w) ((i : Int) + 1) = true → hasB left ((i : Int) + 1) = !hasB gone ((i : Int) + 1)) : brk d left = !standsC d gone := by
  have key : ∀ i ∈ nodes, tb (union d.v d.w) i = true → tb left i = !tb gone i := by
    intro i hi ht
    obtain ⟨k, rfl, hk⟩ := node_nat hi
    have := h k hk (by rw [hasB_nat _ hk]; exact ht)
    rw [hasB_nat _ hk, hasB_nat _ hk] at this
    exact this
  have e1 : cnt (inter (votesC d) left) = cnt (diff (union d.v d.w) gone) := cnt_congr fun i hi => by
    rw [tb_inter, tb_diff']
    show (tb (union d.v d.w) i && _) = _
    cases ht : tb (union d.v d.w) i with
    | false => rfl
    | true => rw [key i hi ht]
  have e2 : cnt (inter d.v left) = cnt (diff d.v gone) := cnt_congr fun i hi => by
    rw [tb_inter, tb_diff']
    cases ht : tb d.v i with
    | false => rfl
    | true => rw [key i hi (by rw [tb_union, ht]; rfl)]
  have e3 : cnt (inter left d.v) = cnt (inter d.v left) := cnt_congr fun i _ => by rw [tb_inter, tb_inter, Bool.and_comm]
  have e4 : (msk (inter left d.v) == 0) = !decide (0 < cnt (diff d.v gone)) := by
    have hz := msk_zero (a := inter left d.v)
    have h0 := cnt_nonneg (diff d.v gone)
    rw [e3, e2] at hz
    by_cases hc : cnt (diff d.v gone) = 0
    · rw [hz.2 hc, hc]; rfl
    · have h1 : msk (inter left d.v) ≠ 0 := fun hh => hc (hz.1 hh)
      rw [decide_eq_true (by omega)]
      simpa using h1
  unfold brk electsC commitsC standsC
  rw [e1, e2, e4]
  cases decide (d.e ≤ cnt (diff (union d.v d.w) gone)) <;> cases decide (d.c ≤ cnt (diff (union d.v d.w) gone)) <;> cases decide (0 < cnt (diff d.v gone)) <;> rfl

theorem stands_none {d : Cfg} (hm : mayC d = true) (hu : U d.v) : standsC d 0 = true := by
  obtain ⟨v, w, l, e, c⟩ := d
  have h := (mayC_iff v w l e c).1 hm
  have h0 := may_cnt hm hu
  have e1 : ∀ a : Int, cnt (diff a 0) = cnt a := fun a => cnt_congr fun i _ => by rw [tb_diff', tb_zero]; simp
  unfold standsC
  rw [e1, e1]
  simp only [Bool.and_eq_true, decide_eq_true_eq]
  exact ⟨⟨h.2.2.2.2.2.2.2.2.1, h.2.2.2.2.2.2.2.2.2.2.1⟩, h0⟩

theorem survN_fst (regs : List Int) (d : Cfg) : (survN regs d).1 = true ↔ ∀ i : Nat, i < regs.length → standsC d (union 0 (one ((i : Int) + 1))) = true := by
  have h := firstBad_none (fun i => standsC d (union 0 (one ((i : Int) + 1)))) regs.length 0
  cases e : firstBad (fun i => standsC d (union 0 (one ((i : Int) + 1)))) regs.length 0 with
  | none =>
    rw [survN_none e]
    exact ⟨fun _ i hi => h.1 e i (by omega) (by omega), fun _ => rfl⟩
  | some k =>
    rw [survN_some e]
    refine ⟨fun hh => (by cases hh), fun hh => ?_⟩
    rw [h.2 fun i _ h2 => hh i (by omega)] at e
    cases e
theorem survR_fst (regs : List Int) (d : Cfg) : (survR regs d).1 = true ↔ ∀ r : Nat, r < 4 → standsC d (goneGo regs (r : Int) regs.length) = true := by
  have h := firstBad_none (fun r => standsC d (goneGo regs (r : Int) regs.length)) 4 0
  cases e : firstBad (fun r => standsC d (goneGo regs (r : Int) regs.length)) 4 0 with
  | none =>
    rw [survR_none e]
    exact ⟨fun _ i hi => h.1 e i (by omega) (by omega), fun _ => rfl⟩
  | some k =>
    rw [survR_some e]
    refine ⟨fun hh => (by cases hh), fun hh => ?_⟩
    rw [h.2 fun i _ h2 => hh i (by omega)] at e
    cases e

theorem regs_ok {regs : List Int} (h : mayRegsB regs = true) {i : Nat} (hi : i < regs.length) : 0 ≤ regs.getD i 0 ∧ regs.getD i 0 < 4 := by
  simp only [mayRegsB, Bool.and_eq_true, List.all_eq_true] at h
  have hm : regs.getD i 0 ∈ regs := by
    rw [List.getD_eq_getElem?_getD, List.getElem?_eq_getElem hi]
    exact List.getElem_mem _
  have := h.1 _ hm
  simpa [okR] using this

/-- What breaks, one by one, is what does not survive. -/
theorem breaks_law {regs : List Int} {d : Cfg} {s : Int} (h1 : mayRegsB regs = true) (hm : mayC d = true) (hu : U d.v) (hw : Within regs (union (union d.v d.w) d.l)) (hs : s = 0 ∨ s = 1 ∨ s = 2) :
    breaksGo (fun k => brk d (leftGo regs s (k : Int) regs.length)) 10 = !(survP regs d s).1 := by
  have hl := (mayregs_len h1).2
  have hin : ∀ i : Nat, hasB (union d.v d.w) ((i : Int) + 1) = true → i < regs.length := fun i hi => hw i (by rw [hasB_union, hi]; rfl)
  have hall : ∀ k : Nat, (∀ i : Nat, i < regs.length → condL regs s (k : Int) i = true) → brk d (leftGo regs s (k : Int) regs.length) = false := by
    intro k hk
    rw [brk_stands (gone := 0) fun i _ ht => by
      have := hin i ht
      rw [leftGo_has regs s k regs.length hl, hasB_zero, hk i this, decide_eq_true this]; rfl, stands_none hm hu]
    rfl
  rcases hs with rfl | rfl | rfl
  · have e : survP regs d 0 = (true, -1) := by
      unfold survP
      rw [if_neg (by rw [h1]; simp), if_neg (by decide), if_neg (by decide), if_pos rfl]
    rw [e]
    cases hb : breaksGo (fun k => brk d (leftGo regs 0 (k : Int) regs.length)) 10 with
    | false => rfl
    | true =>
      obtain ⟨k, _, hk⟩ := (breaksGo_iff _ 10).1 hb
      rw [hall k (fun i _ => by simp [condL])] at hk
      cases hk
  · have e : survP regs d 1 = survN regs d := by
      unfold survP
      rw [if_neg (by rw [h1]; simp), if_pos rfl]
    rw [e]
    have hk1 : ∀ k : Nat, k < regs.length → brk d (leftGo regs 1 (((k + 1 : Nat)) : Int) regs.length) = !standsC d (union 0 (one ((k : Int) + 1))) := by
      intro k hk
      refine brk_stands fun i _ ht => ?_
      have := hin i ht
      rw [leftGo_has regs 1 _ regs.length hl, hasB_union, hasB_zero, one_has (by omega), decide_eq_true this]
      have e2 : ((i : Int) + 1 = ((k + 1 : Nat) : Int)) ↔ i = k := by omega
      by_cases hik : i = k
      · simp [condL, hik]
      · have : ¬ ((i : Int) + 1 = ((k + 1 : Nat) : Int)) := fun hh => hik (e2.1 hh)
        rw [decide_eq_false hik]
        simp only [condL]
        rw [decide_eq_false this]
        rfl
    have hf := survN_fst regs d
    cases hv : (survN regs d).1 with
    | true =>
      rw [hv] at hf
      cases hb : breaksGo (fun k => brk d (leftGo regs 1 (k : Int) regs.length)) 10 with
      | false => rfl
      | true =>
        obtain ⟨k, _, hk⟩ := (breaksGo_iff _ 10).1 hb
        by_cases hkk : 1 ≤ k ∧ k ≤ regs.length
        · have h2 := hk1 (k - 1) (by omega)
          rw [show k - 1 + 1 = k from by omega, hf.1 rfl (k - 1) (by omega)] at h2
          rw [h2] at hk; cases hk
        · rw [hall k (fun i hi => by
            have : ¬ ((i : Int) + 1 = (k : Int)) := by omega
            simp only [condL]
            rw [decide_eq_false this]
            rfl)] at hk
          cases hk
    | false =>
      rw [hv] at hf
      cases hb : breaksGo (fun k => brk d (leftGo regs 1 (k : Int) regs.length)) 10 with
      | true => rfl
      | false =>
        have : false = true := hf.2 fun i hi => by
          cases hst : standsC d (union 0 (one ((i : Int) + 1))) with
          | true => rfl
          | false =>
            have h2 := hk1 i hi
            rw [hst] at h2
            have := (breaksGo_iff (fun k => brk d (leftGo regs 1 (k : Int) regs.length)) 10).2 ⟨i + 1, by omega, h2⟩
            rw [hb] at this; cases this
        cases this
  · have e : survP regs d 2 = survR regs d := by
      unfold survP
      rw [if_neg (by rw [h1]; simp), if_neg (by decide), if_pos rfl]
    rw [e]
    have hk1 : ∀ k : Nat, brk d (leftGo regs 2 (k : Int) regs.length) = !standsC d (goneGo regs (k : Int) regs.length) := by
      intro k
      refine brk_stands fun i _ ht => ?_
      have := hin i ht
      rw [leftGo_has regs 2 _ regs.length hl, goneGo_has regs _ regs.length hl, decide_eq_true this]
      simp [condL]
    have hf := survR_fst regs d
    cases hv : (survR regs d).1 with
    | true =>
      rw [hv] at hf
      cases hb : breaksGo (fun k => brk d (leftGo regs 2 (k : Int) regs.length)) 10 with
      | false => rfl
      | true =>
        obtain ⟨k, _, hk⟩ := (breaksGo_iff _ 10).1 hb
        by_cases hkk : k < 4
        · have h2 := hk1 k
          rw [hf.1 rfl k hkk] at h2
          rw [h2] at hk; cases hk
        · rw [hall k (fun i hi => by
            have h4 := regs_ok h1 hi
            have : ¬ (regs.getD i 0 = (k : Int)) := by omega
            simp only [condL]
            rw [decide_eq_false this]
            rfl)] at hk
          cases hk
    | false =>
      rw [hv] at hf
      cases hb : breaksGo (fun k => brk d (leftGo regs 2 (k : Int) regs.length)) 10 with
      | true => rfl
      | false =>
        have : false = true := hf.2 fun r hr => by
          cases hst : standsC d (goneGo regs (r : Int) regs.length) with
          | true => rfl
          | false =>
            have h2 := hk1 r
            rw [hst] at h2
            have := (breaksGo_iff (fun k => brk d (leftGo regs 2 (k : Int) regs.length)) 10).2 ⟨r, by omega, h2⟩
            rw [hb] at this; cases this
        cases this

/-! ### what Check comes to -/
theorem allotP_err (regs load : List Int) (z : Zn) : (allotP regs load z).2 = 0 ∨ (allotP regs load z).2 = 1 ∨ (allotP regs load z).2 = 8 := by
  unfold allotP
  split
  · split
    · exact Or.inr (Or.inr rfl)
    · exact Or.inl rfl
  · exact Or.inr (Or.inl rfl)
theorem mayz_surv {z : Zn} (h : mayZB z = true) : z.s = 0 ∨ z.s = 1 ∨ z.s = 2 := by
  simp only [mayZB, Bool.and_eq_true, decide_eq_true_eq] at h
  have := h.2
  omega

/-- What Check refuses, but as not surviving, it answers with nothing. -/
theorem check_other {regs load : List Int} {z : Zn} (h0 : (checkP regs load z).2 ≠ 0) (_h12 : (checkP regs load z).2 ≠ 12) : (checkP regs load z).1 = zeroC := by
  unfold checkP at h0 ⊢
  split
  · rfl
  · rename_i h1
    rw [if_neg h1] at h0
    split
    · rfl
    · rename_i h2
      rw [if_neg h2] at h0
      split
      · rfl
      · rename_i h3
        rw [if_neg h3] at h0
        exact absurd rfl h0

theorem check_some {regs load : List Int} {z : Zn} (h : (checkP regs load z).2 = 0 ∨ (checkP regs load z).2 = 12) :
    (allotP regs load z).2 = 0 ∧ mayC (allotP regs load z).1 = true ∧ ((checkP regs load z).2 = 0 → (checkP regs load z).1 = (allotP regs load z).1) ∧
      decide ((checkP regs load z).2 = 12) = !(survP regs (allotP regs load z).1 z.s).1 := by
  have he := allotP_err regs load z
  unfold checkP at h ⊢
  by_cases h1 : (allotP regs load z).2 ≠ 0
  · rw [if_pos h1] at h
    simp only at h
    omega
  · rw [if_neg h1] at h ⊢
    have h1' : (allotP regs load z).2 = 0 := Decidable.of_not_not h1
    by_cases h2 : mayC (allotP regs load z).1 = false
    · rw [if_pos h2] at h
      simp at h
    · rw [if_neg h2] at h ⊢
      have h2' : mayC (allotP regs load z).1 = true := by simpa using h2
      by_cases h3 : (survP regs (allotP regs load z).1 z.s).1 = false
      · rw [if_pos h3]
        exact ⟨h1', h2', fun hh => absurd hh (by decide), by rw [h3]; rfl⟩
      · rw [if_neg h3]
        have h3' : (survP regs (allotP regs load z).1 z.s).1 = true := by simpa using h3
        exact ⟨h1', h2', fun _ => rfl, by rw [h3']; rfl⟩

/-- All that the law asks, where Check lets through, or refuses as not surviving. -/
theorem right_law {regs load : List Int} {z : Zn} (h : (checkP regs load z).2 = 0 ∨ (checkP regs load z).2 = 12) :
    (allotP regs load z).2 = 0 ∧ regs.length ≤ 9 ∧ (z.s = 0 ∨ z.s = 1 ∨ z.s = 2) ∧
      (∀ r i : Nat, r < 4 → i < 3 → cntGo regs (r : Int) ((⟨(allotP regs load z).1.v, (allotP regs load z).1.w, (allotP regs load z).1.l⟩ : S3).at i) regs.length = (z.at i).getD r 0) ∧
      breaksGo (fun k => brk (allotP regs load z).1 (leftGo regs z.s (k : Int) regs.length)) 10 = decide ((checkP regs load z).2 = 12) ∧
      ((checkP regs load z).2 = 0 → (checkP regs load z).1 = (allotP regs load z).1) := by
  obtain ⟨e0, hm, hc, h12⟩ := check_some h
  obtain ⟨h1, h2, t, ht, e⟩ := allotP_inv e0
  obtain ⟨hp, hw⟩ := allot_placed h1 h2 ht
  have hu := (allotP_us regs load z).1
  refine ⟨e0, (mayregs_len h1).2, mayz_surv h2, fun r i hr hi => ?_, ?_, hc⟩
  · rw [e]
    exact hp r i hr hi
  · rw [h12]
    refine breaks_law h1 hm hu ?_ (mayz_surv h2)
    rw [e]
    exact hw
end Go.Proofs.Ytcciejglemfebaa
