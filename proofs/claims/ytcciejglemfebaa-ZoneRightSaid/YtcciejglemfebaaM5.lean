/- Words for memory: part of a block that was there, told cell by cell; a block of eleven cells written whole; a region where two operations may come up. -/
import Derived.Test.YtcciejglemfebaaM3
import Derived.Test.YtcciejglemfebaaM4
namespace Go.Proofs.Ytcciejglemfebaa
open Go.RowKit

section
variable {P : Program} {ops : Array Oper} {Q : Exit → Act → World → Prop} {S : World → Prop}
def pairB (ops : Array Oper) (l li lj : Array Bool) (i j : Nat) : Bool := (Region.ready .any ops l == [i, j]) && (l.setIfInBounds i true == li) && (l.setIfInBounds j true == lj)

/-- Two may come up now: either is run, and S is shown behind it. -/
theorem held_two {i j : Nat} {oi oj : Oper} {fuel : Nat} {l : Array Bool} {a : Act} {w : World} (li lj : Array Bool) (hi : ops[i]? = some oi) (hj : ops[j]? = some oj) (hc : pairB ops l li lj i j = true)
    (hwi : Region.wanted oi (yielded ops a.tmps) = true) (hwj : Region.wanted oj (yielded ops a.tmps) = true)
    (h1 : ∀ K : Act → World → Prop, Shut (∀ a' w', S w' → (S w' → wpAnyH P .any ops Q S fuel li a' w') → K a' w') → Oper.wp P oi a w K Q)
    (h2 : ∀ K : Act → World → Prop, Shut (∀ a' w', S w' → (S w' → wpAnyH P .any ops Q S fuel lj a' w') → K a' w') → Oper.wp P oj a w K Q) :
    wpAnyH P .any ops Q S (fuel + 1) l a w := by
  simp only [pairB, Bool.and_eq_true, beq_iff_eq] at hc
  obtain ⟨⟨e1, e2⟩, e3⟩ := hc
  subst e2
  subst e3
  refine wpAnyH_ready e1 (by simp) (AllReadyH.cons hi (fun K hK => ?_) (AllReadyH.cons hj (fun K hK => ?_) AllReadyH.nil))
  · rw [if_pos hwi]; exact h1 K hK
  · rw [if_pos hwj]; exact h2 K hK
end

/-- Cells of a block that was there, as they were. -/
def Part (w : World) (b o : Nat) (cs : List Value) (w' : World) : Prop := b < w.heap.size ∧ (∀ k u, cs[k]? = some u → w'.cell? ⟨b, o + k, none⟩ = some u) ∧ Below w.heap.size w w'

section
variable {w w' w1 w2 : World} {b o g : Nat} {cs : List Value} {t : TypeId}
theorem Part.drew (h : Part w b o cs w1) : Part w b o cs w1.drew := ⟨h.1, h.2.1, h.2.2.drew⟩
theorem Part.alloc (h : Part w b o cs w1) (x : Obj) : Part w b o cs (w1.alloc x) := by
  have hb : Below w.heap.size w1 (w1.alloc x) := (Below.refl _ _).alloc h.2.2.size x
  exact ⟨h.1, fun k u hu => (hb.cell h.1).trans (h.2.1 k u hu), h.2.2.alloc h.2.2.size x⟩
theorem Part.call (h : Part w b o cs w1) (hb : Below w1.heap.size w1 w2) : Part w b o cs w2 :=
  ⟨h.1, fun k u hu => (hb.cell (Nat.lt_of_lt_of_le h.1 h.2.2.size)).trans (h.2.1 k u hu), h.2.2.trans (hb.mono h.2.2.size)⟩
theorem Part.put (h : Part w b o cs w1) (hg : w.heap.size ≤ g) (i : Nat) (u : Value) : Part w b o cs (w1.setCell ⟨g, i, none⟩ u) := by
  have hb : Below w.heap.size w1 (w1.setCell ⟨g, i, none⟩ u) := (Below.refl _ _).setCell hg u
  exact ⟨h.1, fun k v hv => (hb.cell h.1).trans (h.2.1 k v hv), h.2.2.trans hb⟩
theorem keepP5 {a b' c d e : Value} (h : Part w b o [a, b', c, d, e] w') :
    Hid (Part w b o [a, b', c, d, e] w') ∧ w'.cell? ⟨b, o, none⟩ = some a ∧ w'.cell? ⟨b, o + 1, none⟩ = some b' ∧ w'.cell? ⟨b, o + 2, none⟩ = some c ∧ w'.cell? ⟨b, o + 3, none⟩ = some d ∧ w'.cell? ⟨b, o + 4, none⟩ = some e :=
  ⟨Lib.hid h, h.2.1 0 _ rfl, h.2.1 1 _ rfl, h.2.1 2 _ rfl, h.2.1 3 _ rfl, h.2.1 4 _ rfl⟩

theorem Keep.put {c : Array Value} (h : Keep w g t c w1) (hg : w.heap.size ≤ g) (i : Nat) (u : Value) : Keep w g t (c.setIfInBounds i u) (w1.setCell ⟨g, i, none⟩ u) :=
  ⟨h.1.put i u, h.2.setCell hg u⟩
theorem Keep.far {c : Array Value} {g' : Nat} (h : Keep w g t c w1) (hg : w.heap.size ≤ g') (hn : g ≠ g') (i : Nat) (u : Value) : Keep w g t c (w1.setCell ⟨g', i, none⟩ u) :=
  ⟨h.1.far (p := ⟨g', i, none⟩) hn u, h.2.setCell hg u⟩

/-- Eleven cells written, one behind the other. -/
def wput11 (w : World) (g : Nat) (a b c d e a' b' c' d' e' f : Value) : World :=
  ((((((((((w.setCell ⟨g, 0, none⟩ a).setCell ⟨g, 1, none⟩ b).setCell ⟨g, 2, none⟩ c).setCell ⟨g, 3, none⟩ d).setCell ⟨g, 4, none⟩ e).setCell ⟨g, 5, none⟩ a').setCell ⟨g, 6, none⟩ b').setCell ⟨g, 7, none⟩ c').setCell ⟨g, 8, none⟩ d').setCell ⟨g, 9, none⟩ e').setCell ⟨g, 10, none⟩ f
theorem Keep.put11 {x0 x1 x2 x3 x4 x5 x6 x7 x8 x9 x10 : Value} (h : Keep w g t #[x0, x1, x2, x3, x4, x5, x6, x7, x8, x9, x10] w1) (hg : w.heap.size ≤ g) (a b c d e a' b' c' d' e' f : Value) :
    Keep w g t #[a, b, c, d, e, a', b', c', d', e', f] (wput11 w1 g a b c d e a' b' c' d' e' f) := by
  have k := ((((((((((h.put hg 0 a).put hg 1 b).put hg 2 c).put hg 3 d).put hg 4 e).put hg 5 a').put hg 6 b').put hg 7 c').put hg 8 d').put hg 9 e').put hg 10 f
  simp only [List.setIfInBounds_toArray, List.set_cons_zero, List.set_cons_succ] at k
  unfold wput11
  exact k
theorem Keep.far11 {c0 : Array Value} {g' : Nat} (h : Keep w g t c0 w1) (hg : w.heap.size ≤ g') (hn : g ≠ g') (a b c d e a' b' c' d' e' f : Value) :
    Keep w g t c0 (wput11 w1 g' a b c d e a' b' c' d' e' f) := by
  unfold wput11
  exact ((((((((((h.far hg hn 0 a).far hg hn 1 b).far hg hn 2 c).far hg hn 3 d).far hg hn 4 e).far hg hn 5 a').far hg hn 6 b').far hg hn 7 c').far hg hn 8 d').far hg hn 9 e').far hg hn 10 f
theorem Part.far11 (h : Part w b o cs w1) {g' : Nat} (hg : w.heap.size ≤ g') (a b0 c d e a' b' c' d' e' f : Value) :
    Part w b o cs (wput11 w1 g' a b0 c d e a' b' c' d' e' f) := by
  unfold wput11
  exact ((((((((((h.put hg 0 a).put hg 1 b0).put hg 2 c).put hg 3 d).put hg 4 e).put hg 5 a').put hg 6 b').put hg 7 c').put hg 8 d').put hg 9 e').put hg 10 f
end
end Go.Proofs.Ytcciejglemfebaa
