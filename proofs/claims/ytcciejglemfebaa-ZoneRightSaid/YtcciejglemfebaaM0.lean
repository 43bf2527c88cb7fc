/- Words for memory: a slice of whole numbers that reads as a list, a block that is known whole, and what keeps them. -/
import Derived.WalkKit
import Derived.Below
import Derived.Deep.Draws
import Derived.Laws.OwnMore
import Derived.Lib.Hide
namespace Go.Proofs.Ytcciejglemfebaa
open Go.RowKit

/-- The slice that begins at A holds the whole numbers l, in a block below B. -/
def Ints (w : World) (B : Nat) (A : Option Addr) (l : List Int) : Prop :=
  l ≠ [] → ∃ b o, A = some ⟨b, o, none⟩ ∧ b < B ∧ ∀ k, k < l.length → w.cell? ⟨b, o + k, none⟩ = some (.int .i64 (l.getD k 0))

/-- Block g is just these cells, none of them frozen. -/
def Block (w : World) (g : Nat) (t : TypeId) (cs : Array Value) : Prop := w.heap[g]? = some (.cells cs t (0, 0))

section
variable {w w' : World} {B B' g : Nat} {A : Option Addr} {l : List Int} {t : TypeId} {cs : Array Value}

theorem Ints.nil_ : Ints w B A [] := fun h => absurd rfl h
theorem Ints.at_ (h : Ints w B A l) {k : Nat} (hk : k < l.length) : ∃ b o, A = some ⟨b, o, none⟩ ∧ b < B ∧ w.cell? ⟨b, o + k, none⟩ = some (.int .i64 (l.getD k 0)) := by
  obtain ⟨b, o, e, hb, hc⟩ := h (by intro hn; rw [hn] at hk; simp at hk)
  exact ⟨b, o, e, hb, hc k hk⟩
theorem Ints.keep (h : Ints w B A l) (hk : ∀ b o, b < B → w'.cell? ⟨b, o, none⟩ = w.cell? ⟨b, o, none⟩) : Ints w' B A l := fun hn => by
  obtain ⟨b, o, e, hb, hc⟩ := h hn
  exact ⟨b, o, e, hb, fun k hl => (hk _ _ hb).trans (hc k hl)⟩
theorem Ints.below (h : Ints w B A l) (hb : Below B w w') : Ints w' B A l := h.keep fun _ _ hp => hb.cell hp
theorem Ints.more (h : Ints w B A l) (hB : B ≤ B') : Ints w B' A l := fun hn => by
  obtain ⟨b, o, e, hb, hc⟩ := h hn
  exact ⟨b, o, e, by omega, hc⟩

theorem Block.lt (h : Block w g t cs) : g < w.heap.size := by
  rcases Nat.lt_or_ge g w.heap.size with hlt | hge
  · exact hlt
  · unfold Block at h
    rw [Array.getElem?_eq_none hge] at h
    cases h
theorem Block.cell (h : Block w g t cs) (i : Nat) : w.cell? ⟨g, i, none⟩ = cs[i]? := cell_of_row w g i cs t (0, 0) h
theorem Block.frozen (h : Block w g t cs) (i : Nat) : w.frozen? ⟨g, i, none⟩ = false := by
  unfold Block at h
  simp [World.frozen?, h]
theorem Block.new (w : World) (t : TypeId) (cs : Array Value) : Block (w.alloc (.cells cs t)) w.heap.size t cs := heap_alloc_new w _
theorem Block.mk_new (w : World) (t : TypeId) (cs : Array Value) {g : Nat} (h : w.heap.size = g) : Block (w.alloc (.cells cs t)) g t cs := by subst h; exact Block.new w t cs
theorem Block.drew (h : Block w g t cs) : Block w.drew g t cs := h
theorem Block.drewN (h : Block w g t cs) (n : Nat) : Block (w.drewN n) g t cs := h
theorem Block.alloc (h : Block w g t cs) (o : Obj) : Block (w.alloc o) g t cs := (Below.heap_alloc w o g h.lt).trans h
theorem Block.put (h : Block w g t cs) (i : Nat) (u : Value) : Block (w.setCell ⟨g, i, none⟩ u) g t (cs.setIfInBounds i u) := by
  unfold Block at h ⊢
  simp [World.setCell, Array.getElem?_modify, h]
theorem Block.far (h : Block w g t cs) {p : Addr} (hp : g ≠ p.block) (u : Value) : Block (w.setCell p u) g t cs := (Below.heap_setCell w p u g hp).trans h
theorem Block.below (h : Block w g t cs) (hb : Below B w w') (hg : g < B) : Block w' g t cs := (hb.block g hg).trans h
end

theorem below_drewN {B : Nat} {a w : World} (h : Below B a w) (n : Nat) : Below B a (w.drewN n) := ⟨h.os, h.tape, h.output, h.size, h.block⟩

/-- What was there reads as it did, and is as free as it was. -/
theorem bcell {B : Nat} {w w' : World} (hb : Below B w w') :
    (∀ b o, b < B → w'.cell? ⟨b, o, none⟩ = w.cell? ⟨b, o, none⟩) ∧ (∀ b o, b < B → w'.frozen? ⟨b, o, none⟩ = w.frozen? ⟨b, o, none⟩) :=
  ⟨fun b o h => hb.cell (p := ⟨b, o, none⟩) h, fun b o h => hb.frozen (p := ⟨b, o, none⟩) h⟩

/-- Block g is known whole, and below B all is as it was in w. -/
def Keep (w : World) (g : Nat) (t : TypeId) (cs : Array Value) (w' : World) : Prop := Block w' g t cs ∧ Below w.heap.size w w'
theorem Keep.call {w w1 w2 : World} {g : Nat} {t : TypeId} {cs : Array Value} (h : Keep w g t cs w1) (hb : Below w1.heap.size w1 w2) : Keep w g t cs w2 :=
  ⟨h.1.below hb h.1.lt, h.2.trans (hb.mono h.2.size)⟩
theorem Keep.drewN {w w1 : World} {g : Nat} {t : TypeId} {cs : Array Value} (h : Keep w g t cs w1) (n : Nat) : Keep w g t cs (w1.drewN n) := ⟨h.1, below_drewN h.2 n⟩

end Go.Proofs.Ytcciejglemfebaa
