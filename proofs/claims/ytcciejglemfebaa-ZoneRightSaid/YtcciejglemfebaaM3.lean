/- Words for memory: one block of the call's own known whole, told cell by cell, behind calls and draws. -/
import Derived.Test.YtcciejglemfebaaM0
import Derived.Test.YtcciejglemfebaaM1
namespace Go.Proofs.Ytcciejglemfebaa
open Go.RowKit

section
variable {w w' w1 w2 : World} {g : Nat} {t : TypeId}
theorem Keep.drew {cs : Array Value} (h : Keep w g t cs w1) : Keep w g t cs w1.drew := ⟨h.1, h.2.drew⟩
theorem Keep.alloc {cs : Array Value} (h : Keep w g t cs w1) (o : Obj) : Keep w g t cs (w1.alloc o) := ⟨h.1.alloc o, h.2.alloc h.2.size o⟩
theorem Keep.new (w : World) (t : TypeId) (cs : Array Value) : Keep w w.heap.size t cs (w.alloc (.cells cs t)) := ⟨Block.new w t cs, (Below.refl _ _).alloc (Nat.le_refl _) _⟩
theorem Keep.mk_new {cs : Array Value} (hb : Below w.heap.size w w1) (h : w1.heap.size = g) : Keep w g t cs (w1.alloc (.cells cs t)) := ⟨Block.mk_new w1 t cs h, hb.alloc hb.size _⟩

theorem below_1 {o : Obj} (h : Below (w.alloc o).heap.size (w.alloc o) w2) : Below w.heap.size w w2 :=
  ((Below.refl _ _).alloc (Nat.le_refl _) o).trans (h.mono (by simp))
theorem below_2 {o o' : Obj} (h : Below ((w.alloc o).alloc o').heap.size ((w.alloc o).alloc o') w2) : Below w.heap.size w w2 := below_1 (below_1 h)
theorem below_3 {o o' o3 : Obj} (h : Below (((w.alloc o).alloc o').alloc o3).heap.size (((w.alloc o).alloc o').alloc o3) w2) : Below w.heap.size w w2 := below_1 (below_2 h)

/-- A block of five cells, told cell by cell. -/
theorem keepS5 {a b c d e : Value} (h : Keep w g t #[a, b, c, d, e] w') :
    Hid (Keep w g t #[a, b, c, d, e] w') ∧ w'.cell? ⟨g, 0, none⟩ = some a ∧ w'.cell? ⟨g, 1, none⟩ = some b ∧ w'.cell? ⟨g, 2, none⟩ = some c ∧ w'.cell? ⟨g, 3, none⟩ = some d ∧ w'.cell? ⟨g, 4, none⟩ = some e :=
  ⟨Lib.hid h, h.1.cell 0, h.1.cell 1, h.1.cell 2, h.1.cell 3, h.1.cell 4⟩

/-- A block of eleven cells, told cell by cell. -/
theorem keepS11 {a b c d e a' b' c' d' e' f : Value} (h : Keep w g t #[a, b, c, d, e, a', b', c', d', e', f] w') :
    Hid (Keep w g t #[a, b, c, d, e, a', b', c', d', e', f] w') ∧ w'.cell? ⟨g, 0, none⟩ = some a ∧ w'.cell? ⟨g, 1, none⟩ = some b ∧ w'.cell? ⟨g, 2, none⟩ = some c ∧ w'.cell? ⟨g, 3, none⟩ = some d ∧ w'.cell? ⟨g, 4, none⟩ = some e ∧
      w'.cell? ⟨g, 5, none⟩ = some a' ∧ w'.cell? ⟨g, 6, none⟩ = some b' ∧ w'.cell? ⟨g, 7, none⟩ = some c' ∧ w'.cell? ⟨g, 8, none⟩ = some d' ∧ w'.cell? ⟨g, 9, none⟩ = some e' ∧ w'.cell? ⟨g, 10, none⟩ = some f :=
  ⟨Lib.hid h, h.1.cell 0, h.1.cell 1, h.1.cell 2, h.1.cell 3, h.1.cell 4, h.1.cell 5, h.1.cell 6, h.1.cell 7, h.1.cell 8, h.1.cell 9, h.1.cell 10⟩
end
end Go.Proofs.Ytcciejglemfebaa
