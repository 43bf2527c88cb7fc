/- Words for memory: a slice of joints, and of configurations, told cell by cell. -/
import Derived.Test.YtcciejglemfebaaM2
import Derived.Test.YtcciejglemfebaaM3
import Derived.Test.YtcciejglemfebaaP3
namespace Go.Proofs.Ytcciejglemfebaa
open Go.RowKit

def jCells (j : Jnt) : List Value := [.int .u16 j.old.v, .int .u16 j.old.w, .int .u16 j.old.l, .int .i64 j.old.e, .int .i64 j.old.c, .int .u16 j.new.v, .int .u16 j.new.w, .int .u16 j.new.l, .int .i64 j.new.e, .int .i64 j.new.c, .bool j.two]
def jsV (L : List Jnt) : List Value := L.flatMap jCells
def cCells (x : Cfg) : List Value := [.int .u16 x.v, .int .u16 x.w, .int .u16 x.l, .int .i64 x.e, .int .i64 x.c]
def csV (L : List Cfg) : List Value := L.flatMap cCells

theorem flat_at {α : Type} (f : α → List Value) (n : Nat) (hf : ∀ a, (f a).length = n) (d : α) : ∀ (L : List α) (i m : Nat), i < L.length → m < n → (L.flatMap f)[i * n + m]? = (f (L.getD i d))[m]?
  | [], i, _, h, _ => by simp at h
  | a :: L, 0, m, _, hm => by
    rw [List.flatMap_cons, Nat.zero_mul, Nat.zero_add, List.getElem?_append_left (by rw [hf]; exact hm)]
    rfl
  | a :: L, i + 1, m, h, hm => by
    have ih := flat_at f n hf d L i m (by simpa using h) hm
    rw [List.flatMap_cons, List.getElem?_append_right (by rw [hf, Nat.succ_mul]; omega), hf]
    rw [show (i + 1) * n + m - n = i * n + m from by rw [Nat.succ_mul]; omega, ih]
    rfl

theorem js_at (L : List Jnt) (i m : Nat) (h : i < L.length) (hm : m < 11) : (jsV L)[i * 11 + m]? = (jCells (L.getD i zeroJ))[m]? := flat_at jCells 11 (fun _ => rfl) zeroJ L i m h hm
theorem cs_at (L : List Cfg) (i m : Nat) (h : i < L.length) (hm : m < 5) : (csV L)[i * 5 + m]? = (cCells (L.getD i zeroC))[m]? := flat_at cCells 5 (fun _ => rfl) zeroC L i m h hm

/-- The cells of one joint of a slice. -/
theorem js_cells {w : World} {b o : Nat} {L : List Jnt} (h : ∀ k u, (jsV L)[k]? = some u → w.cell? ⟨b, o + k, none⟩ = some u) {i : Nat} (hi : i < L.length) (m : Nat) (hm : m < 11) :
    w.cell? ⟨b, o + (i * 11 + m), none⟩ = (jCells (L.getD i zeroJ))[m]? := by
  have e := js_at L i m hi hm
  have : m < (jCells (L.getD i zeroJ)).length := hm
  rw [List.getElem?_eq_getElem this] at e ⊢
  exact h _ _ e

theorem Block.grown {w w' : World} {g : Nat} {t : TypeId} {cs : Array Value} {row : Option Nat} (h : Block w g t cs) (hb : w.grownBy w' row) (hg : some g ≠ row) : Block w' g t cs := (hb.block g h.lt hg).trans h
theorem Keep.grown {w w1 w2 : World} {g : Nat} {t : TypeId} {cs : Array Value} {row : Option Nat} (h : Keep w g t cs w1) (hb : w1.grownBy w2 row) (hg : some g ≠ row) (hr : ∀ k, row = some k → w.heap.size ≤ k) : Keep w g t cs w2 :=
  ⟨h.1.grown hb hg, h.2.grown hb h.2.size hr⟩
theorem news_new (w : World) (cs : Array Value) (t : TypeId) : ∀ j u, cs.toList[j]? = some u → (w.alloc (.cells cs t)).cell? ((⟨w.heap.size, 0, none⟩ : Addr).add j) = some u := by
  intro j u h
  have e : (⟨w.heap.size, 0, none⟩ : Addr).add j = ⟨w.heap.size, j, none⟩ := by
    unfold Addr.add
    split
    · rename_i hj; subst hj; rfl
    · simp
  rw [e, (Block.new w t cs).cell j, ← h]
  simp
theorem jCells_one (j : Jnt) : ∀ u ∈ jCells j, u.oneCell' = true := by
  intro u hu
  simp only [jCells, List.mem_cons, List.not_mem_nil, or_false] at hu
  rcases hu with rfl | rfl | rfl | rfl | rfl | rfl | rfl | rfl | rfl | rfl | rfl <;> rfl
theorem cCells_one (x : Cfg) : ∀ u ∈ cCells x, u.oneCell' = true := by
  intro u hu
  simp only [cCells, List.mem_cons, List.not_mem_nil, or_false] at hu
  rcases hu with rfl | rfl | rfl | rfl | rfl <;> rfl
end Go.Proofs.Ytcciejglemfebaa
