/- Words for memory: a slice that reads as a list of cells, whatever they are. -/
import Derived.Test.YtcciejglemfebaaM0
namespace Go.Proofs.Ytcciejglemfebaa
open Go.RowKit

/-- The slice that begins at A holds the cells xs, in a block below B. -/
def Row (w : World) (B : Nat) (A : Option Addr) (xs : List Value) : Prop :=
  xs ≠ [] → ∃ b o, A = some ⟨b, o, none⟩ ∧ b < B ∧ ∀ k u, xs[k]? = some u → w.cell? ⟨b, o + k, none⟩ = some u

section
variable {w w' : World} {B B' : Nat} {A : Option Addr} {xs : List Value}
theorem Row.at_ (h : Row w B A xs) {k : Nat} {u : Value} (hk : xs[k]? = some u) : ∃ b o, A = some ⟨b, o, none⟩ ∧ b < B ∧ w.cell? ⟨b, o + k, none⟩ = some u := by
  obtain ⟨b, o, e, hb, hc⟩ := h (by rintro rfl; simp at hk)
  exact ⟨b, o, e, hb, hc k u hk⟩
theorem Row.keep (h : Row w B A xs) (hk : ∀ b o, b < B → w'.cell? ⟨b, o, none⟩ = w.cell? ⟨b, o, none⟩) : Row w' B A xs := fun hn => by
  obtain ⟨b, o, e, hb, hc⟩ := h hn
  exact ⟨b, o, e, hb, fun k u hu => (hk _ _ hb).trans (hc k u hu)⟩
theorem Row.below (h : Row w B A xs) (hb : Below B w w') : Row w' B A xs := h.keep fun _ _ hp => hb.cell hp
theorem Row.more (h : Row w B A xs) (hB : B ≤ B') : Row w B' A xs := fun hn => by
  obtain ⟨b, o, e, hb, hc⟩ := h hn
  exact ⟨b, o, e, by omega, hc⟩
/-- A row of the call's own. -/
theorem row_of_own {base size n : Nat} {t : TypeId} {v : Value} (h : w.ownsRow base t size v n xs) : ∃ A c, v = .slice A n c ∧ n ≤ c ∧ Row w w.heap.size A xs := by
  rcases h.2 with ⟨hv, hn⟩ | ⟨g, cap, cur, hv, _, hg, hnc, _, _, _⟩
  · subst hn
    have hx : xs = [] := List.eq_nil_of_length_eq_zero (by simpa using h.1)
    subst hx
    exact ⟨none, 0, hv, by omega, fun hn => absurd rfl hn⟩
  · subst hv
    refine ⟨_, cap, rfl, hnc, fun _ => ⟨g, 0, rfl, Block.lt (t := t) (cs := cur) hg, fun k u hu => ?_⟩⟩
    rw [Nat.zero_add, h.cellAt k (by rw [← h.1]; exact (List.getElem?_eq_some_iff.1 hu).1), hu]
end

/-- What a call owns stays its own behind a call that leaves alone what was there. -/
theorem own_below {w w' : World} {base size n : Nat} {t : TypeId} {v : Value} {xs : List Value} (h : w.ownsRow base t size v n xs) (hb : Below w.heap.size w w') : w'.ownsRow base t size v n xs :=
  h.kept (row := none) ⟨hb.os, hb.tape, hb.output, hb.size, fun i hi _ => hb.block i hi⟩ (Classical.em _)

theorem own_drew {w : World} {base size n : Nat} {t : TypeId} {v : Value} {xs : List Value} (h : w.ownsRow base t size v n xs) : w.drew.ownsRow base t size v n xs := h

/-- Behind an append to a row of the call's own. -/
theorem below_append {w wr w1 : World} {B base size n : Nat} {t : TypeId} {v : Value} {xs : List Value} {o : Obj} (hb : Below B w wr) (hown : wr.ownsRow base t size v n xs) (hB : B ≤ base) (hs : B ≤ wr.heap.size) (hg : (wr.alloc o).grownBy w1 v.ownBlock) : Below B w w1 :=
  (hb.alloc hs o).grown hg (by rw [World.size_alloc]; omega) (fun j hj => by have := (hown.lt j hj).1; omega)

/-- A slice of sets. -/
abbrev setsV (l : List Int) : List Value := l.map (Value.int .u16)
theorem setsV_app (a b : List Int) : setsV (a ++ b) = setsV a ++ setsV b := List.map_append
theorem sets_at {l : List Int} {k : Nat} (h : k < l.length) : (setsV l)[k]? = some (.int .u16 (l.getD k 0)) := by
  rw [List.getElem?_map]
  simp [List.getElem?_eq_getElem h, List.getD]
end Go.Proofs.Ytcciejglemfebaa
