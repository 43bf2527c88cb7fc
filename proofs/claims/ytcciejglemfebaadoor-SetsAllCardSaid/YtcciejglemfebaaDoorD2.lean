/- math/bits.TrailingZeros16 and package sets' List, each by a contract; the table lies in block 0. -/
import Derived.Test.YtcciejglemfebaaDoorD1
namespace Go.Proofs.YtcciejglemfebaaDoor
open Go.RowKit

def tab32 : List Int := [0, 1, 28, 2, 29, 14, 24, 3, 30, 22, 20, 15, 25, 17, 4, 8, 31, 27, 13, 23, 21, 19, 16, 7, 26, 12, 18, 6, 11, 5, 10, 9]
/-- The table of the world's first block. -/
def Tab (w : World) : Prop := 0 < w.heap.size ∧ ∀ k, k < 32 → w.cell? ⟨0, k, none⟩ = some (.int .u8 (tab32.getD k 0))
theorem Tab.below {B : Nat} {w w' : World} (h : Tab w) (hb : Below B w w') (hB : 0 < B) : Tab w' :=
  ⟨Nat.lt_of_lt_of_le h.1 hb.size, fun k hk => (hb.cell (p := ⟨0, k, none⟩) hB).trans (h.2 k hk)⟩

set_option maxHeartbeats 800000 in
theorem tz_calls (n : Nat) (w : World) (hn : n < 1024) (he : n % 2 = 0) (h0 : n ≠ 0) (hT : Hid (Tab w)) :
    Calls Tryd.prog 23 #[.int .u16 (n : Int)] w fun e w' => e = .returned (.int .i64 (tz n : Int)) ∧ w = w' := by
  obtain ⟨⟨l1, l9⟩, hlow, _⟩ := low hn he h0
  have c1 : w.cell? ⟨0, 1, none⟩ = some (.int .u8 1) := hT.out.2 1 (by decide)
  have c2 : w.cell? ⟨0, 3, none⟩ = some (.int .u8 2) := hT.out.2 3 (by decide)
  have c3 : w.cell? ⟨0, 7, none⟩ = some (.int .u8 3) := hT.out.2 7 (by decide)
  have c4 : w.cell? ⟨0, 14, none⟩ = some (.int .u8 4) := hT.out.2 14 (by decide)
  have c5 : w.cell? ⟨0, 29, none⟩ = some (.int .u8 5) := hT.out.2 29 (by decide)
  have c6 : w.cell? ⟨0, 27, none⟩ = some (.int .u8 6) := hT.out.2 27 (by decide)
  have c7 : w.cell? ⟨0, 23, none⟩ = some (.int .u8 7) := hT.out.2 23 (by decide)
  have c8 : w.cell? ⟨0, 15, none⟩ = some (.int .u8 8) := hT.out.2 15 (by decide)
  have c9 : w.cell? ⟨0, 31, none⟩ = some (.int .u8 9) := hT.out.2 31 (by decide)
  have hz : ((n : Int) == 0) = false := by simpa using h0
  have hz' : ¬ ((n : Int) = 0) := by omega
  clear hT
  have : tz n = 1 ∨ tz n = 2 ∨ tz n = 3 ∨ tz n = 4 ∨ tz n = 5 ∨ tz n = 6 ∨ tz n = 7 ∨ tz n = 8 ∨ tz n = 9 := by omega
  rcases this with e | e | e | e | e | e | e | e | e
  all_goals
    rw [e] at hlow ⊢
    clear e l1 l9 he hn h0
    simp at hlow
    go_enter Tryd.func23, Tryd.ntmps23
    go_wp2
    go_ret
    exact ⟨rfl, rfl⟩
end Go.Proofs.YtcciejglemfebaaDoor
