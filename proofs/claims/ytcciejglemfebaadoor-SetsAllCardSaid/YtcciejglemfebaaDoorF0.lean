/- Words for the door's rows: the listed table in memory; what a set that came in is as a value. -/
import Derived.Test.YtcciejglemfebaaDoorRows
import Derived.Test.YtcciejglemfebaaDoorD3
import Derived.WalkKit
import Derived.ProofKit
import Derived.LaidMore
import Derived.OpenShut
import Derived.ChangeOld
import Derived.Below
import Derived.Stop.Joined
import Derived.Lib.LaidTab
import Derived.Deep.Slices
namespace Go.Proofs.YtcciejglemfebaaDoor
open Go.ChangeShapes Go.WideShapes Go.ChangeAt Go.RowKit

theorem Tryd.cells3 : Tryd.prog.cellsOf 3 = 1 := by kernel_rfl

theorem spot_none {w : World} {a : Addr} {v : Value} (h : w.cell? a = some v) : a.spot = none ∧ a.block < w.heap.size := by
  unfold World.cell? at h
  split at h
  · rename_i c _ _ hb
    split at h
    · cases h
    · rename_i hs
      refine ⟨by cases hsp : a.spot with | none => rfl | some x => simp [hsp] at hs, ?_⟩
      exact (Array.getElem?_eq_some_iff.1 hb).1
  · cases h

section
variable {H : Type} {enc : TypeId × Value → H} {w : World} {base : Nat} {spare : Nat → Bool} {held : Bool}
/-- A slice of whole numbers that came in. -/
theorem open_nums {a : Option Addr} {len cap : Nat} {d : DataW H} {p : List MemPlace} (h : DataW.Trod enc Tryd.prog w base spare held 22 (.slice a len cap) d p) :
    ∃ L : List Int, L.length = len ∧ len ≤ maxLen ∧ Ints w w.heap.size a L := by
  obtain ⟨fuel, hf⟩ := h
  rcases Deep.open_slice1 Tryd.underlying22 Tryd.cells3 hf with ⟨hc, _⟩ | ⟨x, l, c, m, n, V, D, Pl, hc, hb, hl, hcm, hm, _, hel⟩
  · simp [Value.cells] at hc
    obtain ⟨rfl, rfl, rfl⟩ := hc
    exact ⟨[], rfl, by unfold maxLen; omega, fun hn => absurd rfl hn⟩
  · simp [Value.cells] at hc
    obtain ⟨rfl, rfl, rfl⟩ := hc
    have hlm : len ≤ m := by rw [hm]; split <;> omega
    have key : ∀ i, i < len → ∃ y : Int, w.cell? (x.add i) = some (.int .i64 y) := by
      intro i hi
      obtain ⟨h1, h2⟩ := hel i (by omega)
      obtain ⟨y, e, _, _⟩ := DataW.trod_int Tryd.underlying3 h2
      simp only [List.cons.injEq, and_true] at e
      exact ⟨y, by rw [h1, e]⟩
    obtain ⟨f, hf'⟩ := Deep.choose_lt (α := Int) key
    refine ⟨(List.range len).map f, by simp, by omega, fun hn => ?_⟩
    have hpos : 0 < len := by
      rcases Nat.eq_zero_or_pos len with h0 | h0
      · subst h0; exact absurd (by simp) hn
      · exact h0
    have hx : w.cell? x = some (.int .i64 (f 0)) := by
      have := hf' 0 hpos
      simpa [Addr.add] using this
    obtain ⟨hs, hlt⟩ := spot_none hx
    obtain ⟨b, o, s⟩ := x
    dsimp only at hs hlt
    subst hs
    refine ⟨b, o, rfl, hlt, fun k hk => ?_⟩
    have hk' : k < len := by simpa using hk
    have e := hf' k hk'
    have ea : (⟨b, o, none⟩ : Addr).add k = ⟨b, o + k, none⟩ := by
      unfold Addr.add
      split
      · rename_i h0; subst h0; rfl
      · rfl
    rw [← ea, e]
    simp [List.getD, hk']
end

theorem Tryd.own : ownKnob Tryd.prog.godebug = none := by kernel_rfl
theorem Tryd.laidOut : laidOutB Tryd.prog = true := by kernel_rfl
theorem Tryd.gT : Tryd.prog.globalNamed "math/bits.deBruijn32tab" = some 0 := by kernel_rfl
theorem Tryd.gTType : (Tryd.prog.globals[0]?).map (·.type) = some 44 := by kernel_rfl

theorem u16_of_wf {n : Int} (h : (Lit.int .u16 n).wf = true) : U n := by
  have hmin : IntKind.u16.min = 0 := rfl
  have hmax : IntKind.u16.max = 65535 := rfl
  simp only [Lit.wf, Bool.and_eq_true, decide_eq_true_eq] at h
  unfold U
  omega

/-- What the rows list. -/
abbrev laidT : List (String × DataW Unit) := [("math/bits.deBruijn32tab", Rows.laid_math_bits_deBruijn32tab)]

/-- The door's own heap meets the condition: closed facts. -/
theorem door_met (os : Os) (args : Array Value) : laidMetH Tryd.prog laidT ((World.doorLaid Tryd.prog 400 os).forCall (fun _ _ => 0) ⟨#[], args, []⟩).memory :=
  laidMetH_of_parts3 (fuel := 8) (laidMet_of_run' 8 (by kernel_rfl) (by kernel_rfl)) (by kernel_rfl) (by kernel_rfl)

theorem tab_of_laid {W : World} (h : laidMetH Tryd.prog laidT W) : Tab W := by
  rw [MakeChecks.laidMetH_plain _ _ _ (by kernel_rfl)] at h
  have hT : Lib.TabIs Tryd.prog W "math/bits.deBruijn32tab" .u8 tab32 := Lib.tabIs_of_head (rest := []) Tryd.gT Tryd.gTType Tryd.underlying44 Tryd.underlying5 (by kernel_rfl) (by kernel_rfl) h
  have hc : ∀ k, k < 32 → W.cell? ⟨0, k, none⟩ = some (.int .u8 (tab32.getD k 0)) := fun k hk => hT.cell Tryd.gT k hk
  refine ⟨?_, hc⟩
  have h0 := hc 0 (by decide)
  unfold World.cell? at h0
  split at h0
  · rename_i c _ _ hb
    exact (Array.getElem?_eq_some_iff.1 hb).1
  · cases h0
end Go.Proofs.YtcciejglemfebaaDoor
