/- Words for the door's rows: the listed table in memory; what a set that came in is as a value. -/
import Derived.Test.YtcciejglemfebaaDoorRows
import Derived.Test.YtcciejglemfebaaDoorD3
import Derived.WalkKit
import Derived.ProofKit
import Derived.LaidMore
import Derived.OpenShut
import Derived.ChangeOld
import Derived.Below
import Derived.Stop.Joined
import Derived.Lib.LaidTab
namespace Go.Proofs.YtcciejglemfebaaDoor
open Go.ChangeShapes Go.WideShapes Go.ChangeAt Go.RowKit

theorem Tryd.own : ownKnob Tryd.prog.godebug = none := by kernel_rfl
theorem Tryd.laidOut : laidOutB Tryd.prog = true := by kernel_rfl
theorem Tryd.gT : Tryd.prog.globalNamed "math/bits.deBruijn32tab" = some 0 := by kernel_rfl
theorem Tryd.gTType : (Tryd.prog.globals[0]?).map (·.type) = some 44 := by kernel_rfl

theorem u16_of_wf {n : Int} (h : (Lit.int .u16 n).wf = true) : U n := by
  have hmin : IntKind.u16.min = 0 := rfl
  have hmax : IntKind.u16.max = 65535 := rfl
  simp only [Lit.wf, Bool.and_eq_true, decide_eq_true_eq] at h
  unfold U
  omega

/-- What the rows list. -/
abbrev laidT : List (String × DataW Unit) := [("math/bits.deBruijn32tab", Rows.laid_math_bits_deBruijn32tab)]

/-- The door's own heap meets the condition: closed facts. -/
theorem door_met (os : Os) (args : Array Value) : laidMetH Tryd.prog laidT ((World.doorLaid Tryd.prog 400 os).forCall (fun _ _ => 0) ⟨#[], args, []⟩).memory :=
  laidMetH_of_parts3 (fuel := 8) (laidMet_of_run' 8 (by kernel_rfl) (by kernel_rfl)) (by kernel_rfl) (by kernel_rfl)

theorem tab_of_laid {W : World} (h : laidMetH Tryd.prog laidT W) : Tab W := by
  rw [MakeChecks.laidMetH_plain _ _ _ (by kernel_rfl)] at h
  have hT : Lib.TabIs Tryd.prog W "math/bits.deBruijn32tab" .u8 tab32 := Lib.tabIs_of_head (rest := []) Tryd.gT Tryd.gTType Tryd.underlying44 Tryd.underlying5 (by kernel_rfl) (by kernel_rfl) h
  have hc : ∀ k, k < 32 → W.cell? ⟨0, k, none⟩ = some (.int .u8 (tab32.getD k 0)) := fun k hk => hT.cell Tryd.gT k hk
  refine ⟨?_, hc⟩
  have h0 := hc 0 (by decide)
  unfold World.cell? at h0
  split at h0
  · rename_i c _ _ hb
    exact (Array.getElem?_eq_some_iff.1 hb).1
  · cases h0
end Go.Proofs.YtcciejglemfebaaDoor
