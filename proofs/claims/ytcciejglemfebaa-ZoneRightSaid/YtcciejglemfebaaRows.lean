/-
  No cell of these rows narrows 'for every input' (looked for: loops, veiled, ifaces, maps, wideKeys, modest, calm, conditions, laid).
  DERIVED. THE GIVEN ROWS OF THIS SEAT. 12 by the template 'for every input the law returns true; each argument reads behind the call as it read before'; 0 by the template 'total and deterministic' (their statements: YtcciejglemfebaaTotals.lean).
  GIVEN WITH THE SEED: the statements are not yours to turn. If you find one false, say at which input.
  Laid BY PROGRAM, IN A SANDBOX (cutbox-rows.mjs): the forced cells as the released guide's own fill.sh prints them over the translation a0bd0f382b6b9908… (all of the seat's roots in one cut). By AI agents, Wed Nov 11 2026. No macro, syntax, notation, axiom, sorry.
-/
import Derived.Test.YtcciejglemfebaaChecked
import GoSem.Claim
import GoSem.ClaimJoined
import GoSem.ClaimMapViews
import Derived.JoinedTies
import Derived.KernelRfl
namespace Go.Proofs.Ytcciejglemfebaa
/- THE CELL 'sum', in the pinned program and in every row, IS THE sha256 OF THE DUMP (.gsa) THAT YtcciejglemfebaaProg.lean LOADS. Nothing in Lean hashes anything: it is a label: what it is worth is what the hold of that sum in a sandbox is worth. -/
noncomputable def Try.pinned : Pinned := { name := "ytcciejglemfebaa", sum := "a0bd0f382b6b9908454d4e0773eb89b76af0b93a6395bb7aa845334a281f052a", checked := Try.checked }
namespace Rows
def none {H : Type} : Left H := { results := [], args := [] }

/-- 'antipodelaw9.SetsParts': WHATEVER THE INPUT: true; the input reads as it did. -/
def setsPartsSpec : ChangeSpec := { name := "setsParts", fn := fun _ => fun
  | [d1, d2] => { results := [.lit (.bool true)], args := [d1, d2] }
  | _ => none }
def setsPartsRow : OpenClaim := { program := "ytcciejglemfebaa", sum := "a0bd0f382b6b9908454d4e0773eb89b76af0b93a6395bb7aa845334a281f052a", func := "antipode/antipodelaw9.SetsParts", spec := "setsParts", unfollowed := true, recurses := true, apart := false }
def SetsPartsSaid : Prop := setsPartsRow.holds Try.pinned (OpenSpec.ofChange setsPartsSpec)

/-- ITS FALSE NEIGHBOUR: 'it returns false'. Refute it at one input. -/
def setsPartsWrong : ChangeSpec := { name := "setsParts", fn := fun _ => fun
  | [d1, d2] => { results := [.lit (.bool false)], args := [d1, d2] }
  | _ => none }
def SetsPartsWrongFalsely : Prop := setsPartsRow.holds Try.pinned (OpenSpec.ofChange setsPartsWrong)

/-- 'antipodelaw10.ConfSmall': WHATEVER THE INPUT: true; the input reads as it did. -/
def confSmallSpec : ChangeSpec := { name := "confSmall", fn := fun _ => fun
  | [] => { results := [.lit (.bool true)], args := [] }
  | _ => none }
def confSmallRow : OpenClaim := { program := "ytcciejglemfebaa", sum := "a0bd0f382b6b9908454d4e0773eb89b76af0b93a6395bb7aa845334a281f052a", func := "antipode/antipodelaw10.ConfSmall", spec := "confSmall", unfollowed := true, recurses := true, apart := false }
def ConfSmallSaid : Prop := confSmallRow.holds Try.pinned (OpenSpec.ofChange confSmallSpec)

/-- ITS FALSE NEIGHBOUR: 'it returns false'. Refute it at one input. -/
def confSmallWrong : ChangeSpec := { name := "confSmall", fn := fun _ => fun
  | [] => { results := [.lit (.bool false)], args := [] }
  | _ => none }
def ConfSmallWrongFalsely : Prop := confSmallRow.holds Try.pinned (OpenSpec.ofChange confSmallWrong)

/-- 'antipodelaw10.ConfChanges': WHATEVER THE INPUT: true; the input reads as it did. -/
def confChangesSpec : ChangeSpec := { name := "confChanges", fn := fun _ => fun
  | [d1, d2] => { results := [.lit (.bool true)], args := [d1, d2] }
  | _ => none }
def confChangesRow : OpenClaim := { program := "ytcciejglemfebaa", sum := "a0bd0f382b6b9908454d4e0773eb89b76af0b93a6395bb7aa845334a281f052a", func := "antipode/antipodelaw10.ConfChanges", spec := "confChanges", unfollowed := true, recurses := true, apart := false }
def ConfChangesSaid : Prop := confChangesRow.holds Try.pinned (OpenSpec.ofChange confChangesSpec)

/-- ITS FALSE NEIGHBOUR: 'it returns false'. Refute it at one input. -/
def confChangesWrong : ChangeSpec := { name := "confChanges", fn := fun _ => fun
  | [d1, d2] => { results := [.lit (.bool false)], args := [d1, d2] }
  | _ => none }
def ConfChangesWrongFalsely : Prop := confChangesRow.holds Try.pinned (OpenSpec.ofChange confChangesWrong)

/-- 'antipodelaw11.ZoneRight': WHATEVER THE INPUT: true; the input reads as it did. -/
def zoneRightSpec : ChangeSpec := { name := "zoneRight", fn := fun _ => fun
  | [d1, d2, d3] => { results := [.lit (.bool true)], args := [d1, d2, d3] }
  | _ => none }
def zoneRightRow : OpenClaim := { program := "ytcciejglemfebaa", sum := "a0bd0f382b6b9908454d4e0773eb89b76af0b93a6395bb7aa845334a281f052a", func := "antipode/antipodelaw11.ZoneRight", spec := "zoneRight", apart := false }
def ZoneRightSaid : Prop := zoneRightRow.holds Try.pinned (OpenSpec.ofChange zoneRightSpec)

/-- ITS FALSE NEIGHBOUR: 'it returns false'. Refute it at one input. -/
def zoneRightWrong : ChangeSpec := { name := "zoneRight", fn := fun _ => fun
  | [d1, d2, d3] => { results := [.lit (.bool false)], args := [d1, d2, d3] }
  | _ => none }
def ZoneRightWrongFalsely : Prop := zoneRightRow.holds Try.pinned (OpenSpec.ofChange zoneRightWrong)

/-- 'antipodelaw11.ZoneBalance': WHATEVER THE INPUT: true; the input reads as it did. -/
def zoneBalanceSpec : ChangeSpec := { name := "zoneBalance", fn := fun _ => fun
  | [d1, d2, d3] => { results := [.lit (.bool true)], args := [d1, d2, d3] }
  | _ => none }
def zoneBalanceRow : OpenClaim := { program := "ytcciejglemfebaa", sum := "a0bd0f382b6b9908454d4e0773eb89b76af0b93a6395bb7aa845334a281f052a", func := "antipode/antipodelaw11.ZoneBalance", spec := "zoneBalance", apart := false }
def ZoneBalanceSaid : Prop := zoneBalanceRow.holds Try.pinned (OpenSpec.ofChange zoneBalanceSpec)

/-- ITS FALSE NEIGHBOUR: 'it returns false'. Refute it at one input. -/
def zoneBalanceWrong : ChangeSpec := { name := "zoneBalance", fn := fun _ => fun
  | [d1, d2, d3] => { results := [.lit (.bool false)], args := [d1, d2, d3] }
  | _ => none }
def ZoneBalanceWrongFalsely : Prop := zoneBalanceRow.holds Try.pinned (OpenSpec.ofChange zoneBalanceWrong)

/-- 'antipodelaw10.ConfMeets': WHATEVER THE INPUT: true; the input reads as it did. -/
def confMeetsSpec : ChangeSpec := { name := "confMeets", fn := fun _ => fun
  | [d1, d2] => { results := [.lit (.bool true)], args := [d1, d2] }
  | _ => none }
def confMeetsRow : OpenClaim := { program := "ytcciejglemfebaa", sum := "a0bd0f382b6b9908454d4e0773eb89b76af0b93a6395bb7aa845334a281f052a", func := "antipode/antipodelaw10.ConfMeets", spec := "confMeets", unfollowed := true, recurses := true, apart := false }
def ConfMeetsSaid : Prop := confMeetsRow.holds Try.pinned (OpenSpec.ofChange confMeetsSpec)

/-- ITS FALSE NEIGHBOUR: 'it returns false'. Refute it at one input. -/
def confMeetsWrong : ChangeSpec := { name := "confMeets", fn := fun _ => fun
  | [d1, d2] => { results := [.lit (.bool false)], args := [d1, d2] }
  | _ => none }
def ConfMeetsWrongFalsely : Prop := confMeetsRow.holds Try.pinned (OpenSpec.ofChange confMeetsWrong)

/-- 'antipodelaw10.ConfHolds': WHATEVER THE INPUT: true; the input reads as it did. -/
def confHoldsSpec : ChangeSpec := { name := "confHolds", fn := fun _ => fun
  | [d1, d2, d3, d4] => { results := [.lit (.bool true)], args := [d1, d2, d3, d4] }
  | _ => none }
def confHoldsRow : OpenClaim := { program := "ytcciejglemfebaa", sum := "a0bd0f382b6b9908454d4e0773eb89b76af0b93a6395bb7aa845334a281f052a", func := "antipode/antipodelaw10.ConfHolds", spec := "confHolds", unfollowed := true, recurses := true, apart := false }
def ConfHoldsSaid : Prop := confHoldsRow.holds Try.pinned (OpenSpec.ofChange confHoldsSpec)

/-- ITS FALSE NEIGHBOUR: 'it returns false'. Refute it at one input. -/
def confHoldsWrong : ChangeSpec := { name := "confHolds", fn := fun _ => fun
  | [d1, d2, d3, d4] => { results := [.lit (.bool false)], args := [d1, d2, d3, d4] }
  | _ => none }
def ConfHoldsWrongFalsely : Prop := confHoldsRow.holds Try.pinned (OpenSpec.ofChange confHoldsWrong)

/-- 'antipodelaw10.ConfChain': WHATEVER THE INPUT: true; the input reads as it did. -/
def confChainSpec : ChangeSpec := { name := "confChain", fn := fun _ => fun
  | [d1, d2, d3, d4] => { results := [.lit (.bool true)], args := [d1, d2, d3, d4] }
  | _ => none }
def confChainRow : OpenClaim := { program := "ytcciejglemfebaa", sum := "a0bd0f382b6b9908454d4e0773eb89b76af0b93a6395bb7aa845334a281f052a", func := "antipode/antipodelaw10.ConfChain", spec := "confChain", unfollowed := true, recurses := true, apart := false }
def ConfChainSaid : Prop := confChainRow.holds Try.pinned (OpenSpec.ofChange confChainSpec)

/-- ITS FALSE NEIGHBOUR: 'it returns false'. Refute it at one input. -/
def confChainWrong : ChangeSpec := { name := "confChain", fn := fun _ => fun
  | [d1, d2, d3, d4] => { results := [.lit (.bool false)], args := [d1, d2, d3, d4] }
  | _ => none }
def ConfChainWrongFalsely : Prop := confChainRow.holds Try.pinned (OpenSpec.ofChange confChainWrong)

/-- 'antipodelaw10.ConfMore': WHATEVER THE INPUT: true; the input reads as it did. -/
def confMoreSpec : ChangeSpec := { name := "confMore", fn := fun _ => fun
  | [d1, d2, d3] => { results := [.lit (.bool true)], args := [d1, d2, d3] }
  | _ => none }
def confMoreRow : OpenClaim := { program := "ytcciejglemfebaa", sum := "a0bd0f382b6b9908454d4e0773eb89b76af0b93a6395bb7aa845334a281f052a", func := "antipode/antipodelaw10.ConfMore", spec := "confMore", unfollowed := true, recurses := true, apart := false }
def ConfMoreSaid : Prop := confMoreRow.holds Try.pinned (OpenSpec.ofChange confMoreSpec)

/-- ITS FALSE NEIGHBOUR: 'it returns false'. Refute it at one input. -/
def confMoreWrong : ChangeSpec := { name := "confMore", fn := fun _ => fun
  | [d1, d2, d3] => { results := [.lit (.bool false)], args := [d1, d2, d3] }
  | _ => none }
def ConfMoreWrongFalsely : Prop := confMoreRow.holds Try.pinned (OpenSpec.ofChange confMoreWrong)

/-- 'antipodelaw10.ConfAll': WHATEVER THE INPUT: true; the input reads as it did. -/
def confAllSpec : ChangeSpec := { name := "confAll", fn := fun _ => fun
  | [d1, d2, d3] => { results := [.lit (.bool true)], args := [d1, d2, d3] }
  | _ => none }
def confAllRow : OpenClaim := { program := "ytcciejglemfebaa", sum := "a0bd0f382b6b9908454d4e0773eb89b76af0b93a6395bb7aa845334a281f052a", func := "antipode/antipodelaw10.ConfAll", spec := "confAll", unfollowed := true, recurses := true, apart := false }
def ConfAllSaid : Prop := confAllRow.holds Try.pinned (OpenSpec.ofChange confAllSpec)

/-- ITS FALSE NEIGHBOUR: 'it returns false'. Refute it at one input. -/
def confAllWrong : ChangeSpec := { name := "confAll", fn := fun _ => fun
  | [d1, d2, d3] => { results := [.lit (.bool false)], args := [d1, d2, d3] }
  | _ => none }
def ConfAllWrongFalsely : Prop := confAllRow.holds Try.pinned (OpenSpec.ofChange confAllWrong)

/-- 'antipodelaw11.ZoneAll': WHATEVER THE INPUT: true; the input reads as it did. -/
def zoneAllSpec : ChangeSpec := { name := "zoneAll", fn := fun _ => fun
  | [d1, d2, d3] => { results := [.lit (.bool true)], args := [d1, d2, d3] }
  | _ => none }
def zoneAllRow : OpenClaim := { program := "ytcciejglemfebaa", sum := "a0bd0f382b6b9908454d4e0773eb89b76af0b93a6395bb7aa845334a281f052a", func := "antipode/antipodelaw11.ZoneAll", spec := "zoneAll", apart := false }
def ZoneAllSaid : Prop := zoneAllRow.holds Try.pinned (OpenSpec.ofChange zoneAllSpec)

/-- ITS FALSE NEIGHBOUR: 'it returns false'. Refute it at one input. -/
def zoneAllWrong : ChangeSpec := { name := "zoneAll", fn := fun _ => fun
  | [d1, d2, d3] => { results := [.lit (.bool false)], args := [d1, d2, d3] }
  | _ => none }
def ZoneAllWrongFalsely : Prop := zoneAllRow.holds Try.pinned (OpenSpec.ofChange zoneAllWrong)

/-- 'antipodelaw11.ZoneSurvives': WHATEVER THE INPUT: true; the input reads as it did. -/
def zoneSurvivesSpec : ChangeSpec := { name := "zoneSurvives", fn := fun _ => fun
  | [d1, d2, d3] => { results := [.lit (.bool true)], args := [d1, d2, d3] }
  | _ => none }
def zoneSurvivesRow : OpenClaim := { program := "ytcciejglemfebaa", sum := "a0bd0f382b6b9908454d4e0773eb89b76af0b93a6395bb7aa845334a281f052a", func := "antipode/antipodelaw11.ZoneSurvives", spec := "zoneSurvives", apart := false }
def ZoneSurvivesSaid : Prop := zoneSurvivesRow.holds Try.pinned (OpenSpec.ofChange zoneSurvivesSpec)

/-- ITS FALSE NEIGHBOUR: 'it returns false'. Refute it at one input. -/
def zoneSurvivesWrong : ChangeSpec := { name := "zoneSurvives", fn := fun _ => fun
  | [d1, d2, d3] => { results := [.lit (.bool false)], args := [d1, d2, d3] }
  | _ => none }
def ZoneSurvivesWrongFalsely : Prop := zoneSurvivesRow.holds Try.pinned (OpenSpec.ofChange zoneSurvivesWrong)

/- THE SECOND FORM. 'bulk': how many values and letters a reading holds, each counted each time it is reached (what is shared counts as often as it is met; a slice's spare places count too). A statement '..UptoSaid' is the law's where the arguments, and the package variables that the reading takes, are together of bulk at most 1048576: NARROWER than '..Said'. Prove '..Said' where nothing that the law and all that it calls make is longer than what came in: it says more and counts as full. Else prove '..UptoSaid'. A law counts once. -/
mutual
def uptoBulk {H : Type} : DataW H → Nat
  | .lit (.string bytes) => bytes.length + 1
  | .lit _ => 1
  | .nil => 1
  | .ptr d => uptoBulk d + 1
  | .slice elems spare => uptoBulkAll elems + uptoBulkAll spare + 1
  | .agg parts => uptoBulkAll parts + 1
  | .iface _ d => uptoBulk d + 1
  | .map entries => uptoBulkEntries entries + 1
  | .held _ => 1
def uptoBulkAll {H : Type} : List (DataW H) → Nat
  | [] => 0
  | d :: r => uptoBulk d + uptoBulkAll r
def uptoBulkEntries {H : Type} : List (Lit × DataW H) → Nat
  | [] => 0
  | x :: r => uptoBulkEntry x + uptoBulkEntries r
def uptoBulkEntry {H : Type} : Lit × DataW H → Nat
  | (.string bytes, d) => bytes.length + uptoBulk d + 1
  | (_, d) => uptoBulk d + 1
 end
def uptoSmall : (H : Type) → List (DataW H) → Bool := fun _ ds => decide (uptoBulkAll ds ≤ 1048576)
def OpenSpec.upto (s : _root_.Go.ChangeSpec) : _root_.Go.OpenSpec := { _root_.Go.OpenSpec.ofChange s with cond := some uptoSmall }

/-- 'antipodelaw9.SetsParts', WHERE WHAT IT READS IS OF BULK AT MOST 1048576: true; the input reads as it did. -/
def setsPartsUptoRow : OpenClaim := { program := "ytcciejglemfebaa", sum := "a0bd0f382b6b9908454d4e0773eb89b76af0b93a6395bb7aa845334a281f052a", func := "antipode/antipodelaw9.SetsParts", spec := "setsParts", unfollowed := true, recurses := true, apart := false, narrowed := true }
def SetsPartsUptoSaid : Prop := setsPartsUptoRow.holds Try.pinned (OpenSpec.upto setsPartsSpec)

/-- 'antipodelaw10.ConfSmall', WHERE WHAT IT READS IS OF BULK AT MOST 1048576: true; the input reads as it did. -/
def confSmallUptoRow : OpenClaim := { program := "ytcciejglemfebaa", sum := "a0bd0f382b6b9908454d4e0773eb89b76af0b93a6395bb7aa845334a281f052a", func := "antipode/antipodelaw10.ConfSmall", spec := "confSmall", unfollowed := true, recurses := true, apart := false, narrowed := true }
def ConfSmallUptoSaid : Prop := confSmallUptoRow.holds Try.pinned (OpenSpec.upto confSmallSpec)

/-- 'antipodelaw10.ConfChanges', WHERE WHAT IT READS IS OF BULK AT MOST 1048576: true; the input reads as it did. -/
def confChangesUptoRow : OpenClaim := { program := "ytcciejglemfebaa", sum := "a0bd0f382b6b9908454d4e0773eb89b76af0b93a6395bb7aa845334a281f052a", func := "antipode/antipodelaw10.ConfChanges", spec := "confChanges", unfollowed := true, recurses := true, apart := false, narrowed := true }
def ConfChangesUptoSaid : Prop := confChangesUptoRow.holds Try.pinned (OpenSpec.upto confChangesSpec)

/-- 'antipodelaw11.ZoneRight', WHERE WHAT IT READS IS OF BULK AT MOST 1048576: true; the input reads as it did. -/
def zoneRightUptoRow : OpenClaim := { program := "ytcciejglemfebaa", sum := "a0bd0f382b6b9908454d4e0773eb89b76af0b93a6395bb7aa845334a281f052a", func := "antipode/antipodelaw11.ZoneRight", spec := "zoneRight", apart := false, narrowed := true }
def ZoneRightUptoSaid : Prop := zoneRightUptoRow.holds Try.pinned (OpenSpec.upto zoneRightSpec)

/-- 'antipodelaw11.ZoneBalance', WHERE WHAT IT READS IS OF BULK AT MOST 1048576: true; the input reads as it did. -/
def zoneBalanceUptoRow : OpenClaim := { program := "ytcciejglemfebaa", sum := "a0bd0f382b6b9908454d4e0773eb89b76af0b93a6395bb7aa845334a281f052a", func := "antipode/antipodelaw11.ZoneBalance", spec := "zoneBalance", apart := false, narrowed := true }
def ZoneBalanceUptoSaid : Prop := zoneBalanceUptoRow.holds Try.pinned (OpenSpec.upto zoneBalanceSpec)

/-- 'antipodelaw10.ConfMeets', WHERE WHAT IT READS IS OF BULK AT MOST 1048576: true; the input reads as it did. -/
def confMeetsUptoRow : OpenClaim := { program := "ytcciejglemfebaa", sum := "a0bd0f382b6b9908454d4e0773eb89b76af0b93a6395bb7aa845334a281f052a", func := "antipode/antipodelaw10.ConfMeets", spec := "confMeets", unfollowed := true, recurses := true, apart := false, narrowed := true }
def ConfMeetsUptoSaid : Prop := confMeetsUptoRow.holds Try.pinned (OpenSpec.upto confMeetsSpec)

/-- 'antipodelaw10.ConfHolds', WHERE WHAT IT READS IS OF BULK AT MOST 1048576: true; the input reads as it did. -/
def confHoldsUptoRow : OpenClaim := { program := "ytcciejglemfebaa", sum := "a0bd0f382b6b9908454d4e0773eb89b76af0b93a6395bb7aa845334a281f052a", func := "antipode/antipodelaw10.ConfHolds", spec := "confHolds", unfollowed := true, recurses := true, apart := false, narrowed := true }
def ConfHoldsUptoSaid : Prop := confHoldsUptoRow.holds Try.pinned (OpenSpec.upto confHoldsSpec)

/-- 'antipodelaw10.ConfChain', WHERE WHAT IT READS IS OF BULK AT MOST 1048576: true; the input reads as it did. -/
def confChainUptoRow : OpenClaim := { program := "ytcciejglemfebaa", sum := "a0bd0f382b6b9908454d4e0773eb89b76af0b93a6395bb7aa845334a281f052a", func := "antipode/antipodelaw10.ConfChain", spec := "confChain", unfollowed := true, recurses := true, apart := false, narrowed := true }
def ConfChainUptoSaid : Prop := confChainUptoRow.holds Try.pinned (OpenSpec.upto confChainSpec)

/-- 'antipodelaw10.ConfMore', WHERE WHAT IT READS IS OF BULK AT MOST 1048576: true; the input reads as it did. -/
def confMoreUptoRow : OpenClaim := { program := "ytcciejglemfebaa", sum := "a0bd0f382b6b9908454d4e0773eb89b76af0b93a6395bb7aa845334a281f052a", func := "antipode/antipodelaw10.ConfMore", spec := "confMore", unfollowed := true, recurses := true, apart := false, narrowed := true }
def ConfMoreUptoSaid : Prop := confMoreUptoRow.holds Try.pinned (OpenSpec.upto confMoreSpec)

/-- 'antipodelaw10.ConfAll', WHERE WHAT IT READS IS OF BULK AT MOST 1048576: true; the input reads as it did. -/
def confAllUptoRow : OpenClaim := { program := "ytcciejglemfebaa", sum := "a0bd0f382b6b9908454d4e0773eb89b76af0b93a6395bb7aa845334a281f052a", func := "antipode/antipodelaw10.ConfAll", spec := "confAll", unfollowed := true, recurses := true, apart := false, narrowed := true }
def ConfAllUptoSaid : Prop := confAllUptoRow.holds Try.pinned (OpenSpec.upto confAllSpec)

/-- 'antipodelaw11.ZoneAll', WHERE WHAT IT READS IS OF BULK AT MOST 1048576: true; the input reads as it did. -/
def zoneAllUptoRow : OpenClaim := { program := "ytcciejglemfebaa", sum := "a0bd0f382b6b9908454d4e0773eb89b76af0b93a6395bb7aa845334a281f052a", func := "antipode/antipodelaw11.ZoneAll", spec := "zoneAll", apart := false, narrowed := true }
def ZoneAllUptoSaid : Prop := zoneAllUptoRow.holds Try.pinned (OpenSpec.upto zoneAllSpec)

/-- 'antipodelaw11.ZoneSurvives', WHERE WHAT IT READS IS OF BULK AT MOST 1048576: true; the input reads as it did. -/
def zoneSurvivesUptoRow : OpenClaim := { program := "ytcciejglemfebaa", sum := "a0bd0f382b6b9908454d4e0773eb89b76af0b93a6395bb7aa845334a281f052a", func := "antipode/antipodelaw11.ZoneSurvives", spec := "zoneSurvives", apart := false, narrowed := true }
def ZoneSurvivesUptoSaid : Prop := zoneSurvivesUptoRow.holds Try.pinned (OpenSpec.upto zoneSurvivesSpec)

end Rows
end Go.Proofs.Ytcciejglemfebaa
