/-
  No cell of these rows narrows 'for every input' (looked for: loops, veiled, ifaces, maps, wideKeys, modest, calm, conditions, laid).
  DERIVED. THE GIVEN ROWS OF THIS SEAT. 4 by the template 'for every input the law returns true; each argument reads behind the call as it read before'; 0 by the template 'total and deterministic' (their statements: YthajpemlpmlefaaGreatTotals.lean).
  GIVEN WITH THE SEED: the statements are not yours to turn. If you find one false, say at which input.
  Laid BY PROGRAM, IN A SANDBOX (cutbox-rows.mjs): the forced cells as the released guide's own fill.sh prints them over the translation b91980ea1334b79b… (all of the seat's roots in one cut). By AI agents, Wed Nov 11 2026. No macro, syntax, notation, axiom, sorry.
-/
import Derived.Test.YthajpemlpmlefaaGreatChecked
import GoSem.Claim
import GoSem.ClaimJoined
import GoSem.ClaimMapViews
import Derived.JoinedTies
import Derived.KernelRfl
namespace Go.Proofs.YthajpemlpmlefaaGreat
/- THE CELL 'sum', in the pinned program and in every row, IS THE sha256 OF THE DUMP (.gsa) THAT YthajpemlpmlefaaGreatProg.lean LOADS. Nothing in Lean hashes anything: it is a label: what it is worth is what the hold of that sum in a sandbox is worth. -/
noncomputable def Tryz.pinned : Pinned := { name := "ythajpemlpmlefaagreat", sum := "b91980ea1334b79bc70bd5904fbd05ac47cff52c6274ab1a1f524ee78d6662f4", checked := Tryz.checked }
namespace Rows
def none {H : Type} : Left H := { results := [], args := [] }

/-- 'theodolitelaw27.NavModes': WHATEVER THE INPUT: true; the input reads as it did. -/
def navModesSpec : ChangeSpec := { name := "navModes", fn := fun _ => fun
  | [d1, d2, d3, d4, d5, d6] => { results := [.lit (.bool true)], args := [d1, d2, d3, d4, d5, d6] }
  | _ => none }
def navModesRow : OpenClaim := { program := "ythajpemlpmlefaagreat", sum := "b91980ea1334b79bc70bd5904fbd05ac47cff52c6274ab1a1f524ee78d6662f4", func := "theodolite/theodolitelaw27.NavModes", spec := "navModes", inPlace := ["math/bits.Sub64", "math/bits.Add64"], unfollowed := true, recurses := true, named := ["math/bits.divideError", "math/bits.overflowError"], apart := false }
def NavModesSaid : Prop := navModesRow.holds Tryz.pinned (OpenSpec.ofChange navModesSpec)

/-- ITS FALSE NEIGHBOUR: 'it returns false'. Refute it at one input. -/
def navModesWrong : ChangeSpec := { name := "navModes", fn := fun _ => fun
  | [d1, d2, d3, d4, d5, d6] => { results := [.lit (.bool false)], args := [d1, d2, d3, d4, d5, d6] }
  | _ => none }
def NavModesWrongFalsely : Prop := navModesRow.holds Tryz.pinned (OpenSpec.ofChange navModesWrong)

/-- 'theodolitelaw27.NavTells': WHATEVER THE INPUT: true; the input reads as it did. -/
def navTellsSpec : ChangeSpec := { name := "navTells", fn := fun _ => fun
  | [d1, d2, d3, d4, d5, d6] => { results := [.lit (.bool true)], args := [d1, d2, d3, d4, d5, d6] }
  | _ => none }
def navTellsRow : OpenClaim := { program := "ythajpemlpmlefaagreat", sum := "b91980ea1334b79bc70bd5904fbd05ac47cff52c6274ab1a1f524ee78d6662f4", func := "theodolite/theodolitelaw27.NavTells", spec := "navTells", inPlace := ["math/bits.Sub64", "math/bits.Add64"], unfollowed := true, recurses := true, named := ["math/bits.divideError", "math/bits.overflowError"], apart := false }
def NavTellsSaid : Prop := navTellsRow.holds Tryz.pinned (OpenSpec.ofChange navTellsSpec)

/-- ITS FALSE NEIGHBOUR: 'it returns false'. Refute it at one input. -/
def navTellsWrong : ChangeSpec := { name := "navTells", fn := fun _ => fun
  | [d1, d2, d3, d4, d5, d6] => { results := [.lit (.bool false)], args := [d1, d2, d3, d4, d5, d6] }
  | _ => none }
def NavTellsWrongFalsely : Prop := navTellsRow.holds Tryz.pinned (OpenSpec.ofChange navTellsWrong)

/-- 'theodolitelaw27.NavFaults': WHATEVER THE INPUT: true; the input reads as it did. -/
def navFaultsSpec : ChangeSpec := { name := "navFaults", fn := fun _ => fun
  | [d1, d2, d3, d4] => { results := [.lit (.bool true)], args := [d1, d2, d3, d4] }
  | _ => none }
def navFaultsRow : OpenClaim := { program := "ythajpemlpmlefaagreat", sum := "b91980ea1334b79bc70bd5904fbd05ac47cff52c6274ab1a1f524ee78d6662f4", func := "theodolite/theodolitelaw27.NavFaults", spec := "navFaults", inPlace := ["math/bits.Sub64", "math/bits.Add64"], unfollowed := true, recurses := true, named := ["math/bits.divideError", "math/bits.overflowError"], apart := false }
def NavFaultsSaid : Prop := navFaultsRow.holds Tryz.pinned (OpenSpec.ofChange navFaultsSpec)

/-- ITS FALSE NEIGHBOUR: 'it returns false'. Refute it at one input. -/
def navFaultsWrong : ChangeSpec := { name := "navFaults", fn := fun _ => fun
  | [d1, d2, d3, d4] => { results := [.lit (.bool false)], args := [d1, d2, d3, d4] }
  | _ => none }
def NavFaultsWrongFalsely : Prop := navFaultsRow.holds Tryz.pinned (OpenSpec.ofChange navFaultsWrong)

/-- 'theodolitelaw27.NavWeights': WHATEVER THE INPUT: true; the input reads as it did. -/
def navWeightsSpec : ChangeSpec := { name := "navWeights", fn := fun _ => fun
  | [d1, d2, d3, d4, d5, d6, d7, d8, d9, d10] => { results := [.lit (.bool true)], args := [d1, d2, d3, d4, d5, d6, d7, d8, d9, d10] }
  | _ => none }
def navWeightsRow : OpenClaim := { program := "ythajpemlpmlefaagreat", sum := "b91980ea1334b79bc70bd5904fbd05ac47cff52c6274ab1a1f524ee78d6662f4", func := "theodolite/theodolitelaw27.NavWeights", spec := "navWeights", inPlace := ["math/bits.Sub64", "math/bits.Add64"], unfollowed := true, recurses := true, named := ["math/bits.divideError", "math/bits.overflowError"], apart := false }
def NavWeightsSaid : Prop := navWeightsRow.holds Tryz.pinned (OpenSpec.ofChange navWeightsSpec)

/-- ITS FALSE NEIGHBOUR: 'it returns false'. Refute it at one input. -/
def navWeightsWrong : ChangeSpec := { name := "navWeights", fn := fun _ => fun
  | [d1, d2, d3, d4, d5, d6, d7, d8, d9, d10] => { results := [.lit (.bool false)], args := [d1, d2, d3, d4, d5, d6, d7, d8, d9, d10] }
  | _ => none }
def NavWeightsWrongFalsely : Prop := navWeightsRow.holds Tryz.pinned (OpenSpec.ofChange navWeightsWrong)

/- THE SECOND FORM. 'bulk': how many values and letters a reading holds, each counted each time it is reached (what is shared counts as often as it is met; a slice's spare places count too). A statement '..UptoSaid' is the law's where the arguments, and the package variables that the reading takes, are together of bulk at most 1048576: NARROWER than '..Said'. Prove '..Said' where nothing that the law and all that it calls make is longer than what came in: it says more and counts as full. Else prove '..UptoSaid'. A law counts once. -/
mutual
def uptoBulk {H : Type} : DataW H → Nat
  | .lit (.string bytes) => bytes.length + 1
  | .lit _ => 1
  | .nil => 1
  | .ptr d => uptoBulk d + 1
  | .slice elems spare => uptoBulkAll elems + uptoBulkAll spare + 1
  | .agg parts => uptoBulkAll parts + 1
  | .iface _ d => uptoBulk d + 1
  | .map entries => uptoBulkEntries entries + 1
  | .held _ => 1
def uptoBulkAll {H : Type} : List (DataW H) → Nat
  | [] => 0
  | d :: r => uptoBulk d + uptoBulkAll r
def uptoBulkEntries {H : Type} : List (Lit × DataW H) → Nat
  | [] => 0
  | x :: r => uptoBulkEntry x + uptoBulkEntries r
def uptoBulkEntry {H : Type} : Lit × DataW H → Nat
  | (.string bytes, d) => bytes.length + uptoBulk d + 1
  | (_, d) => uptoBulk d + 1
 end
def uptoSmall : (H : Type) → List (DataW H) → Bool := fun _ ds => decide (uptoBulkAll ds ≤ 1048576)
def OpenSpec.upto (s : _root_.Go.ChangeSpec) : _root_.Go.OpenSpec := { _root_.Go.OpenSpec.ofChange s with cond := some uptoSmall }

/-- 'theodolitelaw27.NavModes', WHERE WHAT IT READS IS OF BULK AT MOST 1048576: true; the input reads as it did. -/
def navModesUptoRow : OpenClaim := { program := "ythajpemlpmlefaagreat", sum := "b91980ea1334b79bc70bd5904fbd05ac47cff52c6274ab1a1f524ee78d6662f4", func := "theodolite/theodolitelaw27.NavModes", spec := "navModes", inPlace := ["math/bits.Sub64", "math/bits.Add64"], unfollowed := true, recurses := true, named := ["math/bits.divideError", "math/bits.overflowError"], apart := false, narrowed := true }
def NavModesUptoSaid : Prop := navModesUptoRow.holds Tryz.pinned (OpenSpec.upto navModesSpec)

/-- 'theodolitelaw27.NavTells', WHERE WHAT IT READS IS OF BULK AT MOST 1048576: true; the input reads as it did. -/
def navTellsUptoRow : OpenClaim := { program := "ythajpemlpmlefaagreat", sum := "b91980ea1334b79bc70bd5904fbd05ac47cff52c6274ab1a1f524ee78d6662f4", func := "theodolite/theodolitelaw27.NavTells", spec := "navTells", inPlace := ["math/bits.Sub64", "math/bits.Add64"], unfollowed := true, recurses := true, named := ["math/bits.divideError", "math/bits.overflowError"], apart := false, narrowed := true }
def NavTellsUptoSaid : Prop := navTellsUptoRow.holds Tryz.pinned (OpenSpec.upto navTellsSpec)

/-- 'theodolitelaw27.NavFaults', WHERE WHAT IT READS IS OF BULK AT MOST 1048576: true; the input reads as it did. -/
def navFaultsUptoRow : OpenClaim := { program := "ythajpemlpmlefaagreat", sum := "b91980ea1334b79bc70bd5904fbd05ac47cff52c6274ab1a1f524ee78d6662f4", func := "theodolite/theodolitelaw27.NavFaults", spec := "navFaults", inPlace := ["math/bits.Sub64", "math/bits.Add64"], unfollowed := true, recurses := true, named := ["math/bits.divideError", "math/bits.overflowError"], apart := false, narrowed := true }
def NavFaultsUptoSaid : Prop := navFaultsUptoRow.holds Tryz.pinned (OpenSpec.upto navFaultsSpec)

/-- 'theodolitelaw27.NavWeights', WHERE WHAT IT READS IS OF BULK AT MOST 1048576: true; the input reads as it did. -/
def navWeightsUptoRow : OpenClaim := { program := "ythajpemlpmlefaagreat", sum := "b91980ea1334b79bc70bd5904fbd05ac47cff52c6274ab1a1f524ee78d6662f4", func := "theodolite/theodolitelaw27.NavWeights", spec := "navWeights", inPlace := ["math/bits.Sub64", "math/bits.Add64"], unfollowed := true, recurses := true, named := ["math/bits.divideError", "math/bits.overflowError"], apart := false, narrowed := true }
def NavWeightsUptoSaid : Prop := navWeightsUptoRow.holds Tryz.pinned (OpenSpec.upto navWeightsSpec)

end Rows
end Go.Proofs.YthajpemlpmlefaaGreat
