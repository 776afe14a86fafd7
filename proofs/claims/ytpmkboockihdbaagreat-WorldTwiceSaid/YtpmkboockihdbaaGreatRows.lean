/-
  No cell of these rows narrows 'for every input' (looked for: loops, veiled, ifaces, maps, wideKeys, modest, calm, conditions, laid).
  DERIVED. THE GIVEN ROWS OF THIS SEAT. 7 by the template 'for every input the law returns true; each argument reads behind the call as it read before'; 0 by the template 'total and deterministic' (their statements: YtpmkboockihdbaaGreatTotals.lean).
  GIVEN WITH THE SEED: the statements are not yours to turn. If you find one false, say at which input.
  Laid BY PROGRAM, IN A SANDBOX (cutbox-rows.mjs): the forced cells as the released guide's own fill.sh prints them over the translation ff3c2e11c1da2810… (all of the seat's roots in one cut). By AI agents, Wed Nov 11 2026. No macro, syntax, notation, axiom, sorry.
-/
import Derived.Test.YtpmkboockihdbaaGreatChecked
import GoSem.Claim
import GoSem.ClaimJoined
import GoSem.ClaimMapViews
import Derived.JoinedTies
import Derived.KernelRfl
namespace Go.Proofs.YtpmkboockihdbaaGreat
/- THE CELL 'sum', in the pinned program and in every row, IS THE sha256 OF THE DUMP (.gsa) THAT YtpmkboockihdbaaGreatProg.lean LOADS. Nothing in Lean hashes anything: it is a label: what it is worth is what the hold of that sum in a sandbox is worth. -/
noncomputable def Tryz.pinned : Pinned := { name := "ytpmkboockihdbaagreat", sum := "ff3c2e11c1da28104310a171071925f7c5b12102da131e5b33b65204a17142d6", checked := Tryz.checked }
namespace Rows
def none {H : Type} : Left H := { results := [], args := [] }

/-- 'theodolitelaw27.NavWeights': WHATEVER THE INPUT: true; the input reads as it did. -/
def navWeightsSpec : ChangeSpec := { name := "navWeights", fn := fun _ => fun
  | [d1, d2, d3, d4, d5, d6, d7, d8, d9, d10] => { results := [.lit (.bool true)], args := [d1, d2, d3, d4, d5, d6, d7, d8, d9, d10] }
  | _ => none }
def navWeightsRow : OpenClaim := { program := "ytpmkboockihdbaagreat", sum := "ff3c2e11c1da28104310a171071925f7c5b12102da131e5b33b65204a17142d6", func := "theodolite/theodolitelaw27.NavWeights", spec := "navWeights", inPlace := ["math/bits.Sub64", "math/bits.Add64"], unfollowed := true, recurses := true, named := ["math/bits.divideError", "math/bits.overflowError"], apart := false }
def NavWeightsSaid : Prop := navWeightsRow.holds Tryz.pinned (OpenSpec.ofChange navWeightsSpec)

/-- ITS FALSE NEIGHBOUR: 'it returns false'. Refute it at one input. -/
def navWeightsWrong : ChangeSpec := { name := "navWeights", fn := fun _ => fun
  | [d1, d2, d3, d4, d5, d6, d7, d8, d9, d10] => { results := [.lit (.bool false)], args := [d1, d2, d3, d4, d5, d6, d7, d8, d9, d10] }
  | _ => none }
def NavWeightsWrongFalsely : Prop := navWeightsRow.holds Tryz.pinned (OpenSpec.ofChange navWeightsWrong)

/-- 'theodolitelaw45.WorldFinds': WHATEVER THE INPUT: true; the input reads as it did. -/
def worldFindsSpec : ChangeSpec := { name := "worldFinds", fn := fun _ => fun
  | [d1, d2, d3, d4, d5, d6, d7, d8, d9] => { results := [.lit (.bool true)], args := [d1, d2, d3, d4, d5, d6, d7, d8, d9] }
  | _ => none }
def worldFindsRow : OpenClaim := { program := "ytpmkboockihdbaagreat", sum := "ff3c2e11c1da28104310a171071925f7c5b12102da131e5b33b65204a17142d6", func := "theodolite/theodolitelaw45.WorldFinds", spec := "worldFinds", inPlace := ["math/bits.Sub64", "math/bits.Add64"], unfollowed := true, recurses := true, named := ["math/bits.divideError", "math/bits.overflowError"], apart := false }
def WorldFindsSaid : Prop := worldFindsRow.holds Tryz.pinned (OpenSpec.ofChange worldFindsSpec)

/-- ITS FALSE NEIGHBOUR: 'it returns false'. Refute it at one input. -/
def worldFindsWrong : ChangeSpec := { name := "worldFinds", fn := fun _ => fun
  | [d1, d2, d3, d4, d5, d6, d7, d8, d9] => { results := [.lit (.bool false)], args := [d1, d2, d3, d4, d5, d6, d7, d8, d9] }
  | _ => none }
def WorldFindsWrongFalsely : Prop := worldFindsRow.holds Tryz.pinned (OpenSpec.ofChange worldFindsWrong)

/-- 'theodolitelaw46.LoopTells': WHATEVER THE INPUT: true; the input reads as it did. -/
def loopTellsSpec : ChangeSpec := { name := "loopTells", fn := fun _ => fun
  | [d1, d2, d3, d4, d5, d6, d7] => { results := [.lit (.bool true)], args := [d1, d2, d3, d4, d5, d6, d7] }
  | _ => none }
def loopTellsRow : OpenClaim := { program := "ytpmkboockihdbaagreat", sum := "ff3c2e11c1da28104310a171071925f7c5b12102da131e5b33b65204a17142d6", func := "theodolite/theodolitelaw46.LoopTells", spec := "loopTells", inPlace := ["math/bits.Sub64", "math/bits.Add64"], unfollowed := true, recurses := true, named := ["math/bits.divideError", "math/bits.overflowError"], apart := false }
def LoopTellsSaid : Prop := loopTellsRow.holds Tryz.pinned (OpenSpec.ofChange loopTellsSpec)

/-- ITS FALSE NEIGHBOUR: 'it returns false'. Refute it at one input. -/
def loopTellsWrong : ChangeSpec := { name := "loopTells", fn := fun _ => fun
  | [d1, d2, d3, d4, d5, d6, d7] => { results := [.lit (.bool false)], args := [d1, d2, d3, d4, d5, d6, d7] }
  | _ => none }
def LoopTellsWrongFalsely : Prop := loopTellsRow.holds Tryz.pinned (OpenSpec.ofChange loopTellsWrong)

/-- 'theodolitelaw46.LoopSure': WHATEVER THE INPUT: true; the input reads as it did. -/
def loopSureSpec : ChangeSpec := { name := "loopSure", fn := fun _ => fun
  | [d1, d2, d3, d4, d5, d6, d7, d8] => { results := [.lit (.bool true)], args := [d1, d2, d3, d4, d5, d6, d7, d8] }
  | _ => none }
def loopSureRow : OpenClaim := { program := "ytpmkboockihdbaagreat", sum := "ff3c2e11c1da28104310a171071925f7c5b12102da131e5b33b65204a17142d6", func := "theodolite/theodolitelaw46.LoopSure", spec := "loopSure", inPlace := ["math/bits.Sub64", "math/bits.Add64"], unfollowed := true, recurses := true, named := ["math/bits.divideError", "math/bits.overflowError"], apart := false }
def LoopSureSaid : Prop := loopSureRow.holds Tryz.pinned (OpenSpec.ofChange loopSureSpec)

/-- ITS FALSE NEIGHBOUR: 'it returns false'. Refute it at one input. -/
def loopSureWrong : ChangeSpec := { name := "loopSure", fn := fun _ => fun
  | [d1, d2, d3, d4, d5, d6, d7, d8] => { results := [.lit (.bool false)], args := [d1, d2, d3, d4, d5, d6, d7, d8] }
  | _ => none }
def LoopSureWrongFalsely : Prop := loopSureRow.holds Tryz.pinned (OpenSpec.ofChange loopSureWrong)

/-- 'theodolitelaw46.LoopOff': WHATEVER THE INPUT: true; the input reads as it did. -/
def loopOffSpec : ChangeSpec := { name := "loopOff", fn := fun _ => fun
  | [d1, d2, d3, d4, d5, d6, d7, d8, d9] => { results := [.lit (.bool true)], args := [d1, d2, d3, d4, d5, d6, d7, d8, d9] }
  | _ => none }
def loopOffRow : OpenClaim := { program := "ytpmkboockihdbaagreat", sum := "ff3c2e11c1da28104310a171071925f7c5b12102da131e5b33b65204a17142d6", func := "theodolite/theodolitelaw46.LoopOff", spec := "loopOff", inPlace := ["math/bits.Sub64", "math/bits.Add64"], unfollowed := true, recurses := true, named := ["math/bits.divideError", "math/bits.overflowError"], apart := false }
def LoopOffSaid : Prop := loopOffRow.holds Tryz.pinned (OpenSpec.ofChange loopOffSpec)

/-- ITS FALSE NEIGHBOUR: 'it returns false'. Refute it at one input. -/
def loopOffWrong : ChangeSpec := { name := "loopOff", fn := fun _ => fun
  | [d1, d2, d3, d4, d5, d6, d7, d8, d9] => { results := [.lit (.bool false)], args := [d1, d2, d3, d4, d5, d6, d7, d8, d9] }
  | _ => none }
def LoopOffWrongFalsely : Prop := loopOffRow.holds Tryz.pinned (OpenSpec.ofChange loopOffWrong)

/-- 'theodolitelaw46.LoopRight': WHATEVER THE INPUT: true; the input reads as it did. -/
def loopRightSpec : ChangeSpec := { name := "loopRight", fn := fun _ => fun
  | [d1, d2, d3, d4, d5, d6, d7] => { results := [.lit (.bool true)], args := [d1, d2, d3, d4, d5, d6, d7] }
  | _ => none }
def loopRightRow : OpenClaim := { program := "ytpmkboockihdbaagreat", sum := "ff3c2e11c1da28104310a171071925f7c5b12102da131e5b33b65204a17142d6", func := "theodolite/theodolitelaw46.LoopRight", spec := "loopRight", inPlace := ["math/bits.Sub64", "math/bits.Add64"], unfollowed := true, recurses := true, named := ["math/bits.divideError", "math/bits.overflowError"], apart := false }
def LoopRightSaid : Prop := loopRightRow.holds Tryz.pinned (OpenSpec.ofChange loopRightSpec)

/-- ITS FALSE NEIGHBOUR: 'it returns false'. Refute it at one input. -/
def loopRightWrong : ChangeSpec := { name := "loopRight", fn := fun _ => fun
  | [d1, d2, d3, d4, d5, d6, d7] => { results := [.lit (.bool false)], args := [d1, d2, d3, d4, d5, d6, d7] }
  | _ => none }
def LoopRightWrongFalsely : Prop := loopRightRow.holds Tryz.pinned (OpenSpec.ofChange loopRightWrong)

/-- 'theodolitelaw45.WorldTwice': WHATEVER THE INPUT: true; the input reads as it did. -/
def worldTwiceSpec : ChangeSpec := { name := "worldTwice", fn := fun _ => fun
  | [d1, d2, d3, d4, d5, d6, d7, d8] => { results := [.lit (.bool true)], args := [d1, d2, d3, d4, d5, d6, d7, d8] }
  | _ => none }
def worldTwiceRow : OpenClaim := { program := "ytpmkboockihdbaagreat", sum := "ff3c2e11c1da28104310a171071925f7c5b12102da131e5b33b65204a17142d6", func := "theodolite/theodolitelaw45.WorldTwice", spec := "worldTwice", inPlace := ["math/bits.Sub64", "math/bits.Add64"], unfollowed := true, recurses := true, named := ["math/bits.divideError", "math/bits.overflowError"], apart := false }
def WorldTwiceSaid : Prop := worldTwiceRow.holds Tryz.pinned (OpenSpec.ofChange worldTwiceSpec)

/-- ITS FALSE NEIGHBOUR: 'it returns false'. Refute it at one input. -/
def worldTwiceWrong : ChangeSpec := { name := "worldTwice", fn := fun _ => fun
  | [d1, d2, d3, d4, d5, d6, d7, d8] => { results := [.lit (.bool false)], args := [d1, d2, d3, d4, d5, d6, d7, d8] }
  | _ => none }
def WorldTwiceWrongFalsely : Prop := worldTwiceRow.holds Tryz.pinned (OpenSpec.ofChange worldTwiceWrong)

/- THE SECOND FORM. 'bulk': how many values and letters a reading holds, each counted each time it is reached (what is shared counts as often as it is met; a slice's spare places count too). A statement '..UptoSaid' is the law's where the arguments, and the package variables that the reading takes, are together of bulk at most 1048576: NARROWER than '..Said'. Prove '..Said' where nothing that the law and all that it calls make is longer than what came in: it says more and counts as full. Else prove '..UptoSaid'. A law counts once. -/
mutual
def uptoBulk {H : Type} : DataW H → Nat
  | .lit (.string bytes) => bytes.length + 1
  | .lit _ => 1
  | .nil => 1
  | .ptr d => uptoBulk d + 1
  | .slice elems spare => uptoBulkAll elems + uptoBulkAll spare + 1
  | .agg parts => uptoBulkAll parts + 1
  | .iface _ d => uptoBulk d + 1
  | .map entries => uptoBulkEntries entries + 1
  | .held _ => 1
def uptoBulkAll {H : Type} : List (DataW H) → Nat
  | [] => 0
  | d :: r => uptoBulk d + uptoBulkAll r
def uptoBulkEntries {H : Type} : List (Lit × DataW H) → Nat
  | [] => 0
  | x :: r => uptoBulkEntry x + uptoBulkEntries r
def uptoBulkEntry {H : Type} : Lit × DataW H → Nat
  | (.string bytes, d) => bytes.length + uptoBulk d + 1
  | (_, d) => uptoBulk d + 1
 end
def uptoSmall : (H : Type) → List (DataW H) → Bool := fun _ ds => decide (uptoBulkAll ds ≤ 1048576)
def OpenSpec.upto (s : _root_.Go.ChangeSpec) : _root_.Go.OpenSpec := { _root_.Go.OpenSpec.ofChange s with cond := some uptoSmall }

/-- 'theodolitelaw27.NavWeights', WHERE WHAT IT READS IS OF BULK AT MOST 1048576: true; the input reads as it did. -/
def navWeightsUptoRow : OpenClaim := { program := "ytpmkboockihdbaagreat", sum := "ff3c2e11c1da28104310a171071925f7c5b12102da131e5b33b65204a17142d6", func := "theodolite/theodolitelaw27.NavWeights", spec := "navWeights", inPlace := ["math/bits.Sub64", "math/bits.Add64"], unfollowed := true, recurses := true, named := ["math/bits.divideError", "math/bits.overflowError"], apart := false, narrowed := true }
def NavWeightsUptoSaid : Prop := navWeightsUptoRow.holds Tryz.pinned (OpenSpec.upto navWeightsSpec)

/-- 'theodolitelaw45.WorldFinds', WHERE WHAT IT READS IS OF BULK AT MOST 1048576: true; the input reads as it did. -/
def worldFindsUptoRow : OpenClaim := { program := "ytpmkboockihdbaagreat", sum := "ff3c2e11c1da28104310a171071925f7c5b12102da131e5b33b65204a17142d6", func := "theodolite/theodolitelaw45.WorldFinds", spec := "worldFinds", inPlace := ["math/bits.Sub64", "math/bits.Add64"], unfollowed := true, recurses := true, named := ["math/bits.divideError", "math/bits.overflowError"], apart := false, narrowed := true }
def WorldFindsUptoSaid : Prop := worldFindsUptoRow.holds Tryz.pinned (OpenSpec.upto worldFindsSpec)

/-- 'theodolitelaw46.LoopTells', WHERE WHAT IT READS IS OF BULK AT MOST 1048576: true; the input reads as it did. -/
def loopTellsUptoRow : OpenClaim := { program := "ytpmkboockihdbaagreat", sum := "ff3c2e11c1da28104310a171071925f7c5b12102da131e5b33b65204a17142d6", func := "theodolite/theodolitelaw46.LoopTells", spec := "loopTells", inPlace := ["math/bits.Sub64", "math/bits.Add64"], unfollowed := true, recurses := true, named := ["math/bits.divideError", "math/bits.overflowError"], apart := false, narrowed := true }
def LoopTellsUptoSaid : Prop := loopTellsUptoRow.holds Tryz.pinned (OpenSpec.upto loopTellsSpec)

/-- 'theodolitelaw46.LoopSure', WHERE WHAT IT READS IS OF BULK AT MOST 1048576: true; the input reads as it did. -/
def loopSureUptoRow : OpenClaim := { program := "ytpmkboockihdbaagreat", sum := "ff3c2e11c1da28104310a171071925f7c5b12102da131e5b33b65204a17142d6", func := "theodolite/theodolitelaw46.LoopSure", spec := "loopSure", inPlace := ["math/bits.Sub64", "math/bits.Add64"], unfollowed := true, recurses := true, named := ["math/bits.divideError", "math/bits.overflowError"], apart := false, narrowed := true }
def LoopSureUptoSaid : Prop := loopSureUptoRow.holds Tryz.pinned (OpenSpec.upto loopSureSpec)

/-- 'theodolitelaw46.LoopOff', WHERE WHAT IT READS IS OF BULK AT MOST 1048576: true; the input reads as it did. -/
def loopOffUptoRow : OpenClaim := { program := "ytpmkboockihdbaagreat", sum := "ff3c2e11c1da28104310a171071925f7c5b12102da131e5b33b65204a17142d6", func := "theodolite/theodolitelaw46.LoopOff", spec := "loopOff", inPlace := ["math/bits.Sub64", "math/bits.Add64"], unfollowed := true, recurses := true, named := ["math/bits.divideError", "math/bits.overflowError"], apart := false, narrowed := true }
def LoopOffUptoSaid : Prop := loopOffUptoRow.holds Tryz.pinned (OpenSpec.upto loopOffSpec)

/-- 'theodolitelaw46.LoopRight', WHERE WHAT IT READS IS OF BULK AT MOST 1048576: true; the input reads as it did. -/
def loopRightUptoRow : OpenClaim := { program := "ytpmkboockihdbaagreat", sum := "ff3c2e11c1da28104310a171071925f7c5b12102da131e5b33b65204a17142d6", func := "theodolite/theodolitelaw46.LoopRight", spec := "loopRight", inPlace := ["math/bits.Sub64", "math/bits.Add64"], unfollowed := true, recurses := true, named := ["math/bits.divideError", "math/bits.overflowError"], apart := false, narrowed := true }
def LoopRightUptoSaid : Prop := loopRightUptoRow.holds Tryz.pinned (OpenSpec.upto loopRightSpec)

/-- 'theodolitelaw45.WorldTwice', WHERE WHAT IT READS IS OF BULK AT MOST 1048576: true; the input reads as it did. -/
def worldTwiceUptoRow : OpenClaim := { program := "ytpmkboockihdbaagreat", sum := "ff3c2e11c1da28104310a171071925f7c5b12102da131e5b33b65204a17142d6", func := "theodolite/theodolitelaw45.WorldTwice", spec := "worldTwice", inPlace := ["math/bits.Sub64", "math/bits.Add64"], unfollowed := true, recurses := true, named := ["math/bits.divideError", "math/bits.overflowError"], apart := false, narrowed := true }
def WorldTwiceUptoSaid : Prop := worldTwiceUptoRow.holds Tryz.pinned (OpenSpec.upto worldTwiceSpec)

end Rows
end Go.Proofs.YtpmkboockihdbaaGreat
