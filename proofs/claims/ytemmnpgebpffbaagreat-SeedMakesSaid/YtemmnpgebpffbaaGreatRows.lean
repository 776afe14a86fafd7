/-
  No cell of these rows narrows 'for every input' (looked for: loops, veiled, ifaces, maps, wideKeys, modest, calm, conditions, laid).
  DERIVED. THE GIVEN ROWS OF THIS SEAT. 5 by the template 'for every input the law returns true; each argument reads behind the call as it read before'; 0 by the template 'total and deterministic' (their statements: YtemmnpgebpffbaaGreatTotals.lean).
  GIVEN WITH THE SEED: the statements are not yours to turn. If you find one false, say at which input.
  Laid BY PROGRAM, IN A SANDBOX (cutbox-rows.mjs): the forced cells as the released guide's own fill.sh prints them over the translation 034deba3aedcaf8e… (all of the seat's roots in one cut). By AI agents, Wed Nov 11 2026. No macro, syntax, notation, axiom, sorry.
-/
import Derived.Test.YtemmnpgebpffbaaGreatChecked
import GoSem.Claim
import GoSem.ClaimJoined
import GoSem.ClaimMapViews
import Derived.JoinedTies
import Derived.KernelRfl
namespace Go.Proofs.YtemmnpgebpffbaaGreat
/- THE CELL 'sum', in the pinned program and in every row, IS THE sha256 OF THE DUMP (.gsa) THAT YtemmnpgebpffbaaGreatProg.lean LOADS. Nothing in Lean hashes anything: it is a label: what it is worth is what the hold of that sum in a sandbox is worth. -/
noncomputable def Tryz.pinned : Pinned := { name := "ytemmnpgebpffbaagreat", sum := "034deba3aedcaf8e9430c06df87a846d3ba69daa436bc282ce927763ef19fbfb", checked := Tryz.checked }
namespace Rows
def none {H : Type} : Left H := { results := [], args := [] }

/-- 'theodolitelaw21.MatchBest': WHATEVER THE INPUT: true; the input reads as it did. -/
def matchBestSpec : ChangeSpec := { name := "matchBest", fn := fun _ => fun
  | [d1, d2, d3, d4, d5, d6, d7] => { results := [.lit (.bool true)], args := [d1, d2, d3, d4, d5, d6, d7] }
  | _ => none }
def matchBestRow : OpenClaim := { program := "ytemmnpgebpffbaagreat", sum := "034deba3aedcaf8e9430c06df87a846d3ba69daa436bc282ce927763ef19fbfb", func := "theodolite/theodolitelaw21.MatchBest", spec := "matchBest", inPlace := ["math/bits.Sub64"], unfollowed := true, recurses := true, named := ["math/bits.divideError", "math/bits.overflowError"], apart := false }
def MatchBestSaid : Prop := matchBestRow.holds Tryz.pinned (OpenSpec.ofChange matchBestSpec)

/-- ITS FALSE NEIGHBOUR: 'it returns false'. Refute it at one input. -/
def matchBestWrong : ChangeSpec := { name := "matchBest", fn := fun _ => fun
  | [d1, d2, d3, d4, d5, d6, d7] => { results := [.lit (.bool false)], args := [d1, d2, d3, d4, d5, d6, d7] }
  | _ => none }
def MatchBestWrongFalsely : Prop := matchBestRow.holds Tryz.pinned (OpenSpec.ofChange matchBestWrong)

/-- 'theodolitelaw40.DriftLeast': WHATEVER THE INPUT: true; the input reads as it did. -/
def driftLeastSpec : ChangeSpec := { name := "driftLeast", fn := fun _ => fun
  | [d1, d2, d3, d4, d5, d6, d7] => { results := [.lit (.bool true)], args := [d1, d2, d3, d4, d5, d6, d7] }
  | _ => none }
def driftLeastRow : OpenClaim := { program := "ytemmnpgebpffbaagreat", sum := "034deba3aedcaf8e9430c06df87a846d3ba69daa436bc282ce927763ef19fbfb", func := "theodolite/theodolitelaw40.DriftLeast", spec := "driftLeast", inPlace := ["math/bits.Sub64"], unfollowed := true, recurses := true, named := ["math/bits.divideError", "math/bits.overflowError"], apart := false }
def DriftLeastSaid : Prop := driftLeastRow.holds Tryz.pinned (OpenSpec.ofChange driftLeastSpec)

/-- ITS FALSE NEIGHBOUR: 'it returns false'. Refute it at one input. -/
def driftLeastWrong : ChangeSpec := { name := "driftLeast", fn := fun _ => fun
  | [d1, d2, d3, d4, d5, d6, d7] => { results := [.lit (.bool false)], args := [d1, d2, d3, d4, d5, d6, d7] }
  | _ => none }
def DriftLeastWrongFalsely : Prop := driftLeastRow.holds Tryz.pinned (OpenSpec.ofChange driftLeastWrong)

/-- 'theodolitelaw22.SeedWeighs': WHATEVER THE INPUT: true; the input reads as it did. -/
def seedWeighsSpec : ChangeSpec := { name := "seedWeighs", fn := fun _ => fun
  | [d1, d2, d3, d4] => { results := [.lit (.bool true)], args := [d1, d2, d3, d4] }
  | _ => none }
def seedWeighsRow : OpenClaim := { program := "ytemmnpgebpffbaagreat", sum := "034deba3aedcaf8e9430c06df87a846d3ba69daa436bc282ce927763ef19fbfb", func := "theodolite/theodolitelaw22.SeedWeighs", spec := "seedWeighs", inPlace := ["math/bits.Sub64", "math/bits.Add64"], unfollowed := true, recurses := true, named := ["math/bits.divideError", "math/bits.overflowError"], apart := false }
def SeedWeighsSaid : Prop := seedWeighsRow.holds Tryz.pinned (OpenSpec.ofChange seedWeighsSpec)

/-- ITS FALSE NEIGHBOUR: 'it returns false'. Refute it at one input. -/
def seedWeighsWrong : ChangeSpec := { name := "seedWeighs", fn := fun _ => fun
  | [d1, d2, d3, d4] => { results := [.lit (.bool false)], args := [d1, d2, d3, d4] }
  | _ => none }
def SeedWeighsWrongFalsely : Prop := seedWeighsRow.holds Tryz.pinned (OpenSpec.ofChange seedWeighsWrong)

/-- 'theodolitelaw22.SeedMakes': WHATEVER THE INPUT: true; the input reads as it did. -/
def seedMakesSpec : ChangeSpec := { name := "seedMakes", fn := fun _ => fun
  | [d1, d2, d3, d4, d5, d6, d7] => { results := [.lit (.bool true)], args := [d1, d2, d3, d4, d5, d6, d7] }
  | _ => none }
def seedMakesRow : OpenClaim := { program := "ytemmnpgebpffbaagreat", sum := "034deba3aedcaf8e9430c06df87a846d3ba69daa436bc282ce927763ef19fbfb", func := "theodolite/theodolitelaw22.SeedMakes", spec := "seedMakes", inPlace := ["math/bits.Sub64", "math/bits.Add64"], unfollowed := true, recurses := true, named := ["math/bits.divideError", "math/bits.overflowError"], apart := false }
def SeedMakesSaid : Prop := seedMakesRow.holds Tryz.pinned (OpenSpec.ofChange seedMakesSpec)

/-- ITS FALSE NEIGHBOUR: 'it returns false'. Refute it at one input. -/
def seedMakesWrong : ChangeSpec := { name := "seedMakes", fn := fun _ => fun
  | [d1, d2, d3, d4, d5, d6, d7] => { results := [.lit (.bool false)], args := [d1, d2, d3, d4, d5, d6, d7] }
  | _ => none }
def SeedMakesWrongFalsely : Prop := seedMakesRow.holds Tryz.pinned (OpenSpec.ofChange seedMakesWrong)

/-- 'theodolitelaw22.SeedFlat': WHATEVER THE INPUT: true; the input reads as it did. -/
def seedFlatSpec : ChangeSpec := { name := "seedFlat", fn := fun _ => fun
  | [d] => { results := [.lit (.bool true)], args := [d] }
  | _ => none }
def seedFlatRow : OpenClaim := { program := "ytemmnpgebpffbaagreat", sum := "034deba3aedcaf8e9430c06df87a846d3ba69daa436bc282ce927763ef19fbfb", func := "theodolite/theodolitelaw22.SeedFlat", spec := "seedFlat", inPlace := ["math/bits.Sub64", "math/bits.Add64"], unfollowed := true, recurses := true, named := ["math/bits.divideError", "math/bits.overflowError"], apart := false }
def SeedFlatSaid : Prop := seedFlatRow.holds Tryz.pinned (OpenSpec.ofChange seedFlatSpec)

/-- ITS FALSE NEIGHBOUR: 'it returns false'. Refute it at one input. -/
def seedFlatWrong : ChangeSpec := { name := "seedFlat", fn := fun _ => fun
  | [d] => { results := [.lit (.bool false)], args := [d] }
  | _ => none }
def SeedFlatWrongFalsely : Prop := seedFlatRow.holds Tryz.pinned (OpenSpec.ofChange seedFlatWrong)

/- THE SECOND FORM. 'bulk': how many values and letters a reading holds, each counted each time it is reached (what is shared counts as often as it is met; a slice's spare places count too). A statement '..UptoSaid' is the law's where the arguments, and the package variables that the reading takes, are together of bulk at most 1048576: NARROWER than '..Said'. Prove '..Said' where nothing that the law and all that it calls make is longer than what came in: it says more and counts as full. Else prove '..UptoSaid'. A law counts once. -/
mutual
def uptoBulk {H : Type} : DataW H → Nat
  | .lit (.string bytes) => bytes.length + 1
  | .lit _ => 1
  | .nil => 1
  | .ptr d => uptoBulk d + 1
  | .slice elems spare => uptoBulkAll elems + uptoBulkAll spare + 1
  | .agg parts => uptoBulkAll parts + 1
  | .iface _ d => uptoBulk d + 1
  | .map entries => uptoBulkEntries entries + 1
  | .held _ => 1
def uptoBulkAll {H : Type} : List (DataW H) → Nat
  | [] => 0
  | d :: r => uptoBulk d + uptoBulkAll r
def uptoBulkEntries {H : Type} : List (Lit × DataW H) → Nat
  | [] => 0
  | x :: r => uptoBulkEntry x + uptoBulkEntries r
def uptoBulkEntry {H : Type} : Lit × DataW H → Nat
  | (.string bytes, d) => bytes.length + uptoBulk d + 1
  | (_, d) => uptoBulk d + 1
 end
def uptoSmall : (H : Type) → List (DataW H) → Bool := fun _ ds => decide (uptoBulkAll ds ≤ 1048576)
def OpenSpec.upto (s : _root_.Go.ChangeSpec) : _root_.Go.OpenSpec := { _root_.Go.OpenSpec.ofChange s with cond := some uptoSmall }

/-- 'theodolitelaw21.MatchBest', WHERE WHAT IT READS IS OF BULK AT MOST 1048576: true; the input reads as it did. -/
def matchBestUptoRow : OpenClaim := { program := "ytemmnpgebpffbaagreat", sum := "034deba3aedcaf8e9430c06df87a846d3ba69daa436bc282ce927763ef19fbfb", func := "theodolite/theodolitelaw21.MatchBest", spec := "matchBest", inPlace := ["math/bits.Sub64"], unfollowed := true, recurses := true, named := ["math/bits.divideError", "math/bits.overflowError"], apart := false, narrowed := true }
def MatchBestUptoSaid : Prop := matchBestUptoRow.holds Tryz.pinned (OpenSpec.upto matchBestSpec)

/-- 'theodolitelaw40.DriftLeast', WHERE WHAT IT READS IS OF BULK AT MOST 1048576: true; the input reads as it did. -/
def driftLeastUptoRow : OpenClaim := { program := "ytemmnpgebpffbaagreat", sum := "034deba3aedcaf8e9430c06df87a846d3ba69daa436bc282ce927763ef19fbfb", func := "theodolite/theodolitelaw40.DriftLeast", spec := "driftLeast", inPlace := ["math/bits.Sub64"], unfollowed := true, recurses := true, named := ["math/bits.divideError", "math/bits.overflowError"], apart := false, narrowed := true }
def DriftLeastUptoSaid : Prop := driftLeastUptoRow.holds Tryz.pinned (OpenSpec.upto driftLeastSpec)

/-- 'theodolitelaw22.SeedWeighs', WHERE WHAT IT READS IS OF BULK AT MOST 1048576: true; the input reads as it did. -/
def seedWeighsUptoRow : OpenClaim := { program := "ytemmnpgebpffbaagreat", sum := "034deba3aedcaf8e9430c06df87a846d3ba69daa436bc282ce927763ef19fbfb", func := "theodolite/theodolitelaw22.SeedWeighs", spec := "seedWeighs", inPlace := ["math/bits.Sub64", "math/bits.Add64"], unfollowed := true, recurses := true, named := ["math/bits.divideError", "math/bits.overflowError"], apart := false, narrowed := true }
def SeedWeighsUptoSaid : Prop := seedWeighsUptoRow.holds Tryz.pinned (OpenSpec.upto seedWeighsSpec)

/-- 'theodolitelaw22.SeedMakes', WHERE WHAT IT READS IS OF BULK AT MOST 1048576: true; the input reads as it did. -/
def seedMakesUptoRow : OpenClaim := { program := "ytemmnpgebpffbaagreat", sum := "034deba3aedcaf8e9430c06df87a846d3ba69daa436bc282ce927763ef19fbfb", func := "theodolite/theodolitelaw22.SeedMakes", spec := "seedMakes", inPlace := ["math/bits.Sub64", "math/bits.Add64"], unfollowed := true, recurses := true, named := ["math/bits.divideError", "math/bits.overflowError"], apart := false, narrowed := true }
def SeedMakesUptoSaid : Prop := seedMakesUptoRow.holds Tryz.pinned (OpenSpec.upto seedMakesSpec)

/-- 'theodolitelaw22.SeedFlat', WHERE WHAT IT READS IS OF BULK AT MOST 1048576: true; the input reads as it did. -/
def seedFlatUptoRow : OpenClaim := { program := "ytemmnpgebpffbaagreat", sum := "034deba3aedcaf8e9430c06df87a846d3ba69daa436bc282ce927763ef19fbfb", func := "theodolite/theodolitelaw22.SeedFlat", spec := "seedFlat", inPlace := ["math/bits.Sub64", "math/bits.Add64"], unfollowed := true, recurses := true, named := ["math/bits.divideError", "math/bits.overflowError"], apart := false, narrowed := true }
def SeedFlatUptoSaid : Prop := seedFlatUptoRow.holds Tryz.pinned (OpenSpec.upto seedFlatSpec)

end Rows
end Go.Proofs.YtemmnpgebpffbaaGreat
