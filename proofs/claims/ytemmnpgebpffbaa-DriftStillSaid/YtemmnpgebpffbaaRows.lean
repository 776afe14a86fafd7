/-
  No cell of these rows narrows 'for every input' (looked for: loops, veiled, ifaces, maps, wideKeys, modest, calm, conditions, laid).
  DERIVED. THE GIVEN ROWS OF THIS SEAT. 7 by the template 'for every input the law returns true; each argument reads behind the call as it read before'; 0 by the template 'total and deterministic' (their statements: YtemmnpgebpffbaaTotals.lean).
  GIVEN WITH THE SEED: the statements are not yours to turn. If you find one false, say at which input.
  Laid BY PROGRAM, IN A SANDBOX (cutbox-rows.mjs): the forced cells as the released guide's own fill.sh prints them over the translation b48855c7df8702a9… (all of the seat's roots in one cut). By AI agents, Wed Nov 11 2026. No macro, syntax, notation, axiom, sorry.
-/
import Derived.Test.YtemmnpgebpffbaaChecked
import GoSem.Claim
import GoSem.ClaimJoined
import GoSem.ClaimMapViews
import Derived.JoinedTies
import Derived.KernelRfl
namespace Go.Proofs.Ytemmnpgebpffbaa
/- THE CELL 'sum', in the pinned program and in every row, IS THE sha256 OF THE DUMP (.gsa) THAT YtemmnpgebpffbaaProg.lean LOADS. Nothing in Lean hashes anything: it is a label: what it is worth is what the hold of that sum in a sandbox is worth. -/
noncomputable def Try.pinned : Pinned := { name := "ytemmnpgebpffbaa", sum := "b48855c7df8702a9292d3c21b0638840b0efbe94f121b0fc65f0cb690458c5b4", checked := Try.checked }
namespace Rows
def none {H : Type} : Left H := { results := [], args := [] }

/-- 'theodolitelaw21.MatchCosts': WHATEVER THE INPUT: true; the input reads as it did. -/
def matchCostsSpec : ChangeSpec := { name := "matchCosts", fn := fun _ => fun
  | [d1, d2] => { results := [.lit (.bool true)], args := [d1, d2] }
  | _ => none }
def matchCostsRow : OpenClaim := { program := "ytemmnpgebpffbaa", sum := "b48855c7df8702a9292d3c21b0638840b0efbe94f121b0fc65f0cb690458c5b4", func := "theodolite/theodolitelaw21.MatchCosts", spec := "matchCosts", inPlace := ["math/bits.Sub64"], unfollowed := true, recurses := true, named := ["math/bits.divideError", "math/bits.overflowError"], apart := false }
def MatchCostsSaid : Prop := matchCostsRow.holds Try.pinned (OpenSpec.ofChange matchCostsSpec)

/-- ITS FALSE NEIGHBOUR: 'it returns false'. Refute it at one input. -/
def matchCostsWrong : ChangeSpec := { name := "matchCosts", fn := fun _ => fun
  | [d1, d2] => { results := [.lit (.bool false)], args := [d1, d2] }
  | _ => none }
def MatchCostsWrongFalsely : Prop := matchCostsRow.holds Try.pinned (OpenSpec.ofChange matchCostsWrong)

/-- 'theodolitelaw21.MatchApart': WHATEVER THE INPUT: true; the input reads as it did. -/
def matchApartSpec : ChangeSpec := { name := "matchApart", fn := fun _ => fun
  | [d1, d2, d3, d4, d5, d6] => { results := [.lit (.bool true)], args := [d1, d2, d3, d4, d5, d6] }
  | _ => none }
def matchApartRow : OpenClaim := { program := "ytemmnpgebpffbaa", sum := "b48855c7df8702a9292d3c21b0638840b0efbe94f121b0fc65f0cb690458c5b4", func := "theodolite/theodolitelaw21.MatchApart", spec := "matchApart", inPlace := ["math/bits.Sub64"], unfollowed := true, recurses := true, named := ["math/bits.divideError", "math/bits.overflowError"], apart := false }
def MatchApartSaid : Prop := matchApartRow.holds Try.pinned (OpenSpec.ofChange matchApartSpec)

/-- ITS FALSE NEIGHBOUR: 'it returns false'. Refute it at one input. -/
def matchApartWrong : ChangeSpec := { name := "matchApart", fn := fun _ => fun
  | [d1, d2, d3, d4, d5, d6] => { results := [.lit (.bool false)], args := [d1, d2, d3, d4, d5, d6] }
  | _ => none }
def MatchApartWrongFalsely : Prop := matchApartRow.holds Try.pinned (OpenSpec.ofChange matchApartWrong)

/-- 'theodolitelaw21.MatchClear': WHATEVER THE INPUT: true; the input reads as it did. -/
def matchClearSpec : ChangeSpec := { name := "matchClear", fn := fun _ => fun
  | [d1, d2, d3, d4] => { results := [.lit (.bool true)], args := [d1, d2, d3, d4] }
  | _ => none }
def matchClearRow : OpenClaim := { program := "ytemmnpgebpffbaa", sum := "b48855c7df8702a9292d3c21b0638840b0efbe94f121b0fc65f0cb690458c5b4", func := "theodolite/theodolitelaw21.MatchClear", spec := "matchClear", inPlace := ["math/bits.Sub64"], unfollowed := true, recurses := true, named := ["math/bits.divideError", "math/bits.overflowError"], apart := false }
def MatchClearSaid : Prop := matchClearRow.holds Try.pinned (OpenSpec.ofChange matchClearSpec)

/-- ITS FALSE NEIGHBOUR: 'it returns false'. Refute it at one input. -/
def matchClearWrong : ChangeSpec := { name := "matchClear", fn := fun _ => fun
  | [d1, d2, d3, d4] => { results := [.lit (.bool false)], args := [d1, d2, d3, d4] }
  | _ => none }
def MatchClearWrongFalsely : Prop := matchClearRow.holds Try.pinned (OpenSpec.ofChange matchClearWrong)

/-- 'theodolitelaw21.MatchFree': WHATEVER THE INPUT: true; the input reads as it did. -/
def matchFreeSpec : ChangeSpec := { name := "matchFree", fn := fun _ => fun
  | [d1, d2, d3, d4, d5, d6, d7] => { results := [.lit (.bool true)], args := [d1, d2, d3, d4, d5, d6, d7] }
  | _ => none }
def matchFreeRow : OpenClaim := { program := "ytemmnpgebpffbaa", sum := "b48855c7df8702a9292d3c21b0638840b0efbe94f121b0fc65f0cb690458c5b4", func := "theodolite/theodolitelaw21.MatchFree", spec := "matchFree", inPlace := ["math/bits.Sub64"], unfollowed := true, recurses := true, named := ["math/bits.divideError", "math/bits.overflowError"], apart := false }
def MatchFreeSaid : Prop := matchFreeRow.holds Try.pinned (OpenSpec.ofChange matchFreeSpec)

/-- ITS FALSE NEIGHBOUR: 'it returns false'. Refute it at one input. -/
def matchFreeWrong : ChangeSpec := { name := "matchFree", fn := fun _ => fun
  | [d1, d2, d3, d4, d5, d6, d7] => { results := [.lit (.bool false)], args := [d1, d2, d3, d4, d5, d6, d7] }
  | _ => none }
def MatchFreeWrongFalsely : Prop := matchFreeRow.holds Try.pinned (OpenSpec.ofChange matchFreeWrong)

/-- 'theodolitelaw40.DriftCosts': WHATEVER THE INPUT: true; the input reads as it did. -/
def driftCostsSpec : ChangeSpec := { name := "driftCosts", fn := fun _ => fun
  | [d1, d2, d3, d4, d5, d6, d7] => { results := [.lit (.bool true)], args := [d1, d2, d3, d4, d5, d6, d7] }
  | _ => none }
def driftCostsRow : OpenClaim := { program := "ytemmnpgebpffbaa", sum := "b48855c7df8702a9292d3c21b0638840b0efbe94f121b0fc65f0cb690458c5b4", func := "theodolite/theodolitelaw40.DriftCosts", spec := "driftCosts", inPlace := ["math/bits.Sub64"], unfollowed := true, recurses := true, named := ["math/bits.divideError", "math/bits.overflowError"], apart := false }
def DriftCostsSaid : Prop := driftCostsRow.holds Try.pinned (OpenSpec.ofChange driftCostsSpec)

/-- ITS FALSE NEIGHBOUR: 'it returns false'. Refute it at one input. -/
def driftCostsWrong : ChangeSpec := { name := "driftCosts", fn := fun _ => fun
  | [d1, d2, d3, d4, d5, d6, d7] => { results := [.lit (.bool false)], args := [d1, d2, d3, d4, d5, d6, d7] }
  | _ => none }
def DriftCostsWrongFalsely : Prop := driftCostsRow.holds Try.pinned (OpenSpec.ofChange driftCostsWrong)

/-- 'theodolitelaw40.DriftCheaper': WHATEVER THE INPUT: true; the input reads as it did. -/
def driftCheaperSpec : ChangeSpec := { name := "driftCheaper", fn := fun _ => fun
  | [d1, d2, d3, d4, d5, d6, d7] => { results := [.lit (.bool true)], args := [d1, d2, d3, d4, d5, d6, d7] }
  | _ => none }
def driftCheaperRow : OpenClaim := { program := "ytemmnpgebpffbaa", sum := "b48855c7df8702a9292d3c21b0638840b0efbe94f121b0fc65f0cb690458c5b4", func := "theodolite/theodolitelaw40.DriftCheaper", spec := "driftCheaper", inPlace := ["math/bits.Sub64"], unfollowed := true, recurses := true, named := ["math/bits.divideError", "math/bits.overflowError"], apart := false }
def DriftCheaperSaid : Prop := driftCheaperRow.holds Try.pinned (OpenSpec.ofChange driftCheaperSpec)

/-- ITS FALSE NEIGHBOUR: 'it returns false'. Refute it at one input. -/
def driftCheaperWrong : ChangeSpec := { name := "driftCheaper", fn := fun _ => fun
  | [d1, d2, d3, d4, d5, d6, d7] => { results := [.lit (.bool false)], args := [d1, d2, d3, d4, d5, d6, d7] }
  | _ => none }
def DriftCheaperWrongFalsely : Prop := driftCheaperRow.holds Try.pinned (OpenSpec.ofChange driftCheaperWrong)

/-- 'theodolitelaw40.DriftStill': WHATEVER THE INPUT: true; the input reads as it did. -/
def driftStillSpec : ChangeSpec := { name := "driftStill", fn := fun _ => fun
  | [d1, d2, d3, d4, d5, d6] => { results := [.lit (.bool true)], args := [d1, d2, d3, d4, d5, d6] }
  | _ => none }
def driftStillRow : OpenClaim := { program := "ytemmnpgebpffbaa", sum := "b48855c7df8702a9292d3c21b0638840b0efbe94f121b0fc65f0cb690458c5b4", func := "theodolite/theodolitelaw40.DriftStill", spec := "driftStill", inPlace := ["math/bits.Sub64"], unfollowed := true, recurses := true, named := ["math/bits.divideError", "math/bits.overflowError"], apart := false }
def DriftStillSaid : Prop := driftStillRow.holds Try.pinned (OpenSpec.ofChange driftStillSpec)

/-- ITS FALSE NEIGHBOUR: 'it returns false'. Refute it at one input. -/
def driftStillWrong : ChangeSpec := { name := "driftStill", fn := fun _ => fun
  | [d1, d2, d3, d4, d5, d6] => { results := [.lit (.bool false)], args := [d1, d2, d3, d4, d5, d6] }
  | _ => none }
def DriftStillWrongFalsely : Prop := driftStillRow.holds Try.pinned (OpenSpec.ofChange driftStillWrong)

/- THE SECOND FORM. 'bulk': how many values and letters a reading holds, each counted each time it is reached (what is shared counts as often as it is met; a slice's spare places count too). A statement '..UptoSaid' is the law's where the arguments, and the package variables that the reading takes, are together of bulk at most 1048576: NARROWER than '..Said'. Prove '..Said' where nothing that the law and all that it calls make is longer than what came in: it says more and counts as full. Else prove '..UptoSaid'. A law counts once. -/
mutual
def uptoBulk {H : Type} : DataW H → Nat
  | .lit (.string bytes) => bytes.length + 1
  | .lit _ => 1
  | .nil => 1
  | .ptr d => uptoBulk d + 1
  | .slice elems spare => uptoBulkAll elems + uptoBulkAll spare + 1
  | .agg parts => uptoBulkAll parts + 1
  | .iface _ d => uptoBulk d + 1
  | .map entries => uptoBulkEntries entries + 1
  | .held _ => 1
def uptoBulkAll {H : Type} : List (DataW H) → Nat
  | [] => 0
  | d :: r => uptoBulk d + uptoBulkAll r
def uptoBulkEntries {H : Type} : List (Lit × DataW H) → Nat
  | [] => 0
  | x :: r => uptoBulkEntry x + uptoBulkEntries r
def uptoBulkEntry {H : Type} : Lit × DataW H → Nat
  | (.string bytes, d) => bytes.length + uptoBulk d + 1
  | (_, d) => uptoBulk d + 1
 end
def uptoSmall : (H : Type) → List (DataW H) → Bool := fun _ ds => decide (uptoBulkAll ds ≤ 1048576)
def OpenSpec.upto (s : _root_.Go.ChangeSpec) : _root_.Go.OpenSpec := { _root_.Go.OpenSpec.ofChange s with cond := some uptoSmall }

/-- 'theodolitelaw21.MatchCosts', WHERE WHAT IT READS IS OF BULK AT MOST 1048576: true; the input reads as it did. -/
def matchCostsUptoRow : OpenClaim := { program := "ytemmnpgebpffbaa", sum := "b48855c7df8702a9292d3c21b0638840b0efbe94f121b0fc65f0cb690458c5b4", func := "theodolite/theodolitelaw21.MatchCosts", spec := "matchCosts", inPlace := ["math/bits.Sub64"], unfollowed := true, recurses := true, named := ["math/bits.divideError", "math/bits.overflowError"], apart := false, narrowed := true }
def MatchCostsUptoSaid : Prop := matchCostsUptoRow.holds Try.pinned (OpenSpec.upto matchCostsSpec)

/-- 'theodolitelaw21.MatchApart', WHERE WHAT IT READS IS OF BULK AT MOST 1048576: true; the input reads as it did. -/
def matchApartUptoRow : OpenClaim := { program := "ytemmnpgebpffbaa", sum := "b48855c7df8702a9292d3c21b0638840b0efbe94f121b0fc65f0cb690458c5b4", func := "theodolite/theodolitelaw21.MatchApart", spec := "matchApart", inPlace := ["math/bits.Sub64"], unfollowed := true, recurses := true, named := ["math/bits.divideError", "math/bits.overflowError"], apart := false, narrowed := true }
def MatchApartUptoSaid : Prop := matchApartUptoRow.holds Try.pinned (OpenSpec.upto matchApartSpec)

/-- 'theodolitelaw21.MatchClear', WHERE WHAT IT READS IS OF BULK AT MOST 1048576: true; the input reads as it did. -/
def matchClearUptoRow : OpenClaim := { program := "ytemmnpgebpffbaa", sum := "b48855c7df8702a9292d3c21b0638840b0efbe94f121b0fc65f0cb690458c5b4", func := "theodolite/theodolitelaw21.MatchClear", spec := "matchClear", inPlace := ["math/bits.Sub64"], unfollowed := true, recurses := true, named := ["math/bits.divideError", "math/bits.overflowError"], apart := false, narrowed := true }
def MatchClearUptoSaid : Prop := matchClearUptoRow.holds Try.pinned (OpenSpec.upto matchClearSpec)

/-- 'theodolitelaw21.MatchFree', WHERE WHAT IT READS IS OF BULK AT MOST 1048576: true; the input reads as it did. -/
def matchFreeUptoRow : OpenClaim := { program := "ytemmnpgebpffbaa", sum := "b48855c7df8702a9292d3c21b0638840b0efbe94f121b0fc65f0cb690458c5b4", func := "theodolite/theodolitelaw21.MatchFree", spec := "matchFree", inPlace := ["math/bits.Sub64"], unfollowed := true, recurses := true, named := ["math/bits.divideError", "math/bits.overflowError"], apart := false, narrowed := true }
def MatchFreeUptoSaid : Prop := matchFreeUptoRow.holds Try.pinned (OpenSpec.upto matchFreeSpec)

/-- 'theodolitelaw40.DriftCosts', WHERE WHAT IT READS IS OF BULK AT MOST 1048576: true; the input reads as it did. -/
def driftCostsUptoRow : OpenClaim := { program := "ytemmnpgebpffbaa", sum := "b48855c7df8702a9292d3c21b0638840b0efbe94f121b0fc65f0cb690458c5b4", func := "theodolite/theodolitelaw40.DriftCosts", spec := "driftCosts", inPlace := ["math/bits.Sub64"], unfollowed := true, recurses := true, named := ["math/bits.divideError", "math/bits.overflowError"], apart := false, narrowed := true }
def DriftCostsUptoSaid : Prop := driftCostsUptoRow.holds Try.pinned (OpenSpec.upto driftCostsSpec)

/-- 'theodolitelaw40.DriftCheaper', WHERE WHAT IT READS IS OF BULK AT MOST 1048576: true; the input reads as it did. -/
def driftCheaperUptoRow : OpenClaim := { program := "ytemmnpgebpffbaa", sum := "b48855c7df8702a9292d3c21b0638840b0efbe94f121b0fc65f0cb690458c5b4", func := "theodolite/theodolitelaw40.DriftCheaper", spec := "driftCheaper", inPlace := ["math/bits.Sub64"], unfollowed := true, recurses := true, named := ["math/bits.divideError", "math/bits.overflowError"], apart := false, narrowed := true }
def DriftCheaperUptoSaid : Prop := driftCheaperUptoRow.holds Try.pinned (OpenSpec.upto driftCheaperSpec)

/-- 'theodolitelaw40.DriftStill', WHERE WHAT IT READS IS OF BULK AT MOST 1048576: true; the input reads as it did. -/
def driftStillUptoRow : OpenClaim := { program := "ytemmnpgebpffbaa", sum := "b48855c7df8702a9292d3c21b0638840b0efbe94f121b0fc65f0cb690458c5b4", func := "theodolite/theodolitelaw40.DriftStill", spec := "driftStill", inPlace := ["math/bits.Sub64"], unfollowed := true, recurses := true, named := ["math/bits.divideError", "math/bits.overflowError"], apart := false, narrowed := true }
def DriftStillUptoSaid : Prop := driftStillUptoRow.holds Try.pinned (OpenSpec.upto driftStillSpec)

end Rows
end Go.Proofs.Ytemmnpgebpffbaa
