/-
  No cell of these rows narrows 'for every input' (looked for: loops, veiled, ifaces, maps, wideKeys, modest, calm, conditions, laid).
  DERIVED. THE GIVEN ROWS OF THIS SEAT. 7 by the template 'for every input the law returns true; each argument reads behind the call as it read before'; 0 by the template 'total and deterministic' (their statements: YtbhchphfmhmabaaGreatTotals.lean).
  GIVEN WITH THE SEED: the statements are not yours to turn. If you find one false, say at which input.
  Laid BY PROGRAM, IN A SANDBOX (cutbox-rows.mjs): the forced cells as the released guide's own fill.sh prints them over the translation b0c5f84cb114877c… (all of the seat's roots in one cut). By AI agents, Wed Nov 11 2026. No macro, syntax, notation, axiom, sorry.
-/
import Derived.Test.YtbhchphfmhmabaaGreatChecked
import GoSem.Claim
import GoSem.ClaimJoined
import GoSem.ClaimMapViews
import Derived.JoinedTies
import Derived.KernelRfl
namespace Go.Proofs.YtbhchphfmhmabaaGreat
/- THE CELL 'sum', in the pinned program and in every row, IS THE sha256 OF THE DUMP (.gsa) THAT YtbhchphfmhmabaaGreatProg.lean LOADS. Nothing in Lean hashes anything: it is a label: what it is worth is what the hold of that sum in a sandbox is worth. -/
noncomputable def Tryz.pinned : Pinned := { name := "ytbhchphfmhmabaagreat", sum := "b0c5f84cb114877c8773f929429038813ce7e49b05de77ee99d3034d28dd253a", checked := Tryz.checked }
namespace Rows
def none {H : Type} : Left H := { results := [], args := [] }

/-- 'theodolitelaw28.DrivePieces': WHATEVER THE INPUT: true; the input reads as it did. -/
def drivePiecesSpec : ChangeSpec := { name := "drivePieces", fn := fun _ => fun
  | [d1, d2, d3, d4, d5, d6, d7] => { results := [.lit (.bool true)], args := [d1, d2, d3, d4, d5, d6, d7] }
  | _ => none }
def drivePiecesRow : OpenClaim := { program := "ytbhchphfmhmabaagreat", sum := "b0c5f84cb114877c8773f929429038813ce7e49b05de77ee99d3034d28dd253a", func := "theodolite/theodolitelaw28.DrivePieces", spec := "drivePieces", inPlace := ["math/bits.Sub64", "math/bits.Add64"], unfollowed := true, recurses := true, named := ["math/bits.divideError", "math/bits.overflowError"], apart := false }
def DrivePiecesSaid : Prop := drivePiecesRow.holds Tryz.pinned (OpenSpec.ofChange drivePiecesSpec)

/-- ITS FALSE NEIGHBOUR: 'it returns false'. Refute it at one input. -/
def drivePiecesWrong : ChangeSpec := { name := "drivePieces", fn := fun _ => fun
  | [d1, d2, d3, d4, d5, d6, d7] => { results := [.lit (.bool false)], args := [d1, d2, d3, d4, d5, d6, d7] }
  | _ => none }
def DrivePiecesWrongFalsely : Prop := drivePiecesRow.holds Tryz.pinned (OpenSpec.ofChange drivePiecesWrong)

/-- 'theodolitelaw28.DriveBound': WHATEVER THE INPUT: true; the input reads as it did. -/
def driveBoundSpec : ChangeSpec := { name := "driveBound", fn := fun _ => fun
  | [d1, d2, d3, d4, d5, d6] => { results := [.lit (.bool true)], args := [d1, d2, d3, d4, d5, d6] }
  | _ => none }
def driveBoundRow : OpenClaim := { program := "ytbhchphfmhmabaagreat", sum := "b0c5f84cb114877c8773f929429038813ce7e49b05de77ee99d3034d28dd253a", func := "theodolite/theodolitelaw28.DriveBound", spec := "driveBound", inPlace := ["math/bits.Sub64", "math/bits.Add64"], unfollowed := true, recurses := true, named := ["math/bits.divideError", "math/bits.overflowError"], apart := false }
def DriveBoundSaid : Prop := driveBoundRow.holds Tryz.pinned (OpenSpec.ofChange driveBoundSpec)

/-- ITS FALSE NEIGHBOUR: 'it returns false'. Refute it at one input. -/
def driveBoundWrong : ChangeSpec := { name := "driveBound", fn := fun _ => fun
  | [d1, d2, d3, d4, d5, d6] => { results := [.lit (.bool false)], args := [d1, d2, d3, d4, d5, d6] }
  | _ => none }
def DriveBoundWrongFalsely : Prop := driveBoundRow.holds Tryz.pinned (OpenSpec.ofChange driveBoundWrong)

/-- 'theodolitelaw28.DriveNone': WHATEVER THE INPUT: true; the input reads as it did. -/
def driveNoneSpec : ChangeSpec := { name := "driveNone", fn := fun _ => fun
  | [d1, d2, d3, d4] => { results := [.lit (.bool true)], args := [d1, d2, d3, d4] }
  | _ => none }
def driveNoneRow : OpenClaim := { program := "ytbhchphfmhmabaagreat", sum := "b0c5f84cb114877c8773f929429038813ce7e49b05de77ee99d3034d28dd253a", func := "theodolite/theodolitelaw28.DriveNone", spec := "driveNone", inPlace := ["math/bits.Sub64", "math/bits.Add64"], unfollowed := true, recurses := true, named := ["math/bits.divideError", "math/bits.overflowError"], apart := false }
def DriveNoneSaid : Prop := driveNoneRow.holds Tryz.pinned (OpenSpec.ofChange driveNoneSpec)

/-- ITS FALSE NEIGHBOUR: 'it returns false'. Refute it at one input. -/
def driveNoneWrong : ChangeSpec := { name := "driveNone", fn := fun _ => fun
  | [d1, d2, d3, d4] => { results := [.lit (.bool false)], args := [d1, d2, d3, d4] }
  | _ => none }
def DriveNoneWrongFalsely : Prop := driveNoneRow.holds Tryz.pinned (OpenSpec.ofChange driveNoneWrong)

/-- 'theodolitelaw28.DriveTells': WHATEVER THE INPUT: true; the input reads as it did. -/
def driveTellsSpec : ChangeSpec := { name := "driveTells", fn := fun _ => fun
  | [d1, d2, d3, d4, d5, d6] => { results := [.lit (.bool true)], args := [d1, d2, d3, d4, d5, d6] }
  | _ => none }
def driveTellsRow : OpenClaim := { program := "ytbhchphfmhmabaagreat", sum := "b0c5f84cb114877c8773f929429038813ce7e49b05de77ee99d3034d28dd253a", func := "theodolite/theodolitelaw28.DriveTells", spec := "driveTells", inPlace := ["math/bits.Sub64", "math/bits.Add64"], unfollowed := true, recurses := true, named := ["math/bits.divideError", "math/bits.overflowError"], apart := false }
def DriveTellsSaid : Prop := driveTellsRow.holds Tryz.pinned (OpenSpec.ofChange driveTellsSpec)

/-- ITS FALSE NEIGHBOUR: 'it returns false'. Refute it at one input. -/
def driveTellsWrong : ChangeSpec := { name := "driveTells", fn := fun _ => fun
  | [d1, d2, d3, d4, d5, d6] => { results := [.lit (.bool false)], args := [d1, d2, d3, d4, d5, d6] }
  | _ => none }
def DriveTellsWrongFalsely : Prop := driveTellsRow.holds Tryz.pinned (OpenSpec.ofChange driveTellsWrong)

/-- 'theodolitelaw43.ReplayTells': WHATEVER THE INPUT: true; the input reads as it did. -/
def replayTellsSpec : ChangeSpec := { name := "replayTells", fn := fun _ => fun
  | [d1, d2, d3, d4, d5, d6, d7] => { results := [.lit (.bool true)], args := [d1, d2, d3, d4, d5, d6, d7] }
  | _ => none }
def replayTellsRow : OpenClaim := { program := "ytbhchphfmhmabaagreat", sum := "b0c5f84cb114877c8773f929429038813ce7e49b05de77ee99d3034d28dd253a", func := "theodolite/theodolitelaw43.ReplayTells", spec := "replayTells", inPlace := ["math/bits.Sub64", "math/bits.Add64"], unfollowed := true, recurses := true, named := ["math/bits.divideError", "math/bits.overflowError"], apart := false }
def ReplayTellsSaid : Prop := replayTellsRow.holds Tryz.pinned (OpenSpec.ofChange replayTellsSpec)

/-- ITS FALSE NEIGHBOUR: 'it returns false'. Refute it at one input. -/
def replayTellsWrong : ChangeSpec := { name := "replayTells", fn := fun _ => fun
  | [d1, d2, d3, d4, d5, d6, d7] => { results := [.lit (.bool false)], args := [d1, d2, d3, d4, d5, d6, d7] }
  | _ => none }
def ReplayTellsWrongFalsely : Prop := replayTellsRow.holds Tryz.pinned (OpenSpec.ofChange replayTellsWrong)

/-- 'theodolitelaw43.ReplaySame': WHATEVER THE INPUT: true; the input reads as it did. -/
def replaySameSpec : ChangeSpec := { name := "replaySame", fn := fun _ => fun
  | [d1, d2, d3, d4, d5, d6, d7, d8] => { results := [.lit (.bool true)], args := [d1, d2, d3, d4, d5, d6, d7, d8] }
  | _ => none }
def replaySameRow : OpenClaim := { program := "ytbhchphfmhmabaagreat", sum := "b0c5f84cb114877c8773f929429038813ce7e49b05de77ee99d3034d28dd253a", func := "theodolite/theodolitelaw43.ReplaySame", spec := "replaySame", inPlace := ["math/bits.Sub64", "math/bits.Add64"], unfollowed := true, recurses := true, named := ["math/bits.divideError", "math/bits.overflowError"], apart := false }
def ReplaySameSaid : Prop := replaySameRow.holds Tryz.pinned (OpenSpec.ofChange replaySameSpec)

/-- ITS FALSE NEIGHBOUR: 'it returns false'. Refute it at one input. -/
def replaySameWrong : ChangeSpec := { name := "replaySame", fn := fun _ => fun
  | [d1, d2, d3, d4, d5, d6, d7, d8] => { results := [.lit (.bool false)], args := [d1, d2, d3, d4, d5, d6, d7, d8] }
  | _ => none }
def ReplaySameWrongFalsely : Prop := replaySameRow.holds Tryz.pinned (OpenSpec.ofChange replaySameWrong)

/-- 'theodolitelaw43.ReplayLost': WHATEVER THE INPUT: true; the input reads as it did. -/
def replayLostSpec : ChangeSpec := { name := "replayLost", fn := fun _ => fun
  | [d1, d2, d3, d4, d5, d6, d7, d8, d9] => { results := [.lit (.bool true)], args := [d1, d2, d3, d4, d5, d6, d7, d8, d9] }
  | _ => none }
def replayLostRow : OpenClaim := { program := "ytbhchphfmhmabaagreat", sum := "b0c5f84cb114877c8773f929429038813ce7e49b05de77ee99d3034d28dd253a", func := "theodolite/theodolitelaw43.ReplayLost", spec := "replayLost", inPlace := ["math/bits.Sub64", "math/bits.Add64"], unfollowed := true, recurses := true, named := ["math/bits.divideError", "math/bits.overflowError"], apart := false }
def ReplayLostSaid : Prop := replayLostRow.holds Tryz.pinned (OpenSpec.ofChange replayLostSpec)

/-- ITS FALSE NEIGHBOUR: 'it returns false'. Refute it at one input. -/
def replayLostWrong : ChangeSpec := { name := "replayLost", fn := fun _ => fun
  | [d1, d2, d3, d4, d5, d6, d7, d8, d9] => { results := [.lit (.bool false)], args := [d1, d2, d3, d4, d5, d6, d7, d8, d9] }
  | _ => none }
def ReplayLostWrongFalsely : Prop := replayLostRow.holds Tryz.pinned (OpenSpec.ofChange replayLostWrong)

/- THE SECOND FORM. 'bulk': how many values and letters a reading holds, each counted each time it is reached (what is shared counts as often as it is met; a slice's spare places count too). A statement '..UptoSaid' is the law's where the arguments, and the package variables that the reading takes, are together of bulk at most 1048576: NARROWER than '..Said'. Prove '..Said' where nothing that the law and all that it calls make is longer than what came in: it says more and counts as full. Else prove '..UptoSaid'. A law counts once. -/
mutual
def uptoBulk {H : Type} : DataW H → Nat
  | .lit (.string bytes) => bytes.length + 1
  | .lit _ => 1
  | .nil => 1
  | .ptr d => uptoBulk d + 1
  | .slice elems spare => uptoBulkAll elems + uptoBulkAll spare + 1
  | .agg parts => uptoBulkAll parts + 1
  | .iface _ d => uptoBulk d + 1
  | .map entries => uptoBulkEntries entries + 1
  | .held _ => 1
def uptoBulkAll {H : Type} : List (DataW H) → Nat
  | [] => 0
  | d :: r => uptoBulk d + uptoBulkAll r
def uptoBulkEntries {H : Type} : List (Lit × DataW H) → Nat
  | [] => 0
  | x :: r => uptoBulkEntry x + uptoBulkEntries r
def uptoBulkEntry {H : Type} : Lit × DataW H → Nat
  | (.string bytes, d) => bytes.length + uptoBulk d + 1
  | (_, d) => uptoBulk d + 1
 end
def uptoSmall : (H : Type) → List (DataW H) → Bool := fun _ ds => decide (uptoBulkAll ds ≤ 1048576)
def OpenSpec.upto (s : _root_.Go.ChangeSpec) : _root_.Go.OpenSpec := { _root_.Go.OpenSpec.ofChange s with cond := some uptoSmall }

/-- 'theodolitelaw28.DrivePieces', WHERE WHAT IT READS IS OF BULK AT MOST 1048576: true; the input reads as it did. -/
def drivePiecesUptoRow : OpenClaim := { program := "ytbhchphfmhmabaagreat", sum := "b0c5f84cb114877c8773f929429038813ce7e49b05de77ee99d3034d28dd253a", func := "theodolite/theodolitelaw28.DrivePieces", spec := "drivePieces", inPlace := ["math/bits.Sub64", "math/bits.Add64"], unfollowed := true, recurses := true, named := ["math/bits.divideError", "math/bits.overflowError"], apart := false, narrowed := true }
def DrivePiecesUptoSaid : Prop := drivePiecesUptoRow.holds Tryz.pinned (OpenSpec.upto drivePiecesSpec)

/-- 'theodolitelaw28.DriveBound', WHERE WHAT IT READS IS OF BULK AT MOST 1048576: true; the input reads as it did. -/
def driveBoundUptoRow : OpenClaim := { program := "ytbhchphfmhmabaagreat", sum := "b0c5f84cb114877c8773f929429038813ce7e49b05de77ee99d3034d28dd253a", func := "theodolite/theodolitelaw28.DriveBound", spec := "driveBound", inPlace := ["math/bits.Sub64", "math/bits.Add64"], unfollowed := true, recurses := true, named := ["math/bits.divideError", "math/bits.overflowError"], apart := false, narrowed := true }
def DriveBoundUptoSaid : Prop := driveBoundUptoRow.holds Tryz.pinned (OpenSpec.upto driveBoundSpec)

/-- 'theodolitelaw28.DriveNone', WHERE WHAT IT READS IS OF BULK AT MOST 1048576: true; the input reads as it did. -/
def driveNoneUptoRow : OpenClaim := { program := "ytbhchphfmhmabaagreat", sum := "b0c5f84cb114877c8773f929429038813ce7e49b05de77ee99d3034d28dd253a", func := "theodolite/theodolitelaw28.DriveNone", spec := "driveNone", inPlace := ["math/bits.Sub64", "math/bits.Add64"], unfollowed := true, recurses := true, named := ["math/bits.divideError", "math/bits.overflowError"], apart := false, narrowed := true }
def DriveNoneUptoSaid : Prop := driveNoneUptoRow.holds Tryz.pinned (OpenSpec.upto driveNoneSpec)

/-- 'theodolitelaw28.DriveTells', WHERE WHAT IT READS IS OF BULK AT MOST 1048576: true; the input reads as it did. -/
def driveTellsUptoRow : OpenClaim := { program := "ytbhchphfmhmabaagreat", sum := "b0c5f84cb114877c8773f929429038813ce7e49b05de77ee99d3034d28dd253a", func := "theodolite/theodolitelaw28.DriveTells", spec := "driveTells", inPlace := ["math/bits.Sub64", "math/bits.Add64"], unfollowed := true, recurses := true, named := ["math/bits.divideError", "math/bits.overflowError"], apart := false, narrowed := true }
def DriveTellsUptoSaid : Prop := driveTellsUptoRow.holds Tryz.pinned (OpenSpec.upto driveTellsSpec)

/-- 'theodolitelaw43.ReplayTells', WHERE WHAT IT READS IS OF BULK AT MOST 1048576: true; the input reads as it did. -/
def replayTellsUptoRow : OpenClaim := { program := "ytbhchphfmhmabaagreat", sum := "b0c5f84cb114877c8773f929429038813ce7e49b05de77ee99d3034d28dd253a", func := "theodolite/theodolitelaw43.ReplayTells", spec := "replayTells", inPlace := ["math/bits.Sub64", "math/bits.Add64"], unfollowed := true, recurses := true, named := ["math/bits.divideError", "math/bits.overflowError"], apart := false, narrowed := true }
def ReplayTellsUptoSaid : Prop := replayTellsUptoRow.holds Tryz.pinned (OpenSpec.upto replayTellsSpec)

/-- 'theodolitelaw43.ReplaySame', WHERE WHAT IT READS IS OF BULK AT MOST 1048576: true; the input reads as it did. -/
def replaySameUptoRow : OpenClaim := { program := "ytbhchphfmhmabaagreat", sum := "b0c5f84cb114877c8773f929429038813ce7e49b05de77ee99d3034d28dd253a", func := "theodolite/theodolitelaw43.ReplaySame", spec := "replaySame", inPlace := ["math/bits.Sub64", "math/bits.Add64"], unfollowed := true, recurses := true, named := ["math/bits.divideError", "math/bits.overflowError"], apart := false, narrowed := true }
def ReplaySameUptoSaid : Prop := replaySameUptoRow.holds Tryz.pinned (OpenSpec.upto replaySameSpec)

/-- 'theodolitelaw43.ReplayLost', WHERE WHAT IT READS IS OF BULK AT MOST 1048576: true; the input reads as it did. -/
def replayLostUptoRow : OpenClaim := { program := "ytbhchphfmhmabaagreat", sum := "b0c5f84cb114877c8773f929429038813ce7e49b05de77ee99d3034d28dd253a", func := "theodolite/theodolitelaw43.ReplayLost", spec := "replayLost", inPlace := ["math/bits.Sub64", "math/bits.Add64"], unfollowed := true, recurses := true, named := ["math/bits.divideError", "math/bits.overflowError"], apart := false, narrowed := true }
def ReplayLostUptoSaid : Prop := replayLostUptoRow.holds Tryz.pinned (OpenSpec.upto replayLostSpec)

end Rows
end Go.Proofs.YtbhchphfmhmabaaGreat
