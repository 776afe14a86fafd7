/-
  No cell of these rows narrows 'for every input' (looked for: loops, veiled, ifaces, maps, wideKeys, modest, calm, conditions, laid).
  DERIVED. THE GIVEN ROWS OF THIS SEAT. 10 by the template 'for every input the law returns true; each argument reads behind the call as it read before'; 0 by the template 'total and deterministic' (their statements: YtgingkckdmdloaaTotals.lean).
  GIVEN WITH THE SEED: the statements are not yours to turn. If you find one false, say at which input.
  Laid BY PROGRAM, IN A SANDBOX (cutbox-rows.mjs): the forced cells as the released guide's own fill.sh prints them over the translation 0578f7c9fb27511e… (all of the seat's roots in one cut). By AI agents, Wed Nov 11 2026. No macro, syntax, notation, axiom, sorry.
-/
import Derived.Test.YtgingkckdmdloaaChecked
import GoSem.Claim
import GoSem.ClaimJoined
import GoSem.ClaimMapViews
import Derived.JoinedTies
import Derived.KernelRfl
namespace Go.Proofs.Ytgingkckdmdloaa
/- THE CELL 'sum', in the pinned program and in every row, IS THE sha256 OF THE DUMP (.gsa) THAT YtgingkckdmdloaaProg.lean LOADS. Nothing in Lean hashes anything: it is a label: what it is worth is what the hold of that sum in a sandbox is worth. -/
noncomputable def Try.pinned : Pinned := { name := "ytgingkckdmdloaa", sum := "0578f7c9fb27511e163d2eb43c827c64b288145e54bd1a8cc6813f79ef600132", checked := Try.checked }
namespace Rows
def none {H : Type} : Left H := { results := [], args := [] }

/-- 'theodolitelaw23.ClearanceTakes': WHATEVER THE INPUT: true; the input reads as it did. -/
def clearanceTakesSpec : ChangeSpec := { name := "clearanceTakes", fn := fun _ => fun
  | [d1, d2] => { results := [.lit (.bool true)], args := [d1, d2] }
  | _ => none }
def clearanceTakesRow : OpenClaim := { program := "ytgingkckdmdloaa", sum := "0578f7c9fb27511e163d2eb43c827c64b288145e54bd1a8cc6813f79ef600132", func := "theodolite/theodolitelaw23.ClearanceTakes", spec := "clearanceTakes", apart := false }
def ClearanceTakesSaid : Prop := clearanceTakesRow.holds Try.pinned (OpenSpec.ofChange clearanceTakesSpec)

/-- ITS FALSE NEIGHBOUR: 'it returns false'. Refute it at one input. -/
def clearanceTakesWrong : ChangeSpec := { name := "clearanceTakes", fn := fun _ => fun
  | [d1, d2] => { results := [.lit (.bool false)], args := [d1, d2] }
  | _ => none }
def ClearanceTakesWrongFalsely : Prop := clearanceTakesRow.holds Try.pinned (OpenSpec.ofChange clearanceTakesWrong)

/-- 'theodolitelaw23.ClearanceJumps': WHATEVER THE INPUT: true; the input reads as it did. -/
def clearanceJumpsSpec : ChangeSpec := { name := "clearanceJumps", fn := fun _ => fun
  | [d1, d2] => { results := [.lit (.bool true)], args := [d1, d2] }
  | _ => none }
def clearanceJumpsRow : OpenClaim := { program := "ytgingkckdmdloaa", sum := "0578f7c9fb27511e163d2eb43c827c64b288145e54bd1a8cc6813f79ef600132", func := "theodolite/theodolitelaw23.ClearanceJumps", spec := "clearanceJumps", apart := false }
def ClearanceJumpsSaid : Prop := clearanceJumpsRow.holds Try.pinned (OpenSpec.ofChange clearanceJumpsSpec)

/-- ITS FALSE NEIGHBOUR: 'it returns false'. Refute it at one input. -/
def clearanceJumpsWrong : ChangeSpec := { name := "clearanceJumps", fn := fun _ => fun
  | [d1, d2] => { results := [.lit (.bool false)], args := [d1, d2] }
  | _ => none }
def ClearanceJumpsWrongFalsely : Prop := clearanceJumpsRow.holds Try.pinned (OpenSpec.ofChange clearanceJumpsWrong)

/-- 'theodolitelaw23.ClearanceTwice': WHATEVER THE INPUT: true; the input reads as it did. -/
def clearanceTwiceSpec : ChangeSpec := { name := "clearanceTwice", fn := fun _ => fun
  | [d1, d2] => { results := [.lit (.bool true)], args := [d1, d2] }
  | _ => none }
def clearanceTwiceRow : OpenClaim := { program := "ytgingkckdmdloaa", sum := "0578f7c9fb27511e163d2eb43c827c64b288145e54bd1a8cc6813f79ef600132", func := "theodolite/theodolitelaw23.ClearanceTwice", spec := "clearanceTwice", apart := false }
def ClearanceTwiceSaid : Prop := clearanceTwiceRow.holds Try.pinned (OpenSpec.ofChange clearanceTwiceSpec)

/-- ITS FALSE NEIGHBOUR: 'it returns false'. Refute it at one input. -/
def clearanceTwiceWrong : ChangeSpec := { name := "clearanceTwice", fn := fun _ => fun
  | [d1, d2] => { results := [.lit (.bool false)], args := [d1, d2] }
  | _ => none }
def ClearanceTwiceWrongFalsely : Prop := clearanceTwiceRow.holds Try.pinned (OpenSpec.ofChange clearanceTwiceWrong)

/-- 'theodolitelaw07.RiceFolds': WHATEVER THE INPUT: true; the input reads as it did. -/
def riceFoldsSpec : ChangeSpec := { name := "riceFolds", fn := fun _ => fun
  | [d1, d2, d3] => { results := [.lit (.bool true)], args := [d1, d2, d3] }
  | _ => none }
def riceFoldsRow : OpenClaim := { program := "ytgingkckdmdloaa", sum := "0578f7c9fb27511e163d2eb43c827c64b288145e54bd1a8cc6813f79ef600132", func := "theodolite/theodolitelaw07.RiceFolds", spec := "riceFolds", unfollowed := true, recurses := true, apart := false }
def RiceFoldsSaid : Prop := riceFoldsRow.holds Try.pinned (OpenSpec.ofChange riceFoldsSpec)

/-- ITS FALSE NEIGHBOUR: 'it returns false'. Refute it at one input. -/
def riceFoldsWrong : ChangeSpec := { name := "riceFolds", fn := fun _ => fun
  | [d1, d2, d3] => { results := [.lit (.bool false)], args := [d1, d2, d3] }
  | _ => none }
def RiceFoldsWrongFalsely : Prop := riceFoldsRow.holds Try.pinned (OpenSpec.ofChange riceFoldsWrong)

/-- 'theodolitelaw07.RiceCodes': WHATEVER THE INPUT: true; the input reads as it did. -/
def riceCodesSpec : ChangeSpec := { name := "riceCodes", fn := fun _ => fun
  | [d1, d2] => { results := [.lit (.bool true)], args := [d1, d2] }
  | _ => none }
def riceCodesRow : OpenClaim := { program := "ytgingkckdmdloaa", sum := "0578f7c9fb27511e163d2eb43c827c64b288145e54bd1a8cc6813f79ef600132", func := "theodolite/theodolitelaw07.RiceCodes", spec := "riceCodes", unfollowed := true, recurses := true, apart := false }
def RiceCodesSaid : Prop := riceCodesRow.holds Try.pinned (OpenSpec.ofChange riceCodesSpec)

/-- ITS FALSE NEIGHBOUR: 'it returns false'. Refute it at one input. -/
def riceCodesWrong : ChangeSpec := { name := "riceCodes", fn := fun _ => fun
  | [d1, d2] => { results := [.lit (.bool false)], args := [d1, d2] }
  | _ => none }
def RiceCodesWrongFalsely : Prop := riceCodesRow.holds Try.pinned (OpenSpec.ofChange riceCodesWrong)

/-- 'theodolitelaw07.RiceRows': WHATEVER THE INPUT: true; the input reads as it did. -/
def riceRowsSpec : ChangeSpec := { name := "riceRows", fn := fun _ => fun
  | [d] => { results := [.lit (.bool true)], args := [d] }
  | _ => none }
def riceRowsRow : OpenClaim := { program := "ytgingkckdmdloaa", sum := "0578f7c9fb27511e163d2eb43c827c64b288145e54bd1a8cc6813f79ef600132", func := "theodolite/theodolitelaw07.RiceRows", spec := "riceRows", unfollowed := true, recurses := true, apart := false }
def RiceRowsSaid : Prop := riceRowsRow.holds Try.pinned (OpenSpec.ofChange riceRowsSpec)

/-- ITS FALSE NEIGHBOUR: 'it returns false'. Refute it at one input. -/
def riceRowsWrong : ChangeSpec := { name := "riceRows", fn := fun _ => fun
  | [d] => { results := [.lit (.bool false)], args := [d] }
  | _ => none }
def RiceRowsWrongFalsely : Prop := riceRowsRow.holds Try.pinned (OpenSpec.ofChange riceRowsWrong)

/-- 'theodolitelaw07.RiceOne': WHATEVER THE INPUT: true; the input reads as it did. -/
def riceOneSpec : ChangeSpec := { name := "riceOne", fn := fun _ => fun
  | [d1, d2] => { results := [.lit (.bool true)], args := [d1, d2] }
  | _ => none }
def riceOneRow : OpenClaim := { program := "ytgingkckdmdloaa", sum := "0578f7c9fb27511e163d2eb43c827c64b288145e54bd1a8cc6813f79ef600132", func := "theodolite/theodolitelaw07.RiceOne", spec := "riceOne", unfollowed := true, recurses := true, apart := false }
def RiceOneSaid : Prop := riceOneRow.holds Try.pinned (OpenSpec.ofChange riceOneSpec)

/-- ITS FALSE NEIGHBOUR: 'it returns false'. Refute it at one input. -/
def riceOneWrong : ChangeSpec := { name := "riceOne", fn := fun _ => fun
  | [d1, d2] => { results := [.lit (.bool false)], args := [d1, d2] }
  | _ => none }
def RiceOneWrongFalsely : Prop := riceOneRow.holds Try.pinned (OpenSpec.ofChange riceOneWrong)

/-- 'theodolitelaw08.TilePuts': WHATEVER THE INPUT: true; the input reads as it did. -/
def tilePutsSpec : ChangeSpec := { name := "tilePuts", fn := fun _ => fun
  | [d1, d2, d3] => { results := [.lit (.bool true)], args := [d1, d2, d3] }
  | _ => none }
def tilePutsRow : OpenClaim := { program := "ytgingkckdmdloaa", sum := "0578f7c9fb27511e163d2eb43c827c64b288145e54bd1a8cc6813f79ef600132", func := "theodolite/theodolitelaw08.TilePuts", spec := "tilePuts", unfollowed := true, recurses := true, apart := false }
def TilePutsSaid : Prop := tilePutsRow.holds Try.pinned (OpenSpec.ofChange tilePutsSpec)

/-- ITS FALSE NEIGHBOUR: 'it returns false'. Refute it at one input. -/
def tilePutsWrong : ChangeSpec := { name := "tilePuts", fn := fun _ => fun
  | [d1, d2, d3] => { results := [.lit (.bool false)], args := [d1, d2, d3] }
  | _ => none }
def TilePutsWrongFalsely : Prop := tilePutsRow.holds Try.pinned (OpenSpec.ofChange tilePutsWrong)

/-- 'theodolitelaw08.TileBack': WHATEVER THE INPUT: true; the input reads as it did. -/
def tileBackSpec : ChangeSpec := { name := "tileBack", fn := fun _ => fun
  | [d1, d2, d3, d4] => { results := [.lit (.bool true)], args := [d1, d2, d3, d4] }
  | _ => none }
def tileBackRow : OpenClaim := { program := "ytgingkckdmdloaa", sum := "0578f7c9fb27511e163d2eb43c827c64b288145e54bd1a8cc6813f79ef600132", func := "theodolite/theodolitelaw08.TileBack", spec := "tileBack", unfollowed := true, recurses := true, apart := false }
def TileBackSaid : Prop := tileBackRow.holds Try.pinned (OpenSpec.ofChange tileBackSpec)

/-- ITS FALSE NEIGHBOUR: 'it returns false'. Refute it at one input. -/
def tileBackWrong : ChangeSpec := { name := "tileBack", fn := fun _ => fun
  | [d1, d2, d3, d4] => { results := [.lit (.bool false)], args := [d1, d2, d3, d4] }
  | _ => none }
def TileBackWrongFalsely : Prop := tileBackRow.holds Try.pinned (OpenSpec.ofChange tileBackWrong)

/-- 'theodolitelaw08.TileCuts': WHATEVER THE INPUT: true; the input reads as it did. -/
def tileCutsSpec : ChangeSpec := { name := "tileCuts", fn := fun _ => fun
  | [d1, d2, d3, d4, d5] => { results := [.lit (.bool true)], args := [d1, d2, d3, d4, d5] }
  | _ => none }
def tileCutsRow : OpenClaim := { program := "ytgingkckdmdloaa", sum := "0578f7c9fb27511e163d2eb43c827c64b288145e54bd1a8cc6813f79ef600132", func := "theodolite/theodolitelaw08.TileCuts", spec := "tileCuts", unfollowed := true, recurses := true, apart := false }
def TileCutsSaid : Prop := tileCutsRow.holds Try.pinned (OpenSpec.ofChange tileCutsSpec)

/-- ITS FALSE NEIGHBOUR: 'it returns false'. Refute it at one input. -/
def tileCutsWrong : ChangeSpec := { name := "tileCuts", fn := fun _ => fun
  | [d1, d2, d3, d4, d5] => { results := [.lit (.bool false)], args := [d1, d2, d3, d4, d5] }
  | _ => none }
def TileCutsWrongFalsely : Prop := tileCutsRow.holds Try.pinned (OpenSpec.ofChange tileCutsWrong)

/- THE SECOND FORM. 'bulk': how many values and letters a reading holds, each counted each time it is reached (what is shared counts as often as it is met; a slice's spare places count too). A statement '..UptoSaid' is the law's where the arguments, and the package variables that the reading takes, are together of bulk at most 1048576: NARROWER than '..Said'. Prove '..Said' where nothing that the law and all that it calls make is longer than what came in: it says more and counts as full. Else prove '..UptoSaid'. A law counts once. -/
mutual
def uptoBulk {H : Type} : DataW H → Nat
  | .lit (.string bytes) => bytes.length + 1
  | .lit _ => 1
  | .nil => 1
  | .ptr d => uptoBulk d + 1
  | .slice elems spare => uptoBulkAll elems + uptoBulkAll spare + 1
  | .agg parts => uptoBulkAll parts + 1
  | .iface _ d => uptoBulk d + 1
  | .map entries => uptoBulkEntries entries + 1
  | .held _ => 1
def uptoBulkAll {H : Type} : List (DataW H) → Nat
  | [] => 0
  | d :: r => uptoBulk d + uptoBulkAll r
def uptoBulkEntries {H : Type} : List (Lit × DataW H) → Nat
  | [] => 0
  | x :: r => uptoBulkEntry x + uptoBulkEntries r
def uptoBulkEntry {H : Type} : Lit × DataW H → Nat
  | (.string bytes, d) => bytes.length + uptoBulk d + 1
  | (_, d) => uptoBulk d + 1
 end
def uptoSmall : (H : Type) → List (DataW H) → Bool := fun _ ds => decide (uptoBulkAll ds ≤ 1048576)
def OpenSpec.upto (s : _root_.Go.ChangeSpec) : _root_.Go.OpenSpec := { _root_.Go.OpenSpec.ofChange s with cond := some uptoSmall }

/-- 'theodolitelaw23.ClearanceTakes', WHERE WHAT IT READS IS OF BULK AT MOST 1048576: true; the input reads as it did. -/
def clearanceTakesUptoRow : OpenClaim := { program := "ytgingkckdmdloaa", sum := "0578f7c9fb27511e163d2eb43c827c64b288145e54bd1a8cc6813f79ef600132", func := "theodolite/theodolitelaw23.ClearanceTakes", spec := "clearanceTakes", apart := false, narrowed := true }
def ClearanceTakesUptoSaid : Prop := clearanceTakesUptoRow.holds Try.pinned (OpenSpec.upto clearanceTakesSpec)

/-- 'theodolitelaw23.ClearanceJumps', WHERE WHAT IT READS IS OF BULK AT MOST 1048576: true; the input reads as it did. -/
def clearanceJumpsUptoRow : OpenClaim := { program := "ytgingkckdmdloaa", sum := "0578f7c9fb27511e163d2eb43c827c64b288145e54bd1a8cc6813f79ef600132", func := "theodolite/theodolitelaw23.ClearanceJumps", spec := "clearanceJumps", apart := false, narrowed := true }
def ClearanceJumpsUptoSaid : Prop := clearanceJumpsUptoRow.holds Try.pinned (OpenSpec.upto clearanceJumpsSpec)

/-- 'theodolitelaw23.ClearanceTwice', WHERE WHAT IT READS IS OF BULK AT MOST 1048576: true; the input reads as it did. -/
def clearanceTwiceUptoRow : OpenClaim := { program := "ytgingkckdmdloaa", sum := "0578f7c9fb27511e163d2eb43c827c64b288145e54bd1a8cc6813f79ef600132", func := "theodolite/theodolitelaw23.ClearanceTwice", spec := "clearanceTwice", apart := false, narrowed := true }
def ClearanceTwiceUptoSaid : Prop := clearanceTwiceUptoRow.holds Try.pinned (OpenSpec.upto clearanceTwiceSpec)

/-- 'theodolitelaw07.RiceFolds', WHERE WHAT IT READS IS OF BULK AT MOST 1048576: true; the input reads as it did. -/
def riceFoldsUptoRow : OpenClaim := { program := "ytgingkckdmdloaa", sum := "0578f7c9fb27511e163d2eb43c827c64b288145e54bd1a8cc6813f79ef600132", func := "theodolite/theodolitelaw07.RiceFolds", spec := "riceFolds", unfollowed := true, recurses := true, apart := false, narrowed := true }
def RiceFoldsUptoSaid : Prop := riceFoldsUptoRow.holds Try.pinned (OpenSpec.upto riceFoldsSpec)

/-- 'theodolitelaw07.RiceCodes', WHERE WHAT IT READS IS OF BULK AT MOST 1048576: true; the input reads as it did. -/
def riceCodesUptoRow : OpenClaim := { program := "ytgingkckdmdloaa", sum := "0578f7c9fb27511e163d2eb43c827c64b288145e54bd1a8cc6813f79ef600132", func := "theodolite/theodolitelaw07.RiceCodes", spec := "riceCodes", unfollowed := true, recurses := true, apart := false, narrowed := true }
def RiceCodesUptoSaid : Prop := riceCodesUptoRow.holds Try.pinned (OpenSpec.upto riceCodesSpec)

/-- 'theodolitelaw07.RiceRows', WHERE WHAT IT READS IS OF BULK AT MOST 1048576: true; the input reads as it did. -/
def riceRowsUptoRow : OpenClaim := { program := "ytgingkckdmdloaa", sum := "0578f7c9fb27511e163d2eb43c827c64b288145e54bd1a8cc6813f79ef600132", func := "theodolite/theodolitelaw07.RiceRows", spec := "riceRows", unfollowed := true, recurses := true, apart := false, narrowed := true }
def RiceRowsUptoSaid : Prop := riceRowsUptoRow.holds Try.pinned (OpenSpec.upto riceRowsSpec)

/-- 'theodolitelaw07.RiceOne', WHERE WHAT IT READS IS OF BULK AT MOST 1048576: true; the input reads as it did. -/
def riceOneUptoRow : OpenClaim := { program := "ytgingkckdmdloaa", sum := "0578f7c9fb27511e163d2eb43c827c64b288145e54bd1a8cc6813f79ef600132", func := "theodolite/theodolitelaw07.RiceOne", spec := "riceOne", unfollowed := true, recurses := true, apart := false, narrowed := true }
def RiceOneUptoSaid : Prop := riceOneUptoRow.holds Try.pinned (OpenSpec.upto riceOneSpec)

/-- 'theodolitelaw08.TilePuts', WHERE WHAT IT READS IS OF BULK AT MOST 1048576: true; the input reads as it did. -/
def tilePutsUptoRow : OpenClaim := { program := "ytgingkckdmdloaa", sum := "0578f7c9fb27511e163d2eb43c827c64b288145e54bd1a8cc6813f79ef600132", func := "theodolite/theodolitelaw08.TilePuts", spec := "tilePuts", unfollowed := true, recurses := true, apart := false, narrowed := true }
def TilePutsUptoSaid : Prop := tilePutsUptoRow.holds Try.pinned (OpenSpec.upto tilePutsSpec)

/-- 'theodolitelaw08.TileBack', WHERE WHAT IT READS IS OF BULK AT MOST 1048576: true; the input reads as it did. -/
def tileBackUptoRow : OpenClaim := { program := "ytgingkckdmdloaa", sum := "0578f7c9fb27511e163d2eb43c827c64b288145e54bd1a8cc6813f79ef600132", func := "theodolite/theodolitelaw08.TileBack", spec := "tileBack", unfollowed := true, recurses := true, apart := false, narrowed := true }
def TileBackUptoSaid : Prop := tileBackUptoRow.holds Try.pinned (OpenSpec.upto tileBackSpec)

/-- 'theodolitelaw08.TileCuts', WHERE WHAT IT READS IS OF BULK AT MOST 1048576: true; the input reads as it did. -/
def tileCutsUptoRow : OpenClaim := { program := "ytgingkckdmdloaa", sum := "0578f7c9fb27511e163d2eb43c827c64b288145e54bd1a8cc6813f79ef600132", func := "theodolite/theodolitelaw08.TileCuts", spec := "tileCuts", unfollowed := true, recurses := true, apart := false, narrowed := true }
def TileCutsUptoSaid : Prop := tileCutsUptoRow.holds Try.pinned (OpenSpec.upto tileCutsSpec)

end Rows
end Go.Proofs.Ytgingkckdmdloaa
