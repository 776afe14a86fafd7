/-
  No cell of these rows narrows 'for every input' (looked for: loops, veiled, ifaces, maps, wideKeys, modest, calm, conditions, laid).
  DERIVED. THE GIVEN ROWS OF THIS SEAT. 12 by the template 'for every input the law returns true; each argument reads behind the call as it read before'; 0 by the template 'total and deterministic' (their statements: YtokoopdkofgabaaTotals.lean).
  GIVEN WITH THE SEED: the statements are not yours to turn. If you find one false, say at which input.
  Laid BY PROGRAM, IN A SANDBOX (cutbox-rows.mjs): the forced cells as the released guide's own fill.sh prints them over the translation 7adc20cdea656d27… (all of the seat's roots in one cut). By AI agents, Wed Nov 11 2026. No macro, syntax, notation, axiom, sorry.
-/
import Derived.Test.YtokoopdkofgabaaChecked
import GoSem.Claim
import GoSem.ClaimJoined
import GoSem.ClaimMapViews
import Derived.JoinedTies
import Derived.KernelRfl
namespace Go.Proofs.Ytokoopdkofgabaa
/- THE CELL 'sum', in the pinned program and in every row, IS THE sha256 OF THE DUMP (.gsa) THAT YtokoopdkofgabaaProg.lean LOADS. Nothing in Lean hashes anything: it is a label: what it is worth is what the hold of that sum in a sandbox is worth. -/
noncomputable def Try.pinned : Pinned := { name := "ytokoopdkofgabaa", sum := "7adc20cdea656d2774ac4784360df99bb36439c6f6af1c2c1440a7f6ea8ba548", checked := Try.checked }
namespace Rows
def none {H : Type} : Left H := { results := [], args := [] }

/-- 'theodolitelaw23.ClearanceTakes': WHATEVER THE INPUT: true; the input reads as it did. -/
def clearanceTakesSpec : ChangeSpec := { name := "clearanceTakes", fn := fun _ => fun
  | [d1, d2] => { results := [.lit (.bool true)], args := [d1, d2] }
  | _ => none }
def clearanceTakesRow : OpenClaim := { program := "ytokoopdkofgabaa", sum := "7adc20cdea656d2774ac4784360df99bb36439c6f6af1c2c1440a7f6ea8ba548", func := "theodolite/theodolitelaw23.ClearanceTakes", spec := "clearanceTakes", apart := false }
def ClearanceTakesSaid : Prop := clearanceTakesRow.holds Try.pinned (OpenSpec.ofChange clearanceTakesSpec)

/-- ITS FALSE NEIGHBOUR: 'it returns false'. Refute it at one input. -/
def clearanceTakesWrong : ChangeSpec := { name := "clearanceTakes", fn := fun _ => fun
  | [d1, d2] => { results := [.lit (.bool false)], args := [d1, d2] }
  | _ => none }
def ClearanceTakesWrongFalsely : Prop := clearanceTakesRow.holds Try.pinned (OpenSpec.ofChange clearanceTakesWrong)

/-- 'theodolitelaw23.ClearanceJumps': WHATEVER THE INPUT: true; the input reads as it did. -/
def clearanceJumpsSpec : ChangeSpec := { name := "clearanceJumps", fn := fun _ => fun
  | [d1, d2] => { results := [.lit (.bool true)], args := [d1, d2] }
  | _ => none }
def clearanceJumpsRow : OpenClaim := { program := "ytokoopdkofgabaa", sum := "7adc20cdea656d2774ac4784360df99bb36439c6f6af1c2c1440a7f6ea8ba548", func := "theodolite/theodolitelaw23.ClearanceJumps", spec := "clearanceJumps", apart := false }
def ClearanceJumpsSaid : Prop := clearanceJumpsRow.holds Try.pinned (OpenSpec.ofChange clearanceJumpsSpec)

/-- ITS FALSE NEIGHBOUR: 'it returns false'. Refute it at one input. -/
def clearanceJumpsWrong : ChangeSpec := { name := "clearanceJumps", fn := fun _ => fun
  | [d1, d2] => { results := [.lit (.bool false)], args := [d1, d2] }
  | _ => none }
def ClearanceJumpsWrongFalsely : Prop := clearanceJumpsRow.holds Try.pinned (OpenSpec.ofChange clearanceJumpsWrong)

/-- 'theodolitelaw08.TileCuts': WHATEVER THE INPUT: true; the input reads as it did. -/
def tileCutsSpec : ChangeSpec := { name := "tileCuts", fn := fun _ => fun
  | [d1, d2, d3, d4, d5] => { results := [.lit (.bool true)], args := [d1, d2, d3, d4, d5] }
  | _ => none }
def tileCutsRow : OpenClaim := { program := "ytokoopdkofgabaa", sum := "7adc20cdea656d2774ac4784360df99bb36439c6f6af1c2c1440a7f6ea8ba548", func := "theodolite/theodolitelaw08.TileCuts", spec := "tileCuts", unfollowed := true, recurses := true, apart := false }
def TileCutsSaid : Prop := tileCutsRow.holds Try.pinned (OpenSpec.ofChange tileCutsSpec)

/-- ITS FALSE NEIGHBOUR: 'it returns false'. Refute it at one input. -/
def tileCutsWrong : ChangeSpec := { name := "tileCuts", fn := fun _ => fun
  | [d1, d2, d3, d4, d5] => { results := [.lit (.bool false)], args := [d1, d2, d3, d4, d5] }
  | _ => none }
def TileCutsWrongFalsely : Prop := tileCutsRow.holds Try.pinned (OpenSpec.ofChange tileCutsWrong)

/-- 'theodolitelaw37.RayCells': WHATEVER THE INPUT: true; the input reads as it did. -/
def rayCellsSpec : ChangeSpec := { name := "rayCells", fn := fun _ => fun
  | [d1, d2] => { results := [.lit (.bool true)], args := [d1, d2] }
  | _ => none }
def rayCellsRow : OpenClaim := { program := "ytokoopdkofgabaa", sum := "7adc20cdea656d2774ac4784360df99bb36439c6f6af1c2c1440a7f6ea8ba548", func := "theodolite/theodolitelaw37.RayCells", spec := "rayCells", inPlace := ["math/bits.Sub64", "math/bits.Add64"], unfollowed := true, recurses := true, apart := false }
def RayCellsSaid : Prop := rayCellsRow.holds Try.pinned (OpenSpec.ofChange rayCellsSpec)

/-- ITS FALSE NEIGHBOUR: 'it returns false'. Refute it at one input. -/
def rayCellsWrong : ChangeSpec := { name := "rayCells", fn := fun _ => fun
  | [d1, d2] => { results := [.lit (.bool false)], args := [d1, d2] }
  | _ => none }
def RayCellsWrongFalsely : Prop := rayCellsRow.holds Try.pinned (OpenSpec.ofChange rayCellsWrong)

/-- 'theodolitelaw37.RayBack': WHATEVER THE INPUT: true; the input reads as it did. -/
def rayBackSpec : ChangeSpec := { name := "rayBack", fn := fun _ => fun
  | [d1, d2, d3, d4] => { results := [.lit (.bool true)], args := [d1, d2, d3, d4] }
  | _ => none }
def rayBackRow : OpenClaim := { program := "ytokoopdkofgabaa", sum := "7adc20cdea656d2774ac4784360df99bb36439c6f6af1c2c1440a7f6ea8ba548", func := "theodolite/theodolitelaw37.RayBack", spec := "rayBack", inPlace := ["math/bits.Sub64", "math/bits.Add64"], unfollowed := true, recurses := true, apart := false }
def RayBackSaid : Prop := rayBackRow.holds Try.pinned (OpenSpec.ofChange rayBackSpec)

/-- ITS FALSE NEIGHBOUR: 'it returns false'. Refute it at one input. -/
def rayBackWrong : ChangeSpec := { name := "rayBack", fn := fun _ => fun
  | [d1, d2, d3, d4] => { results := [.lit (.bool false)], args := [d1, d2, d3, d4] }
  | _ => none }
def RayBackWrongFalsely : Prop := rayBackRow.holds Try.pinned (OpenSpec.ofChange rayBackWrong)

/-- 'theodolitelaw37.RayUnder': WHATEVER THE INPUT: true; the input reads as it did. -/
def rayUnderSpec : ChangeSpec := { name := "rayUnder", fn := fun _ => fun
  | [d1, d2, d3, d4, d5, d6] => { results := [.lit (.bool true)], args := [d1, d2, d3, d4, d5, d6] }
  | _ => none }
def rayUnderRow : OpenClaim := { program := "ytokoopdkofgabaa", sum := "7adc20cdea656d2774ac4784360df99bb36439c6f6af1c2c1440a7f6ea8ba548", func := "theodolite/theodolitelaw37.RayUnder", spec := "rayUnder", inPlace := ["math/bits.Sub64", "math/bits.Add64"], unfollowed := true, recurses := true, apart := false }
def RayUnderSaid : Prop := rayUnderRow.holds Try.pinned (OpenSpec.ofChange rayUnderSpec)

/-- ITS FALSE NEIGHBOUR: 'it returns false'. Refute it at one input. -/
def rayUnderWrong : ChangeSpec := { name := "rayUnder", fn := fun _ => fun
  | [d1, d2, d3, d4, d5, d6] => { results := [.lit (.bool false)], args := [d1, d2, d3, d4, d5, d6] }
  | _ => none }
def RayUnderWrongFalsely : Prop := rayUnderRow.holds Try.pinned (OpenSpec.ofChange rayUnderWrong)

/-- 'theodolitelaw37.RayWay': WHATEVER THE INPUT: true; the input reads as it did. -/
def rayWaySpec : ChangeSpec := { name := "rayWay", fn := fun _ => fun
  | [d1, d2, d3, d4, d5] => { results := [.lit (.bool true)], args := [d1, d2, d3, d4, d5] }
  | _ => none }
def rayWayRow : OpenClaim := { program := "ytokoopdkofgabaa", sum := "7adc20cdea656d2774ac4784360df99bb36439c6f6af1c2c1440a7f6ea8ba548", func := "theodolite/theodolitelaw37.RayWay", spec := "rayWay", inPlace := ["math/bits.Sub64", "math/bits.Add64"], unfollowed := true, recurses := true, apart := false }
def RayWaySaid : Prop := rayWayRow.holds Try.pinned (OpenSpec.ofChange rayWaySpec)

/-- ITS FALSE NEIGHBOUR: 'it returns false'. Refute it at one input. -/
def rayWayWrong : ChangeSpec := { name := "rayWay", fn := fun _ => fun
  | [d1, d2, d3, d4, d5] => { results := [.lit (.bool false)], args := [d1, d2, d3, d4, d5] }
  | _ => none }
def RayWayWrongFalsely : Prop := rayWayRow.holds Try.pinned (OpenSpec.ofChange rayWayWrong)

/-- 'theodolitelaw09.ChartPuts': WHATEVER THE INPUT: true; the input reads as it did. -/
def chartPutsSpec : ChangeSpec := { name := "chartPuts", fn := fun _ => fun
  | [d1, d2, d3, d4, d5, d6] => { results := [.lit (.bool true)], args := [d1, d2, d3, d4, d5, d6] }
  | _ => none }
def chartPutsRow : OpenClaim := { program := "ytokoopdkofgabaa", sum := "7adc20cdea656d2774ac4784360df99bb36439c6f6af1c2c1440a7f6ea8ba548", func := "theodolite/theodolitelaw09.ChartPuts", spec := "chartPuts", unfollowed := true, recurses := true, apart := false }
def ChartPutsSaid : Prop := chartPutsRow.holds Try.pinned (OpenSpec.ofChange chartPutsSpec)

/-- ITS FALSE NEIGHBOUR: 'it returns false'. Refute it at one input. -/
def chartPutsWrong : ChangeSpec := { name := "chartPuts", fn := fun _ => fun
  | [d1, d2, d3, d4, d5, d6] => { results := [.lit (.bool false)], args := [d1, d2, d3, d4, d5, d6] }
  | _ => none }
def ChartPutsWrongFalsely : Prop := chartPutsRow.holds Try.pinned (OpenSpec.ofChange chartPutsWrong)

/-- 'theodolitelaw09.ChartBack': WHATEVER THE INPUT: true; the input reads as it did. -/
def chartBackSpec : ChangeSpec := { name := "chartBack", fn := fun _ => fun
  | [d1, d2, d3, d4, d5, d6] => { results := [.lit (.bool true)], args := [d1, d2, d3, d4, d5, d6] }
  | _ => none }
def chartBackRow : OpenClaim := { program := "ytokoopdkofgabaa", sum := "7adc20cdea656d2774ac4784360df99bb36439c6f6af1c2c1440a7f6ea8ba548", func := "theodolite/theodolitelaw09.ChartBack", spec := "chartBack", unfollowed := true, recurses := true, apart := false }
def ChartBackSaid : Prop := chartBackRow.holds Try.pinned (OpenSpec.ofChange chartBackSpec)

/-- ITS FALSE NEIGHBOUR: 'it returns false'. Refute it at one input. -/
def chartBackWrong : ChangeSpec := { name := "chartBack", fn := fun _ => fun
  | [d1, d2, d3, d4, d5, d6] => { results := [.lit (.bool false)], args := [d1, d2, d3, d4, d5, d6] }
  | _ => none }
def ChartBackWrongFalsely : Prop := chartBackRow.holds Try.pinned (OpenSpec.ofChange chartBackWrong)

/-- 'theodolitelaw09.ChartSums': WHATEVER THE INPUT: true; the input reads as it did. -/
def chartSumsSpec : ChangeSpec := { name := "chartSums", fn := fun _ => fun
  | [d1, d2, d3, d4, d5] => { results := [.lit (.bool true)], args := [d1, d2, d3, d4, d5] }
  | _ => none }
def chartSumsRow : OpenClaim := { program := "ytokoopdkofgabaa", sum := "7adc20cdea656d2774ac4784360df99bb36439c6f6af1c2c1440a7f6ea8ba548", func := "theodolite/theodolitelaw09.ChartSums", spec := "chartSums", unfollowed := true, recurses := true, apart := false }
def ChartSumsSaid : Prop := chartSumsRow.holds Try.pinned (OpenSpec.ofChange chartSumsSpec)

/-- ITS FALSE NEIGHBOUR: 'it returns false'. Refute it at one input. -/
def chartSumsWrong : ChangeSpec := { name := "chartSums", fn := fun _ => fun
  | [d1, d2, d3, d4, d5] => { results := [.lit (.bool false)], args := [d1, d2, d3, d4, d5] }
  | _ => none }
def ChartSumsWrongFalsely : Prop := chartSumsRow.holds Try.pinned (OpenSpec.ofChange chartSumsWrong)

/-- 'theodolitelaw10.CacheReads': WHATEVER THE INPUT: true; the input reads as it did. -/
def cacheReadsSpec : ChangeSpec := { name := "cacheReads", fn := fun _ => fun
  | [d1, d2, d3, d4, d5] => { results := [.lit (.bool true)], args := [d1, d2, d3, d4, d5] }
  | _ => none }
def cacheReadsRow : OpenClaim := { program := "ytokoopdkofgabaa", sum := "7adc20cdea656d2774ac4784360df99bb36439c6f6af1c2c1440a7f6ea8ba548", func := "theodolite/theodolitelaw10.CacheReads", spec := "cacheReads", unfollowed := true, recurses := true, apart := false }
def CacheReadsSaid : Prop := cacheReadsRow.holds Try.pinned (OpenSpec.ofChange cacheReadsSpec)

/-- ITS FALSE NEIGHBOUR: 'it returns false'. Refute it at one input. -/
def cacheReadsWrong : ChangeSpec := { name := "cacheReads", fn := fun _ => fun
  | [d1, d2, d3, d4, d5] => { results := [.lit (.bool false)], args := [d1, d2, d3, d4, d5] }
  | _ => none }
def CacheReadsWrongFalsely : Prop := cacheReadsRow.holds Try.pinned (OpenSpec.ofChange cacheReadsWrong)

/-- 'theodolitelaw10.CacheKeeps': WHATEVER THE INPUT: true; the input reads as it did. -/
def cacheKeepsSpec : ChangeSpec := { name := "cacheKeeps", fn := fun _ => fun
  | [d1, d2, d3, d4] => { results := [.lit (.bool true)], args := [d1, d2, d3, d4] }
  | _ => none }
def cacheKeepsRow : OpenClaim := { program := "ytokoopdkofgabaa", sum := "7adc20cdea656d2774ac4784360df99bb36439c6f6af1c2c1440a7f6ea8ba548", func := "theodolite/theodolitelaw10.CacheKeeps", spec := "cacheKeeps", unfollowed := true, recurses := true, apart := false }
def CacheKeepsSaid : Prop := cacheKeepsRow.holds Try.pinned (OpenSpec.ofChange cacheKeepsSpec)

/-- ITS FALSE NEIGHBOUR: 'it returns false'. Refute it at one input. -/
def cacheKeepsWrong : ChangeSpec := { name := "cacheKeeps", fn := fun _ => fun
  | [d1, d2, d3, d4] => { results := [.lit (.bool false)], args := [d1, d2, d3, d4] }
  | _ => none }
def CacheKeepsWrongFalsely : Prop := cacheKeepsRow.holds Try.pinned (OpenSpec.ofChange cacheKeepsWrong)

/- THE SECOND FORM. 'bulk': how many values and letters a reading holds, each counted each time it is reached (what is shared counts as often as it is met; a slice's spare places count too). A statement '..UptoSaid' is the law's where the arguments, and the package variables that the reading takes, are together of bulk at most 1048576: NARROWER than '..Said'. Prove '..Said' where nothing that the law and all that it calls make is longer than what came in: it says more and counts as full. Else prove '..UptoSaid'. A law counts once. -/
mutual
def uptoBulk {H : Type} : DataW H → Nat
  | .lit (.string bytes) => bytes.length + 1
  | .lit _ => 1
  | .nil => 1
  | .ptr d => uptoBulk d + 1
  | .slice elems spare => uptoBulkAll elems + uptoBulkAll spare + 1
  | .agg parts => uptoBulkAll parts + 1
  | .iface _ d => uptoBulk d + 1
  | .map entries => uptoBulkEntries entries + 1
  | .held _ => 1
def uptoBulkAll {H : Type} : List (DataW H) → Nat
  | [] => 0
  | d :: r => uptoBulk d + uptoBulkAll r
def uptoBulkEntries {H : Type} : List (Lit × DataW H) → Nat
  | [] => 0
  | x :: r => uptoBulkEntry x + uptoBulkEntries r
def uptoBulkEntry {H : Type} : Lit × DataW H → Nat
  | (.string bytes, d) => bytes.length + uptoBulk d + 1
  | (_, d) => uptoBulk d + 1
 end
def uptoSmall : (H : Type) → List (DataW H) → Bool := fun _ ds => decide (uptoBulkAll ds ≤ 1048576)
def OpenSpec.upto (s : _root_.Go.ChangeSpec) : _root_.Go.OpenSpec := { _root_.Go.OpenSpec.ofChange s with cond := some uptoSmall }

/-- 'theodolitelaw23.ClearanceTakes', WHERE WHAT IT READS IS OF BULK AT MOST 1048576: true; the input reads as it did. -/
def clearanceTakesUptoRow : OpenClaim := { program := "ytokoopdkofgabaa", sum := "7adc20cdea656d2774ac4784360df99bb36439c6f6af1c2c1440a7f6ea8ba548", func := "theodolite/theodolitelaw23.ClearanceTakes", spec := "clearanceTakes", apart := false, narrowed := true }
def ClearanceTakesUptoSaid : Prop := clearanceTakesUptoRow.holds Try.pinned (OpenSpec.upto clearanceTakesSpec)

/-- 'theodolitelaw23.ClearanceJumps', WHERE WHAT IT READS IS OF BULK AT MOST 1048576: true; the input reads as it did. -/
def clearanceJumpsUptoRow : OpenClaim := { program := "ytokoopdkofgabaa", sum := "7adc20cdea656d2774ac4784360df99bb36439c6f6af1c2c1440a7f6ea8ba548", func := "theodolite/theodolitelaw23.ClearanceJumps", spec := "clearanceJumps", apart := false, narrowed := true }
def ClearanceJumpsUptoSaid : Prop := clearanceJumpsUptoRow.holds Try.pinned (OpenSpec.upto clearanceJumpsSpec)

/-- 'theodolitelaw08.TileCuts', WHERE WHAT IT READS IS OF BULK AT MOST 1048576: true; the input reads as it did. -/
def tileCutsUptoRow : OpenClaim := { program := "ytokoopdkofgabaa", sum := "7adc20cdea656d2774ac4784360df99bb36439c6f6af1c2c1440a7f6ea8ba548", func := "theodolite/theodolitelaw08.TileCuts", spec := "tileCuts", unfollowed := true, recurses := true, apart := false, narrowed := true }
def TileCutsUptoSaid : Prop := tileCutsUptoRow.holds Try.pinned (OpenSpec.upto tileCutsSpec)

/-- 'theodolitelaw37.RayCells', WHERE WHAT IT READS IS OF BULK AT MOST 1048576: true; the input reads as it did. -/
def rayCellsUptoRow : OpenClaim := { program := "ytokoopdkofgabaa", sum := "7adc20cdea656d2774ac4784360df99bb36439c6f6af1c2c1440a7f6ea8ba548", func := "theodolite/theodolitelaw37.RayCells", spec := "rayCells", inPlace := ["math/bits.Sub64", "math/bits.Add64"], unfollowed := true, recurses := true, apart := false, narrowed := true }
def RayCellsUptoSaid : Prop := rayCellsUptoRow.holds Try.pinned (OpenSpec.upto rayCellsSpec)

/-- 'theodolitelaw37.RayBack', WHERE WHAT IT READS IS OF BULK AT MOST 1048576: true; the input reads as it did. -/
def rayBackUptoRow : OpenClaim := { program := "ytokoopdkofgabaa", sum := "7adc20cdea656d2774ac4784360df99bb36439c6f6af1c2c1440a7f6ea8ba548", func := "theodolite/theodolitelaw37.RayBack", spec := "rayBack", inPlace := ["math/bits.Sub64", "math/bits.Add64"], unfollowed := true, recurses := true, apart := false, narrowed := true }
def RayBackUptoSaid : Prop := rayBackUptoRow.holds Try.pinned (OpenSpec.upto rayBackSpec)

/-- 'theodolitelaw37.RayUnder', WHERE WHAT IT READS IS OF BULK AT MOST 1048576: true; the input reads as it did. -/
def rayUnderUptoRow : OpenClaim := { program := "ytokoopdkofgabaa", sum := "7adc20cdea656d2774ac4784360df99bb36439c6f6af1c2c1440a7f6ea8ba548", func := "theodolite/theodolitelaw37.RayUnder", spec := "rayUnder", inPlace := ["math/bits.Sub64", "math/bits.Add64"], unfollowed := true, recurses := true, apart := false, narrowed := true }
def RayUnderUptoSaid : Prop := rayUnderUptoRow.holds Try.pinned (OpenSpec.upto rayUnderSpec)

/-- 'theodolitelaw37.RayWay', WHERE WHAT IT READS IS OF BULK AT MOST 1048576: true; the input reads as it did. -/
def rayWayUptoRow : OpenClaim := { program := "ytokoopdkofgabaa", sum := "7adc20cdea656d2774ac4784360df99bb36439c6f6af1c2c1440a7f6ea8ba548", func := "theodolite/theodolitelaw37.RayWay", spec := "rayWay", inPlace := ["math/bits.Sub64", "math/bits.Add64"], unfollowed := true, recurses := true, apart := false, narrowed := true }
def RayWayUptoSaid : Prop := rayWayUptoRow.holds Try.pinned (OpenSpec.upto rayWaySpec)

/-- 'theodolitelaw09.ChartPuts', WHERE WHAT IT READS IS OF BULK AT MOST 1048576: true; the input reads as it did. -/
def chartPutsUptoRow : OpenClaim := { program := "ytokoopdkofgabaa", sum := "7adc20cdea656d2774ac4784360df99bb36439c6f6af1c2c1440a7f6ea8ba548", func := "theodolite/theodolitelaw09.ChartPuts", spec := "chartPuts", unfollowed := true, recurses := true, apart := false, narrowed := true }
def ChartPutsUptoSaid : Prop := chartPutsUptoRow.holds Try.pinned (OpenSpec.upto chartPutsSpec)

/-- 'theodolitelaw09.ChartBack', WHERE WHAT IT READS IS OF BULK AT MOST 1048576: true; the input reads as it did. -/
def chartBackUptoRow : OpenClaim := { program := "ytokoopdkofgabaa", sum := "7adc20cdea656d2774ac4784360df99bb36439c6f6af1c2c1440a7f6ea8ba548", func := "theodolite/theodolitelaw09.ChartBack", spec := "chartBack", unfollowed := true, recurses := true, apart := false, narrowed := true }
def ChartBackUptoSaid : Prop := chartBackUptoRow.holds Try.pinned (OpenSpec.upto chartBackSpec)

/-- 'theodolitelaw09.ChartSums', WHERE WHAT IT READS IS OF BULK AT MOST 1048576: true; the input reads as it did. -/
def chartSumsUptoRow : OpenClaim := { program := "ytokoopdkofgabaa", sum := "7adc20cdea656d2774ac4784360df99bb36439c6f6af1c2c1440a7f6ea8ba548", func := "theodolite/theodolitelaw09.ChartSums", spec := "chartSums", unfollowed := true, recurses := true, apart := false, narrowed := true }
def ChartSumsUptoSaid : Prop := chartSumsUptoRow.holds Try.pinned (OpenSpec.upto chartSumsSpec)

/-- 'theodolitelaw10.CacheReads', WHERE WHAT IT READS IS OF BULK AT MOST 1048576: true; the input reads as it did. -/
def cacheReadsUptoRow : OpenClaim := { program := "ytokoopdkofgabaa", sum := "7adc20cdea656d2774ac4784360df99bb36439c6f6af1c2c1440a7f6ea8ba548", func := "theodolite/theodolitelaw10.CacheReads", spec := "cacheReads", unfollowed := true, recurses := true, apart := false, narrowed := true }
def CacheReadsUptoSaid : Prop := cacheReadsUptoRow.holds Try.pinned (OpenSpec.upto cacheReadsSpec)

/-- 'theodolitelaw10.CacheKeeps', WHERE WHAT IT READS IS OF BULK AT MOST 1048576: true; the input reads as it did. -/
def cacheKeepsUptoRow : OpenClaim := { program := "ytokoopdkofgabaa", sum := "7adc20cdea656d2774ac4784360df99bb36439c6f6af1c2c1440a7f6ea8ba548", func := "theodolite/theodolitelaw10.CacheKeeps", spec := "cacheKeeps", unfollowed := true, recurses := true, apart := false, narrowed := true }
def CacheKeepsUptoSaid : Prop := cacheKeepsUptoRow.holds Try.pinned (OpenSpec.upto cacheKeepsSpec)

end Rows
end Go.Proofs.Ytokoopdkofgabaa
