/-
  No cell of these rows narrows 'for every input' (looked for: loops, veiled, ifaces, maps, wideKeys, modest, calm, conditions, laid).
  DERIVED. THE GIVEN ROWS OF THIS SEAT. 11 by the template 'for every input the law returns true; each argument reads behind the call as it read before'; 0 by the template 'total and deterministic' (their statements: YtpmomimaihjmjaaTotals.lean).
  GIVEN WITH THE SEED: the statements are not yours to turn. If you find one false, say at which input.
  Laid BY PROGRAM, IN A SANDBOX (cutbox-rows.mjs): the forced cells as the released guide's own fill.sh prints them over the translation 4e25e5ef0865d027… (all of the seat's roots in one cut). By AI agents, Wed Nov 11 2026. No macro, syntax, notation, axiom, sorry.
-/
import Derived.Test.YtpmomimaihjmjaaChecked
import GoSem.Claim
import GoSem.ClaimJoined
import GoSem.ClaimMapViews
import Derived.JoinedTies
import Derived.KernelRfl
namespace Go.Proofs.Ytpmomimaihjmjaa
/- THE CELL 'sum', in the pinned program and in every row, IS THE sha256 OF THE DUMP (.gsa) THAT YtpmomimaihjmjaaProg.lean LOADS. Nothing in Lean hashes anything: it is a label: what it is worth is what the hold of that sum in a sandbox is worth. -/
noncomputable def Try.pinned : Pinned := { name := "ytpmomimaihjmjaa", sum := "4e25e5ef0865d0275528ecf2a666fa638a1f08d75d93b07f11ff57a7be244244", checked := Try.checked }
namespace Rows
def none {H : Type} : Left H := { results := [], args := [] }

/-- 'theodolitelaw10.CacheReads': WHATEVER THE INPUT: true; the input reads as it did. -/
def cacheReadsSpec : ChangeSpec := { name := "cacheReads", fn := fun _ => fun
  | [d1, d2, d3, d4, d5] => { results := [.lit (.bool true)], args := [d1, d2, d3, d4, d5] }
  | _ => none }
def cacheReadsRow : OpenClaim := { program := "ytpmomimaihjmjaa", sum := "4e25e5ef0865d0275528ecf2a666fa638a1f08d75d93b07f11ff57a7be244244", func := "theodolite/theodolitelaw10.CacheReads", spec := "cacheReads", unfollowed := true, recurses := true, apart := false }
def CacheReadsSaid : Prop := cacheReadsRow.holds Try.pinned (OpenSpec.ofChange cacheReadsSpec)

/-- ITS FALSE NEIGHBOUR: 'it returns false'. Refute it at one input. -/
def cacheReadsWrong : ChangeSpec := { name := "cacheReads", fn := fun _ => fun
  | [d1, d2, d3, d4, d5] => { results := [.lit (.bool false)], args := [d1, d2, d3, d4, d5] }
  | _ => none }
def CacheReadsWrongFalsely : Prop := cacheReadsRow.holds Try.pinned (OpenSpec.ofChange cacheReadsWrong)

/-- 'theodolitelaw10.CacheKeeps': WHATEVER THE INPUT: true; the input reads as it did. -/
def cacheKeepsSpec : ChangeSpec := { name := "cacheKeeps", fn := fun _ => fun
  | [d1, d2, d3, d4] => { results := [.lit (.bool true)], args := [d1, d2, d3, d4] }
  | _ => none }
def cacheKeepsRow : OpenClaim := { program := "ytpmomimaihjmjaa", sum := "4e25e5ef0865d0275528ecf2a666fa638a1f08d75d93b07f11ff57a7be244244", func := "theodolite/theodolitelaw10.CacheKeeps", spec := "cacheKeeps", unfollowed := true, recurses := true, apart := false }
def CacheKeepsSaid : Prop := cacheKeepsRow.holds Try.pinned (OpenSpec.ofChange cacheKeepsSpec)

/-- ITS FALSE NEIGHBOUR: 'it returns false'. Refute it at one input. -/
def cacheKeepsWrong : ChangeSpec := { name := "cacheKeeps", fn := fun _ => fun
  | [d1, d2, d3, d4] => { results := [.lit (.bool false)], args := [d1, d2, d3, d4] }
  | _ => none }
def CacheKeepsWrongFalsely : Prop := cacheKeepsRow.holds Try.pinned (OpenSpec.ofChange cacheKeepsWrong)

/-- 'theodolitelaw10.CacheNone': WHATEVER THE INPUT: true; the input reads as it did. -/
def cacheNoneSpec : ChangeSpec := { name := "cacheNone", fn := fun _ => fun
  | [d1, d2, d3, d4, d5, d6, d7] => { results := [.lit (.bool true)], args := [d1, d2, d3, d4, d5, d6, d7] }
  | _ => none }
def cacheNoneRow : OpenClaim := { program := "ytpmomimaihjmjaa", sum := "4e25e5ef0865d0275528ecf2a666fa638a1f08d75d93b07f11ff57a7be244244", func := "theodolite/theodolitelaw10.CacheNone", spec := "cacheNone", unfollowed := true, recurses := true, apart := false }
def CacheNoneSaid : Prop := cacheNoneRow.holds Try.pinned (OpenSpec.ofChange cacheNoneSpec)

/-- ITS FALSE NEIGHBOUR: 'it returns false'. Refute it at one input. -/
def cacheNoneWrong : ChangeSpec := { name := "cacheNone", fn := fun _ => fun
  | [d1, d2, d3, d4, d5, d6, d7] => { results := [.lit (.bool false)], args := [d1, d2, d3, d4, d5, d6, d7] }
  | _ => none }
def CacheNoneWrongFalsely : Prop := cacheNoneRow.holds Try.pinned (OpenSpec.ofChange cacheNoneWrong)

/-- 'theodolitelaw45.WorldGoes': WHATEVER THE INPUT: true; the input reads as it did. -/
def worldGoesSpec : ChangeSpec := { name := "worldGoes", fn := fun _ => fun
  | [d1, d2, d3, d4, d5, d6, d7] => { results := [.lit (.bool true)], args := [d1, d2, d3, d4, d5, d6, d7] }
  | _ => none }
def worldGoesRow : OpenClaim := { program := "ytpmomimaihjmjaa", sum := "4e25e5ef0865d0275528ecf2a666fa638a1f08d75d93b07f11ff57a7be244244", func := "theodolite/theodolitelaw45.WorldGoes", spec := "worldGoes", inPlace := ["math/bits.Sub64"], unfollowed := true, recurses := true, named := ["math/bits.divideError", "math/bits.overflowError"], apart := false }
def WorldGoesSaid : Prop := worldGoesRow.holds Try.pinned (OpenSpec.ofChange worldGoesSpec)

/-- ITS FALSE NEIGHBOUR: 'it returns false'. Refute it at one input. -/
def worldGoesWrong : ChangeSpec := { name := "worldGoes", fn := fun _ => fun
  | [d1, d2, d3, d4, d5, d6, d7] => { results := [.lit (.bool false)], args := [d1, d2, d3, d4, d5, d6, d7] }
  | _ => none }
def WorldGoesWrongFalsely : Prop := worldGoesRow.holds Try.pinned (OpenSpec.ofChange worldGoesWrong)

/-- 'theodolitelaw45.WorldNone': WHATEVER THE INPUT: true; the input reads as it did. -/
def worldNoneSpec : ChangeSpec := { name := "worldNone", fn := fun _ => fun
  | [d1, d2, d3, d4, d5] => { results := [.lit (.bool true)], args := [d1, d2, d3, d4, d5] }
  | _ => none }
def worldNoneRow : OpenClaim := { program := "ytpmomimaihjmjaa", sum := "4e25e5ef0865d0275528ecf2a666fa638a1f08d75d93b07f11ff57a7be244244", func := "theodolite/theodolitelaw45.WorldNone", spec := "worldNone", inPlace := ["math/bits.Sub64"], unfollowed := true, recurses := true, named := ["math/bits.divideError", "math/bits.overflowError"], apart := false }
def WorldNoneSaid : Prop := worldNoneRow.holds Try.pinned (OpenSpec.ofChange worldNoneSpec)

/-- ITS FALSE NEIGHBOUR: 'it returns false'. Refute it at one input. -/
def worldNoneWrong : ChangeSpec := { name := "worldNone", fn := fun _ => fun
  | [d1, d2, d3, d4, d5] => { results := [.lit (.bool false)], args := [d1, d2, d3, d4, d5] }
  | _ => none }
def WorldNoneWrongFalsely : Prop := worldNoneRow.holds Try.pinned (OpenSpec.ofChange worldNoneWrong)

/-- 'theodolitelaw11.TerrainHeights': WHATEVER THE INPUT: true; the input reads as it did. -/
def terrainHeightsSpec : ChangeSpec := { name := "terrainHeights", fn := fun _ => fun
  | [d1, d2, d3, d4, d5] => { results := [.lit (.bool true)], args := [d1, d2, d3, d4, d5] }
  | _ => none }
def terrainHeightsRow : OpenClaim := { program := "ytpmomimaihjmjaa", sum := "4e25e5ef0865d0275528ecf2a666fa638a1f08d75d93b07f11ff57a7be244244", func := "theodolite/theodolitelaw11.TerrainHeights", spec := "terrainHeights", inPlace := ["math/bits.Sub64"], unfollowed := true, recurses := true, named := ["math/bits.divideError", "math/bits.overflowError"], apart := false }
def TerrainHeightsSaid : Prop := terrainHeightsRow.holds Try.pinned (OpenSpec.ofChange terrainHeightsSpec)

/-- ITS FALSE NEIGHBOUR: 'it returns false'. Refute it at one input. -/
def terrainHeightsWrong : ChangeSpec := { name := "terrainHeights", fn := fun _ => fun
  | [d1, d2, d3, d4, d5] => { results := [.lit (.bool false)], args := [d1, d2, d3, d4, d5] }
  | _ => none }
def TerrainHeightsWrongFalsely : Prop := terrainHeightsRow.holds Try.pinned (OpenSpec.ofChange terrainHeightsWrong)

/-- 'theodolitelaw11.TerrainNear': WHATEVER THE INPUT: true; the input reads as it did. -/
def terrainNearSpec : ChangeSpec := { name := "terrainNear", fn := fun _ => fun
  | [d1, d2, d3, d4] => { results := [.lit (.bool true)], args := [d1, d2, d3, d4] }
  | _ => none }
def terrainNearRow : OpenClaim := { program := "ytpmomimaihjmjaa", sum := "4e25e5ef0865d0275528ecf2a666fa638a1f08d75d93b07f11ff57a7be244244", func := "theodolite/theodolitelaw11.TerrainNear", spec := "terrainNear", inPlace := ["math/bits.Sub64"], unfollowed := true, recurses := true, named := ["math/bits.divideError", "math/bits.overflowError"], apart := false }
def TerrainNearSaid : Prop := terrainNearRow.holds Try.pinned (OpenSpec.ofChange terrainNearSpec)

/-- ITS FALSE NEIGHBOUR: 'it returns false'. Refute it at one input. -/
def terrainNearWrong : ChangeSpec := { name := "terrainNear", fn := fun _ => fun
  | [d1, d2, d3, d4] => { results := [.lit (.bool false)], args := [d1, d2, d3, d4] }
  | _ => none }
def TerrainNearWrongFalsely : Prop := terrainNearRow.holds Try.pinned (OpenSpec.ofChange terrainNearWrong)

/-- 'theodolitelaw11.TerrainSlopes': WHATEVER THE INPUT: true; the input reads as it did. -/
def terrainSlopesSpec : ChangeSpec := { name := "terrainSlopes", fn := fun _ => fun
  | [d1, d2, d3, d4] => { results := [.lit (.bool true)], args := [d1, d2, d3, d4] }
  | _ => none }
def terrainSlopesRow : OpenClaim := { program := "ytpmomimaihjmjaa", sum := "4e25e5ef0865d0275528ecf2a666fa638a1f08d75d93b07f11ff57a7be244244", func := "theodolite/theodolitelaw11.TerrainSlopes", spec := "terrainSlopes", inPlace := ["math/bits.Sub64"], unfollowed := true, recurses := true, named := ["math/bits.divideError", "math/bits.overflowError"], apart := false }
def TerrainSlopesSaid : Prop := terrainSlopesRow.holds Try.pinned (OpenSpec.ofChange terrainSlopesSpec)

/-- ITS FALSE NEIGHBOUR: 'it returns false'. Refute it at one input. -/
def terrainSlopesWrong : ChangeSpec := { name := "terrainSlopes", fn := fun _ => fun
  | [d1, d2, d3, d4] => { results := [.lit (.bool false)], args := [d1, d2, d3, d4] }
  | _ => none }
def TerrainSlopesWrongFalsely : Prop := terrainSlopesRow.holds Try.pinned (OpenSpec.ofChange terrainSlopesWrong)

/-- 'theodolitelaw11.TerrainRough': WHATEVER THE INPUT: true; the input reads as it did. -/
def terrainRoughSpec : ChangeSpec := { name := "terrainRough", fn := fun _ => fun
  | [d1, d2, d3, d4, d5, d6, d7] => { results := [.lit (.bool true)], args := [d1, d2, d3, d4, d5, d6, d7] }
  | _ => none }
def terrainRoughRow : OpenClaim := { program := "ytpmomimaihjmjaa", sum := "4e25e5ef0865d0275528ecf2a666fa638a1f08d75d93b07f11ff57a7be244244", func := "theodolite/theodolitelaw11.TerrainRough", spec := "terrainRough", inPlace := ["math/bits.Sub64"], unfollowed := true, recurses := true, named := ["math/bits.divideError", "math/bits.overflowError"], apart := false }
def TerrainRoughSaid : Prop := terrainRoughRow.holds Try.pinned (OpenSpec.ofChange terrainRoughSpec)

/-- ITS FALSE NEIGHBOUR: 'it returns false'. Refute it at one input. -/
def terrainRoughWrong : ChangeSpec := { name := "terrainRough", fn := fun _ => fun
  | [d1, d2, d3, d4, d5, d6, d7] => { results := [.lit (.bool false)], args := [d1, d2, d3, d4, d5, d6, d7] }
  | _ => none }
def TerrainRoughWrongFalsely : Prop := terrainRoughRow.holds Try.pinned (OpenSpec.ofChange terrainRoughWrong)

/-- 'theodolitelaw11.TerrainPlaces': WHATEVER THE INPUT: true; the input reads as it did. -/
def terrainPlacesSpec : ChangeSpec := { name := "terrainPlaces", fn := fun _ => fun
  | [d1, d2, d3, d4, d5, d6] => { results := [.lit (.bool true)], args := [d1, d2, d3, d4, d5, d6] }
  | _ => none }
def terrainPlacesRow : OpenClaim := { program := "ytpmomimaihjmjaa", sum := "4e25e5ef0865d0275528ecf2a666fa638a1f08d75d93b07f11ff57a7be244244", func := "theodolite/theodolitelaw11.TerrainPlaces", spec := "terrainPlaces", inPlace := ["math/bits.Sub64"], unfollowed := true, recurses := true, named := ["math/bits.divideError", "math/bits.overflowError"], apart := false }
def TerrainPlacesSaid : Prop := terrainPlacesRow.holds Try.pinned (OpenSpec.ofChange terrainPlacesSpec)

/-- ITS FALSE NEIGHBOUR: 'it returns false'. Refute it at one input. -/
def terrainPlacesWrong : ChangeSpec := { name := "terrainPlaces", fn := fun _ => fun
  | [d1, d2, d3, d4, d5, d6] => { results := [.lit (.bool false)], args := [d1, d2, d3, d4, d5, d6] }
  | _ => none }
def TerrainPlacesWrongFalsely : Prop := terrainPlacesRow.holds Try.pinned (OpenSpec.ofChange terrainPlacesWrong)

/-- 'theodolitelaw45.WorldGround': WHATEVER THE INPUT: true; the input reads as it did. -/
def worldGroundSpec : ChangeSpec := { name := "worldGround", fn := fun _ => fun
  | [d1, d2, d3, d4, d5, d6, d7] => { results := [.lit (.bool true)], args := [d1, d2, d3, d4, d5, d6, d7] }
  | _ => none }
def worldGroundRow : OpenClaim := { program := "ytpmomimaihjmjaa", sum := "4e25e5ef0865d0275528ecf2a666fa638a1f08d75d93b07f11ff57a7be244244", func := "theodolite/theodolitelaw45.WorldGround", spec := "worldGround", inPlace := ["math/bits.Sub64"], unfollowed := true, recurses := true, named := ["math/bits.divideError", "math/bits.overflowError"], apart := false }
def WorldGroundSaid : Prop := worldGroundRow.holds Try.pinned (OpenSpec.ofChange worldGroundSpec)

/-- ITS FALSE NEIGHBOUR: 'it returns false'. Refute it at one input. -/
def worldGroundWrong : ChangeSpec := { name := "worldGround", fn := fun _ => fun
  | [d1, d2, d3, d4, d5, d6, d7] => { results := [.lit (.bool false)], args := [d1, d2, d3, d4, d5, d6, d7] }
  | _ => none }
def WorldGroundWrongFalsely : Prop := worldGroundRow.holds Try.pinned (OpenSpec.ofChange worldGroundWrong)

/- THE SECOND FORM. 'bulk': how many values and letters a reading holds, each counted each time it is reached (what is shared counts as often as it is met; a slice's spare places count too). A statement '..UptoSaid' is the law's where the arguments, and the package variables that the reading takes, are together of bulk at most 1048576: NARROWER than '..Said'. Prove '..Said' where nothing that the law and all that it calls make is longer than what came in: it says more and counts as full. Else prove '..UptoSaid'. A law counts once. -/
mutual
def uptoBulk {H : Type} : DataW H → Nat
  | .lit (.string bytes) => bytes.length + 1
  | .lit _ => 1
  | .nil => 1
  | .ptr d => uptoBulk d + 1
  | .slice elems spare => uptoBulkAll elems + uptoBulkAll spare + 1
  | .agg parts => uptoBulkAll parts + 1
  | .iface _ d => uptoBulk d + 1
  | .map entries => uptoBulkEntries entries + 1
  | .held _ => 1
def uptoBulkAll {H : Type} : List (DataW H) → Nat
  | [] => 0
  | d :: r => uptoBulk d + uptoBulkAll r
def uptoBulkEntries {H : Type} : List (Lit × DataW H) → Nat
  | [] => 0
  | x :: r => uptoBulkEntry x + uptoBulkEntries r
def uptoBulkEntry {H : Type} : Lit × DataW H → Nat
  | (.string bytes, d) => bytes.length + uptoBulk d + 1
  | (_, d) => uptoBulk d + 1
 end
def uptoSmall : (H : Type) → List (DataW H) → Bool := fun _ ds => decide (uptoBulkAll ds ≤ 1048576)
def OpenSpec.upto (s : _root_.Go.ChangeSpec) : _root_.Go.OpenSpec := { _root_.Go.OpenSpec.ofChange s with cond := some uptoSmall }

/-- 'theodolitelaw10.CacheReads', WHERE WHAT IT READS IS OF BULK AT MOST 1048576: true; the input reads as it did. -/
def cacheReadsUptoRow : OpenClaim := { program := "ytpmomimaihjmjaa", sum := "4e25e5ef0865d0275528ecf2a666fa638a1f08d75d93b07f11ff57a7be244244", func := "theodolite/theodolitelaw10.CacheReads", spec := "cacheReads", unfollowed := true, recurses := true, apart := false, narrowed := true }
def CacheReadsUptoSaid : Prop := cacheReadsUptoRow.holds Try.pinned (OpenSpec.upto cacheReadsSpec)

/-- 'theodolitelaw10.CacheKeeps', WHERE WHAT IT READS IS OF BULK AT MOST 1048576: true; the input reads as it did. -/
def cacheKeepsUptoRow : OpenClaim := { program := "ytpmomimaihjmjaa", sum := "4e25e5ef0865d0275528ecf2a666fa638a1f08d75d93b07f11ff57a7be244244", func := "theodolite/theodolitelaw10.CacheKeeps", spec := "cacheKeeps", unfollowed := true, recurses := true, apart := false, narrowed := true }
def CacheKeepsUptoSaid : Prop := cacheKeepsUptoRow.holds Try.pinned (OpenSpec.upto cacheKeepsSpec)

/-- 'theodolitelaw10.CacheNone', WHERE WHAT IT READS IS OF BULK AT MOST 1048576: true; the input reads as it did. -/
def cacheNoneUptoRow : OpenClaim := { program := "ytpmomimaihjmjaa", sum := "4e25e5ef0865d0275528ecf2a666fa638a1f08d75d93b07f11ff57a7be244244", func := "theodolite/theodolitelaw10.CacheNone", spec := "cacheNone", unfollowed := true, recurses := true, apart := false, narrowed := true }
def CacheNoneUptoSaid : Prop := cacheNoneUptoRow.holds Try.pinned (OpenSpec.upto cacheNoneSpec)

/-- 'theodolitelaw45.WorldGoes', WHERE WHAT IT READS IS OF BULK AT MOST 1048576: true; the input reads as it did. -/
def worldGoesUptoRow : OpenClaim := { program := "ytpmomimaihjmjaa", sum := "4e25e5ef0865d0275528ecf2a666fa638a1f08d75d93b07f11ff57a7be244244", func := "theodolite/theodolitelaw45.WorldGoes", spec := "worldGoes", inPlace := ["math/bits.Sub64"], unfollowed := true, recurses := true, named := ["math/bits.divideError", "math/bits.overflowError"], apart := false, narrowed := true }
def WorldGoesUptoSaid : Prop := worldGoesUptoRow.holds Try.pinned (OpenSpec.upto worldGoesSpec)

/-- 'theodolitelaw45.WorldNone', WHERE WHAT IT READS IS OF BULK AT MOST 1048576: true; the input reads as it did. -/
def worldNoneUptoRow : OpenClaim := { program := "ytpmomimaihjmjaa", sum := "4e25e5ef0865d0275528ecf2a666fa638a1f08d75d93b07f11ff57a7be244244", func := "theodolite/theodolitelaw45.WorldNone", spec := "worldNone", inPlace := ["math/bits.Sub64"], unfollowed := true, recurses := true, named := ["math/bits.divideError", "math/bits.overflowError"], apart := false, narrowed := true }
def WorldNoneUptoSaid : Prop := worldNoneUptoRow.holds Try.pinned (OpenSpec.upto worldNoneSpec)

/-- 'theodolitelaw11.TerrainHeights', WHERE WHAT IT READS IS OF BULK AT MOST 1048576: true; the input reads as it did. -/
def terrainHeightsUptoRow : OpenClaim := { program := "ytpmomimaihjmjaa", sum := "4e25e5ef0865d0275528ecf2a666fa638a1f08d75d93b07f11ff57a7be244244", func := "theodolite/theodolitelaw11.TerrainHeights", spec := "terrainHeights", inPlace := ["math/bits.Sub64"], unfollowed := true, recurses := true, named := ["math/bits.divideError", "math/bits.overflowError"], apart := false, narrowed := true }
def TerrainHeightsUptoSaid : Prop := terrainHeightsUptoRow.holds Try.pinned (OpenSpec.upto terrainHeightsSpec)

/-- 'theodolitelaw11.TerrainNear', WHERE WHAT IT READS IS OF BULK AT MOST 1048576: true; the input reads as it did. -/
def terrainNearUptoRow : OpenClaim := { program := "ytpmomimaihjmjaa", sum := "4e25e5ef0865d0275528ecf2a666fa638a1f08d75d93b07f11ff57a7be244244", func := "theodolite/theodolitelaw11.TerrainNear", spec := "terrainNear", inPlace := ["math/bits.Sub64"], unfollowed := true, recurses := true, named := ["math/bits.divideError", "math/bits.overflowError"], apart := false, narrowed := true }
def TerrainNearUptoSaid : Prop := terrainNearUptoRow.holds Try.pinned (OpenSpec.upto terrainNearSpec)

/-- 'theodolitelaw11.TerrainSlopes', WHERE WHAT IT READS IS OF BULK AT MOST 1048576: true; the input reads as it did. -/
def terrainSlopesUptoRow : OpenClaim := { program := "ytpmomimaihjmjaa", sum := "4e25e5ef0865d0275528ecf2a666fa638a1f08d75d93b07f11ff57a7be244244", func := "theodolite/theodolitelaw11.TerrainSlopes", spec := "terrainSlopes", inPlace := ["math/bits.Sub64"], unfollowed := true, recurses := true, named := ["math/bits.divideError", "math/bits.overflowError"], apart := false, narrowed := true }
def TerrainSlopesUptoSaid : Prop := terrainSlopesUptoRow.holds Try.pinned (OpenSpec.upto terrainSlopesSpec)

/-- 'theodolitelaw11.TerrainRough', WHERE WHAT IT READS IS OF BULK AT MOST 1048576: true; the input reads as it did. -/
def terrainRoughUptoRow : OpenClaim := { program := "ytpmomimaihjmjaa", sum := "4e25e5ef0865d0275528ecf2a666fa638a1f08d75d93b07f11ff57a7be244244", func := "theodolite/theodolitelaw11.TerrainRough", spec := "terrainRough", inPlace := ["math/bits.Sub64"], unfollowed := true, recurses := true, named := ["math/bits.divideError", "math/bits.overflowError"], apart := false, narrowed := true }
def TerrainRoughUptoSaid : Prop := terrainRoughUptoRow.holds Try.pinned (OpenSpec.upto terrainRoughSpec)

/-- 'theodolitelaw11.TerrainPlaces', WHERE WHAT IT READS IS OF BULK AT MOST 1048576: true; the input reads as it did. -/
def terrainPlacesUptoRow : OpenClaim := { program := "ytpmomimaihjmjaa", sum := "4e25e5ef0865d0275528ecf2a666fa638a1f08d75d93b07f11ff57a7be244244", func := "theodolite/theodolitelaw11.TerrainPlaces", spec := "terrainPlaces", inPlace := ["math/bits.Sub64"], unfollowed := true, recurses := true, named := ["math/bits.divideError", "math/bits.overflowError"], apart := false, narrowed := true }
def TerrainPlacesUptoSaid : Prop := terrainPlacesUptoRow.holds Try.pinned (OpenSpec.upto terrainPlacesSpec)

/-- 'theodolitelaw45.WorldGround', WHERE WHAT IT READS IS OF BULK AT MOST 1048576: true; the input reads as it did. -/
def worldGroundUptoRow : OpenClaim := { program := "ytpmomimaihjmjaa", sum := "4e25e5ef0865d0275528ecf2a666fa638a1f08d75d93b07f11ff57a7be244244", func := "theodolite/theodolitelaw45.WorldGround", spec := "worldGround", inPlace := ["math/bits.Sub64"], unfollowed := true, recurses := true, named := ["math/bits.divideError", "math/bits.overflowError"], apart := false, narrowed := true }
def WorldGroundUptoSaid : Prop := worldGroundUptoRow.holds Try.pinned (OpenSpec.upto worldGroundSpec)

end Rows
end Go.Proofs.Ytpmomimaihjmjaa
