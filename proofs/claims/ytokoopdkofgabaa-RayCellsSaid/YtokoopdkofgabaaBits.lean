/- Package bits: the writer and the reader. -/
import Derived.Test.YtokoopdkofgabaaTab
namespace Go.Proofs.Ytokoopdkofgabaa
open Go.RowKit

/-- Bits as bytes, the highest of each byte first. -/
def bitN (bs : List Bool) (i : Nat) : Nat := if bs.getD i false then 1 else 0
def packAt (bs : List Bool) (k : Nat) : Nat := 128 * bitN bs (8 * k) + 64 * bitN bs (8 * k + 1) + 32 * bitN bs (8 * k + 2) + 16 * bitN bs (8 * k + 3) + 8 * bitN bs (8 * k + 4) + 4 * bitN bs (8 * k + 5) + 2 * bitN bs (8 * k + 6) + bitN bs (8 * k + 7)
def pack (bs : List Bool) : List Int := (List.range ((bs.length + 7) / 8)).map fun k => (packAt bs k : Int)

def grow (bs : List Bool) : List Int := if bs.length % 8 = 0 then pack bs ++ [0] else pack bs
theorem getElem?_pack (bs : List Bool) (k : Nat) : (pack bs)[k]? = if k < (bs.length + 7) / 8 then some (packAt bs k : Int) else none := by
  unfold pack
  rw [List.getElem?_map]
  by_cases h : k < (bs.length + 7) / 8
  · simp [h]
  · simp [h]
attribute [local irreducible] OJ J HdJ Code.wpIn wpListIn Oper.wpIn bodyPost CallsIn Does
set_option maxRecDepth 4000
end Go.Proofs.Ytokoopdkofgabaa
