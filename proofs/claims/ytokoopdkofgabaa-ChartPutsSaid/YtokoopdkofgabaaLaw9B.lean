/- Layer 9's statements: the walk of ChartBack. -/
import Derived.Test.YtokoopdkofgabaaWorks9
namespace Go.Proofs.Ytokoopdkofgabaa
open Go.RowKit
theorem wr16_in (x : Int) : -32768 ≤ IntKind.i16.wrap x ∧ IntKind.i16.wrap x ≤ 32767 := by
  have h : IntKind.i16.wrap x = if 32768 ≤ x % 65536 then x % 65536 - 65536 else x % 65536 := by simp [IntKind.wrap, IntKind.bits, IntKind.signed]
  rw [h]
  split <;> omega
theorem field_in16 {z : List Int} (hz : ∀ v ∈ z, InR .i16 v) (m : Nat) : In16 (fieldF z m) := in16_of fun v hv => by
  unfold fieldF at hv
  obtain ⟨i, -, rfl⟩ := List.mem_map.1 hv
  unfold fieldV
  split
  · rename_i h
    rw [List.getD_eq_getElem?_getD, List.getElem?_eq_getElem h]
    exact hz _ (List.getElem_mem ..)
  split
  · exact wr16_in _
  · show -32768 ≤ ((i % 7 : Nat) : Int) ∧ ((i % 7 : Nat) : Int) ≤ 32767
    omega
theorem i32_u32 {x : Int} (h : InR .i32 x) : i32N (u32N x) = x := by
  have h1 : -2147483648 ≤ x ∧ x ≤ 2147483647 := h
  unfold i32N u32N
  generalize hn : (((x % 4294967296).toNat : Nat) : Int) = n
  have e : IntKind.i32.wrap n = if 2147483648 ≤ n % 4294967296 then n % 4294967296 - 4294967296 else n % 4294967296 := by simp [IntKind.wrap, IntKind.bits, IntKind.signed]
  rw [e]
  split <;> omega
theorem chart_good {W H cell : Nat} {ox oy : Int} {z : List Int} (hW : 2 ≤ W ∧ W ≤ 256 ∧ 2 ≤ H ∧ H ≤ 256 ∧ 1 ≤ cell ∧ cell ≤ 1000) (hz : z.length = W * H) (hi : In16 z) : Good9 (chartB W H cell ox oy z) z := by
  obtain ⟨-, h2, h3, -⟩ := chart_hdr (W := W) (H := H) (cell := cell) (ox := ox) (oy := oy) (z := z) (by omega)
  refine ⟨hi, by rw [h2, h3, hz], fun j hj => ?_⟩
  rw [h2, h3]
  exact chart_seg (by omega) hz (by unfold nY at hj; rw [h2, h3] at hj; exact hj)
theorem chart_big {W H cell : Nat} {ox oy : Int} {z : List Int} (hW : W ≤ 256 ∧ H ≤ 256) (hz : z.length = W * H) : headN W H ≤ (chartB W H cell ox oy z).length ∧ (chartB W H cell ox oy z).length < 1000000 := by
  have h1 := nT_le hW
  have h2 := bodyTo_len hz (nT W H)
  rw [chartB_len]
  have : headN W H = 22 + 6 * nT W H := rfl
  omega
attribute [local irreducible] OJ J HdJ Code.wpIn wpListIn Oper.wpIn bodyPost CallsIn Does
set_option maxRecDepth 4000
end Go.Proofs.Ytokoopdkofgabaa
