/- The reference's layer 1: bits as bytes, and back; two rows of bytes held against each other. -/
import Derived.Test.YtokoopdkofgabaaEngX
import Derived.Test.YtokoopdkofgabaaBits3
namespace Go.Proofs.Ytokoopdkofgabaa
open Go.RowKit
theorem pack_u8 (l : List Bool) : U8s (pack l) := by
  intro x hx
  unfold pack at hx
  obtain ⟨k, -, rfl⟩ := List.mem_map.1 hx
  have := packAt_lt l k
  omega
theorem and_bit : ∀ (x : Fin 256) (r : Fin 8), (bits .and .u8 ((x : Nat) : Int) (128 / 2 ^ (r : Nat)) != 0) = ((x : Nat) / 2 ^ (7 - (r : Nat)) % 2 == 1) := by decide +kernel
theorem packAt_bit (l : List Bool) (j r : Nat) (h : r < 8) : packAt l j / 2 ^ (7 - r) % 2 = bitN l (8 * j + r) := by
  have o := bitN_le l
  have h0 := o (8 * j); have h1 := o (8 * j + 1); have h2 := o (8 * j + 2); have h3 := o (8 * j + 3); have h4 := o (8 * j + 4); have h5 := o (8 * j + 5); have h6 := o (8 * j + 6); have h7 := o (8 * j + 7)
  unfold packAt
  obtain rfl | rfl | rfl | rfl | rfl | rfl | rfl | rfl : r = 0 ∨ r = 1 ∨ r = 2 ∨ r = 3 ∨ r = 4 ∨ r = 5 ∨ r = 6 ∨ r = 7 := by omega
  all_goals
    simp only [Nat.reduceSub, Nat.reducePow, Nat.add_zero]
    omega
theorem bitY_pack (l : List Bool) (i : Nat) (h : i < l.length) : bitY (pack l) i = l.getD i false := by
  have e : (pack l).getD (i / 8) 0 = (packAt l (i / 8) : Nat) := by
    rw [List.getD_eq_getElem?_getD, getElem?_pack, if_pos (by omega)]; rfl
  unfold bitY
  rw [e, and_bit ⟨packAt l (i / 8), packAt_lt _ _⟩ ⟨i % 8, by omega⟩]
  show (packAt l (i / 8) / 2 ^ (7 - i % 8) % 2 == 1) = _
  rw [packAt_bit l (i / 8) (i % 8) (by omega), show 8 * (i / 8) + i % 8 = i from by omega]
  unfold bitN
  cases l.getD i false <;> simp
theorem isAt_pack (a l b : List Bool) : isAt (pack (a ++ l ++ b)) a.length l := by
  refine ⟨?_, fun i hi => ?_⟩
  · rw [pack_len]; simp only [List.length_append]; omega
  · rw [bitY_pack _ _ (by simp only [List.length_append]; omega), List.append_assoc, getD_append_right (by omega), Nat.add_sub_cancel_left, getD_append_left hi]
theorem isAt_pack0 (l : List Bool) : isAt (pack l) 0 l := by
  have := isAt_pack [] l []
  simpa using this
/-- The bits of bytes. -/
def rowY (ys : List Int) : List Bool := (List.range (8 * ys.length)).map (bitY ys)
theorem rowY_len (ys : List Int) : (rowY ys).length = 8 * ys.length := by simp [rowY]
theorem rowY_get (ys : List Int) (i : Nat) (h : i < 8 * ys.length) : (rowY ys).getD i false = bitY ys i := by simp [rowY, List.getD_eq_getElem?_getD, h]
attribute [local irreducible] OJ J HdJ Code.wpIn wpListIn Oper.wpIn bodyPost CallsIn Does
set_option maxRecDepth 4000
end Go.Proofs.Ytokoopdkofgabaa
