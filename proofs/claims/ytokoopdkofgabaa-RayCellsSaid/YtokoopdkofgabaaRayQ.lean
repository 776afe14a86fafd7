/- Lines, the plain law: rows one behind the other; there and back. -/
import Derived.Test.YtokoopdkofgabaaRayP
namespace Go.Proofs.Ytokoopdkofgabaa
open Go.RowKit
theorem rows_len {ax ay bx by_ : Int} (hl : Line37 ax ay bx by_) : (rowsL ax ay bx by_).length = rowsN ay by_ ∧ 0 < rowsN ay by_ ∧ (rowsN ay by_ : Int) = max ay by_ / 256 - (cdiv (min ay by_) 256 - 1) + 1 := by
  have hge := nonneg_rows (a := min ay by_) (b := max ay by_) (by omega)
  exact ⟨by unfold rowsL; rw [if_pos hl, List.length_map, List.length_range], by unfold rowsN; omega, by unfold rowsN; omega⟩
theorem rows_y {ax ay bx by_ : Int} (hl : Line37 ax ay bx by_) (i : Nat) (hi : i < (rowsL ax ay bx by_).length) : ((rowsL ax ay bx by_).getD i default).1 = cdiv (min ay by_) 256 - 1 + i := by
  rw [(rows_len hl).1] at hi
  unfold rowsL
  rw [if_pos hl, List.getD_eq_getElem?_getD, List.getElem?_map, List.getElem?_range hi]
  rfl
theorem tou_bnd {ax ay bx by_ x y : Int} (hl : Line37 ax ay bx by_) (h : touP ax ay bx by_ x y) : (-600 ≤ x ∧ x ≤ 600) ∧ (-600 ≤ y ∧ y ≤ 600) := by
  obtain ⟨⟨a, b⟩, ⟨c, d⟩, -⟩ := h
  unfold Line37 at hl
  omega
theorem strip_bnd {ax ay bx by_ : Int} (hl : Line37 ax ay bx by_) (i : Nat) (hi : i < (rowsL ax ay bx by_).length) :
    (-600 ≤ ((rowsL ax ay bx by_).getD i default).1 ∧ ((rowsL ax ay bx by_).getD i default).1 ≤ 600) ∧ (-600 ≤ ((rowsL ax ay bx by_).getD i default).2.1 ∧ ((rowsL ax ay bx by_).getD i default).2.1 ≤ 600) ∧ (-600 ≤ ((rowsL ax ay bx by_).getD i default).2.2 ∧ ((rowsL ax ay bx by_).getD i default).2.2 ≤ 600) := by
  obtain ⟨h1, h2, h3⟩ := row_fact hl i hi
  have t1 := tou_bnd hl ((h3 _).2 ⟨Int.le_refl _, h1⟩)
  have t2 := tou_bnd hl ((h3 _).2 ⟨h1, Int.le_refl _⟩)
  exact ⟨t1.2, t1.1, t2.1⟩
end Go.Proofs.Ytokoopdkofgabaa
