/- Lines, the plain law: rows one behind the other; there and back. -/
import Derived.Test.YtokoopdkofgabaaRayP
namespace Go.Proofs.Ytokoopdkofgabaa
open Go.RowKit
theorem rows_len {ax ay bx by_ : Int} (hl : Line37 ax ay bx by_) : (rowsL ax ay bx by_).length = rowsN ay by_ ∧ 0 < rowsN ay by_ ∧ (rowsN ay by_ : Int) = max ay by_ / 256 - (cdiv (min ay by_) 256 - 1) + 1 := by
  have hge := nonneg_rows (a := min ay by_) (b := max ay by_) (by omega)
  exact ⟨by unfold rowsL; rw [if_pos hl, List.length_map, List.length_range], by unfold rowsN; omega, by unfold rowsN; omega⟩
theorem rows_y {ax ay bx by_ : Int} (hl : Line37 ax ay bx by_) (i : Nat) (hi : i < (rowsL ax ay bx by_).length) : ((rowsL ax ay bx by_).getD i default).1 = cdiv (min ay by_) 256 - 1 + i := by
  rw [(rows_len hl).1] at hi
  unfold rowsL
  rw [if_pos hl, List.getD_eq_getElem?_getD, List.getElem?_map, List.getElem?_range hi]
  rfl
theorem line_sym {ax ay bx by_ : Int} : Line37 bx by_ ax ay ↔ Line37 ax ay bx by_ := by unfold Line37; omega
theorem chk_sym (ax ay bx by_ : Int) : chk37 bx by_ ax ay = chk37 ax ay bx by_ := by
  unfold chk37
  by_cases h : Line37 ax ay bx by_
  · rw [if_pos h, if_pos (line_sym.2 h)]
  · rw [if_neg h, if_neg (fun q => h (line_sym.1 q))]
theorem len_sym (ax ay bx by_ : Int) : lenF bx by_ ax ay = lenF ax ay bx by_ := by
  unfold lenF
  have e1 : (ax - bx) * (ax - bx) = (bx - ax) * (bx - ax) := by grind
  have e2 : (ay - by_) * (ay - by_) = (by_ - ay) * (by_ - ay) := by grind
  by_cases h : Line37 ax ay bx by_
  · rw [if_pos h, if_pos (line_sym.2 h), e1, e2]
  · rw [if_neg h, if_neg (fun q => h (line_sym.1 q))]
theorem rows_sym (ax ay bx by_ : Int) : rowsL bx by_ ax ay = rowsL ax ay bx by_ := by
  unfold rowsL
  by_cases h : Line37 ax ay bx by_
  · rw [if_pos h, if_pos (line_sym.2 h)]
    have en : rowsN by_ ay = rowsN ay by_ := by unfold rowsN; rw [Int.max_comm, Int.min_comm]
    rw [en]
    refine List.map_congr_left fun i _ => ?_
    unfold rowAt37
    rw [Int.min_comm by_ ay]
    congr 1
    rcases Int.lt_trichotomy ay by_ with h1 | h1 | h1
    · rw [if_neg (by omega), if_pos (by omega)]
    · subst h1
      rw [if_pos (Int.le_refl _), if_pos (Int.le_refl _)]
      unfold stripF
      rw [if_pos (by omega), if_pos (by omega), Int.min_comm, Int.max_comm]
    · rw [if_pos (by omega), if_neg (by omega)]
  · rw [if_neg h, if_neg (fun q => h (line_sym.1 q))]
theorem tou_bnd {ax ay bx by_ x y : Int} (hl : Line37 ax ay bx by_) (h : touP ax ay bx by_ x y) : (-600 ≤ x ∧ x ≤ 600) ∧ (-600 ≤ y ∧ y ≤ 600) := by
  obtain ⟨⟨a, b⟩, ⟨c, d⟩, -⟩ := h
  unfold Line37 at hl
  omega
theorem strip_bnd {ax ay bx by_ : Int} (hl : Line37 ax ay bx by_) (i : Nat) (hi : i < (rowsL ax ay bx by_).length) :
    (-600 ≤ ((rowsL ax ay bx by_).getD i default).1 ∧ ((rowsL ax ay bx by_).getD i default).1 ≤ 600) ∧ (-600 ≤ ((rowsL ax ay bx by_).getD i default).2.1 ∧ ((rowsL ax ay bx by_).getD i default).2.1 ≤ 600) ∧ (-600 ≤ ((rowsL ax ay bx by_).getD i default).2.2 ∧ ((rowsL ax ay bx by_).getD i default).2.2 ≤ 600) := by
  obtain ⟨h1, h2, h3⟩ := row_fact hl i hi
  have t1 := tou_bnd hl ((h3 _).2 ⟨Int.le_refl _, h1⟩)
  have t2 := tou_bnd hl ((h3 _).2 ⟨h1, Int.le_refl _⟩)
  exact ⟨t1.2, t1.1, t2.1⟩
theorem tell_tou {ax ay bx by_ : Int} (hl : Line37 ax ay bx by_) (x y : Int) : rowTell (rowsL ax ay bx by_) x y = touB ax ay bx by_ x y := by
  by_cases he : ∃ i, i < (rowsL ax ay bx by_).length ∧ ((rowsL ax ay bx by_).getD i default).1 = y
  · obtain ⟨i, hi, hy⟩ := he
    rw [tell_some hi hy (fun j hj => by have := rows_y hl i hi; have := rows_y hl j (by omega); omega)]
    have h3 := (row_fact hl i hi).2.2 x
    rw [hy] at h3
    unfold touB
    rw [Bool.eq_iff_iff, decide_eq_true_iff, h3]
    simp
  · rw [tell_none (fun i hi hy => he ⟨i, hi, hy⟩)]
    unfold touB
    rw [eq_comm, decide_eq_false_iff_not]
    exact fun h => he (row_ex hl h)
theorem tell_off {ax ay bx by_ : Int} (hl : ¬ Line37 ax ay bx by_) (x y : Int) : rowTell (rowsL ax ay bx by_) x y = false := by
  have : rowsL ax ay bx by_ = [] := if_neg hl
  rw [this]
  rfl
end Go.Proofs.Ytokoopdkofgabaa
