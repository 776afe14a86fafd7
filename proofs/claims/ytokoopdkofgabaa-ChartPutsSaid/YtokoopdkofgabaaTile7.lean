/- The plain law of tiles: the reference's cut is the box's; all tiles laid make the field. -/
import Derived.Test.YtokoopdkofgabaaTile6
namespace Go.Proofs.Ytokoopdkofgabaa
open Go.RowKit
theorem wr64_in {x : Int} (h : -1000000 ≤ x ∧ x ≤ 1000000) : wr64 x = x := by unfold wr64; exact IntWalk.i64_in (by omega) (by omega)
theorem inW_iff (x y : Nat) {X Y : Int} (hX : -1000 ≤ X ∧ X ≤ 1000) (hY : -1000 ≤ Y ∧ Y ≤ 1000) : inW x y X Y = true ↔ 0 ≤ X ∧ 0 ≤ Y ∧ 16 * X ≤ x ∧ (x : Int) < 16 * X + 16 ∧ 16 * Y ≤ y ∧ (y : Int) < 16 * Y + 16 := by
  unfold inW
  rw [wr64_in (x := 16 * X) (by omega), wr64_in (x := 16 * Y) (by omega), wr64_in (by omega), wr64_in (by omega)]
  simp
/-- Outside. -/
theorem none8 {W H : Nat} {X Y : Int} {y : Nat} (h : ∀ x, x < W → inW x y X Y = false) (z : List Int) : ∀ x, x ≤ W → rowN X Y y x = 0 ∧ rowZ W z X Y y x = []
  | 0, _ => ⟨rfl, rfl⟩
  | x + 1, hx => by
    have h1 := h x (by omega)
    have ih := none8 (H := H) h z x (by omega)
    rw [rowN, rowZ, h1]
    simpa using ih
theorem noneAll {W H : Nat} {X Y : Int} (h : ∀ x y, x < W → y < H → inW x y X Y = false) (z : List Int) : ∀ y, y ≤ H → allZ W z X Y y = [] ∧ wideN W X Y y = 0 ∧ highN W X Y y = 0
  | 0, _ => ⟨rfl, rfl, rfl⟩
  | y + 1, hy => by
    obtain ⟨h1, h2⟩ := none8 (H := H) (fun x hx => h x y hx (by omega)) z W (Nat.le_refl _)
    obtain ⟨i1, i2, i3⟩ := noneAll h z y (by omega)
    rw [allZ, wideN, highN, h1, h2, i1, i2, i3]
    simp
/-- A row of a tile. -/
theorem some8 {W x0 bw y : Nat} {X Y : Int} {z : List Int} (h : ∀ x, x < W → (inW x y X Y = true ↔ x0 ≤ x ∧ x < x0 + bw)) (hz : y * W + W ≤ z.length) : ∀ x, x ≤ W → rowN X Y y x = min x (x0 + bw) - x0 ∧ rowZ W z X Y y x = (z.drop (y * W + x0)).take (min x (x0 + bw) - x0)
  | 0, _ => by simp [rowN, rowZ]
  | x + 1, hx => by
    have h1 := h x (by omega)
    obtain ⟨i1, i2⟩ := some8 h hz x (by omega)
    rw [rowN, rowZ]
    by_cases hin : x0 ≤ x ∧ x < x0 + bw
    · rw [if_pos (h1.2 hin), if_pos (h1.2 hin), i1, i2]
      refine ⟨by omega, ?_⟩
      have e1 : min x (x0 + bw) - x0 = x - x0 := by omega
      have e2 : min (x + 1) (x0 + bw) - x0 = (x - x0) + 1 := by omega
      rw [e1, e2, List.take_succ_eq_append_getElem (by rw [List.length_drop]; omega), List.getElem_drop, List.getD_eq_getElem?_getD, List.getElem?_eq_getElem (by omega)]
      congr 3
      simp only [Option.getD_some]
      congr 1
      omega
    · have hn : ¬ inW x y X Y = true := fun e => hin (h1.1 e)
      rw [if_neg hn, if_neg hn, i1, i2]
      have e : min (x + 1) (x0 + bw) - x0 = min x (x0 + bw) - x0 := by omega
      rw [e]
      exact ⟨rfl, rfl⟩
theorem someAll {W H x0 bw y0 bh : Nat} {X Y : Int} {z : List Int} (h : ∀ x y, x < W → y < H → (inW x y X Y = true ↔ (x0 ≤ x ∧ x < x0 + bw) ∧ (y0 ≤ y ∧ y < y0 + bh))) (hb : 0 < bw ∧ x0 + bw ≤ W) (hz : z.length = W * H) :
    ∀ y, y ≤ H → allZ W z X Y y = cutTo z W x0 y0 bw (min y (y0 + bh) - y0) ∧ wideN W X Y y = (if y0 < y ∧ 0 < bh then bw else 0) ∧ highN W X Y y = min y (y0 + bh) - y0
  | 0, _ => by simp [allZ, wideN, highN, cutTo]
  | y + 1, hy => by
    obtain ⟨i1, i2, i3⟩ := someAll h hb hz y (by omega)
    have hyW2 : y * W + W ≤ W * H := by
      have h1 : (y + 1) * W ≤ H * W := Nat.mul_le_mul_right _ hy
      rw [Nat.add_mul, Nat.one_mul, Nat.mul_comm H] at h1; exact h1
    rw [allZ, wideN, highN]
    by_cases hin : y0 ≤ y ∧ y < y0 + bh
    · obtain ⟨h1, h2⟩ := some8 (W := W) (x0 := x0) (bw := bw) (y := y) (X := X) (Y := Y) (z := z) (fun x hx => by rw [h x y hx (by omega)]; exact ⟨fun e => e.1, fun e => ⟨e, hin⟩⟩) (by omega) W (Nat.le_refl _)
      have e0 : min W (x0 + bw) - x0 = bw := by omega
      rw [e0] at h1 h2
      rw [h1, h2, if_pos hb.1, if_pos hb.1, i1, i3, if_pos (by omega)]
      have e1 : min y (y0 + bh) - y0 = y - y0 := by omega
      have e2 : min (y + 1) (y0 + bh) - y0 = (y - y0) + 1 := by omega
      rw [e1, e2, cutTo]
      unfold rowAt
      rw [show y0 + (y - y0) = y from by omega]
      exact ⟨rfl, rfl, rfl⟩
    · obtain ⟨h1, h2⟩ := none8 (W := W) (H := H) (X := X) (Y := Y) (y := y) (fun x hx => by rw [← Bool.not_eq_true, h x y hx (by omega)]; exact fun e => hin e.2) z W (Nat.le_refl _)
      rw [h1, h2, i1, i2, i3]
      have e : min (y + 1) (y0 + bh) - y0 = min y (y0 + bh) - y0 := by omega
      rw [e]
      refine ⟨by simp, ?_, by simp⟩
      simp only [Nat.lt_irrefl, if_false]
      congr 1
      apply propext
      omega
/-- The reference's cut is the box's. -/
theorem cut_same {W H : Nat} {X Y : Int} {z : List Int} (hX : -1000 ≤ X ∧ X ≤ 1000) (hY : -1000 ≤ Y ∧ Y ≤ 1000) (hz : z.length = W * H) :
    allZ W z X Y H = cutF W H z X Y ∧ wideN W X Y H = (boxF W H X Y).2.2.1 ∧ highN W X Y H = (boxF W H X Y).2.2.2 := by
  unfold cutF boxF
  by_cases hb : boxIs W H X Y = true
  · rw [if_pos hb]
    rw [boxIs_iff] at hb
    unfold cntF at hb
    obtain ⟨a, rfl⟩ : ∃ a : Nat, X = a := ⟨X.toNat, by omega⟩
    obtain ⟨b, rfl⟩ : ∃ b : Nat, Y = b := ⟨Y.toNat, by omega⟩
    simp only [Int.toNat_natCast]
    have := someAll (W := W) (H := H) (x0 := 16 * a) (y0 := 16 * b) (bw := min 16 (W - 16 * a)) (bh := min 16 (H - 16 * b)) (X := a) (Y := b) (z := z) (fun x y hx hy => by rw [inW_iff x y hX hY]; omega) (by omega) hz H (Nat.le_refl _)
    rw [show min H (16 * b + min 16 (H - 16 * b)) - 16 * b = min 16 (H - 16 * b) from by omega, if_pos (by omega)] at this
    exact this
  · rw [if_neg hb]
    rw [boxIs_iff] at hb
    unfold cntF at hb
    have := noneAll (W := W) (H := H) (X := X) (Y := Y) (fun x y hx hy => by rw [← Bool.not_eq_true, inW_iff x y hX hY]; omega) z H (Nat.le_refl _)
    exact this
theorem lay_get (z : List Int) (l : Nat) (ys : List Int) (h : l + ys.length ≤ z.length) (p : Nat) : (lay z l ys).getD p 0 = if l ≤ p ∧ p < l + ys.length then ys.getD (p - l) 0 else z.getD p 0 := by
  unfold lay
  simp only [List.getD_eq_getElem?_getD]
  rw [List.append_assoc, List.getElem?_append, List.length_take]
  split
  · rw [if_neg (by omega), List.getElem?_take_of_lt (by omega)]
  · rw [List.getElem?_append]
    split
    · rw [if_pos (by omega), show p - min l z.length = p - l from by omega]
    · rw [if_neg (by omega), List.getElem?_drop]
      congr 2
      omega
theorem cut_part {z : List Int} {W H x y bw : Nat} {bh : Nat} (hz : z.length = W * H) (hx : x + bw ≤ W) (hy : y + bh ≤ H) {r : Nat} (hr : r < bh) : ∀ n, r < n → n ≤ bh → ((cutTo z W x y bw n).drop (r * bw)).take bw = rowAt z W x y bw r
  | 0, h, _ => absurd h (by omega)
  | n + 1, h, hn => by
    have hl := cutTo_len hz hx hy n (by omega)
    have hra := rowAt_len hz hx hy hr
    rw [cutTo]
    rcases Nat.lt_or_ge r n with h1 | h1
    · have h2 : (r + 1) * bw ≤ n * bw := Nat.mul_le_mul_right _ h1
      rw [Nat.add_mul, Nat.one_mul] at h2
      rw [List.drop_append_of_le_length (by omega), List.take_append_of_le_length (by rw [List.length_drop]; omega)]
      exact cut_part hz hx hy hr n h1 (by omega)
    · obtain rfl : r = n := by omega
      rw [← hl, List.drop_append_of_le_length (Nat.le_refl _), List.drop_length, List.nil_append]
      exact List.take_of_length_le (by omega)
theorem lay_keep {z g : List Int} {W H x y bw bh : Nat} (hz : z.length = W * H) (hg : g.length = W * H) (hx : x + bw ≤ W) (hy : y + bh ≤ H) {p : Nat} : ∀ R, R ≤ bh → (g.getD p 0 = z.getD p 0 ∨ ∃ r, r < R ∧ (y + r) * W + x ≤ p ∧ p < (y + r) * W + x + bw) → (layTo (cutTo z W x y bw bh) W x y bw g R).getD p 0 = z.getD p 0
  | 0, _, h => by
    rcases h with h | ⟨r, hr, -⟩
    · exact h
    · omega
  | R + 1, hR, h => by
    have hcl : (cutTo z W x y bw bh).length = bw * bh := by rw [cutTo_len hz hx hy bh (Nat.le_refl _), Nat.mul_comm]
    have hll := layTo_len hg hx hy hcl R (by omega)
    have hra := rowAt_len hz hx hy (by omega : R < bh)
    have hle := at_le hx hy (by omega : R < bh)
    rw [layTo, cut_part hz hx hy (by omega : R < bh) bh (by omega) (Nat.le_refl _), lay_get _ _ _ (by rw [hra, hll]; omega), hra]
    split
    · rename_i hp
      unfold rowAt
      simp only [List.getD_eq_getElem?_getD]
      rw [List.getElem?_take_of_lt (by omega), List.getElem?_drop]
      congr 2
      omega
    · rename_i hp
      refine lay_keep hz hg hx hy R (by omega) ?_
      rcases h with h | ⟨r, hr, hp1, hp2⟩
      · exact .inl h
      · rcases Nat.lt_or_ge r R with h1 | h1
        · exact .inr ⟨r, h1, hp1, hp2⟩
        · obtain rfl : r = R := by omega
          exact absurd ⟨hp1, hp2⟩ hp
/-- Tile i, k laid. -/
def layF (W H : Nat) (z g : List Int) (i k : Nat) : List Int := layTo (cutF W H z i k) W (boxF W H i k).1 (boxF W H i k).2.1 (boxF W H i k).2.2.1 g (boxF W H i k).2.2.2
theorem box_at {W H i k : Nat} (hi : i < cntF W) (hk : k < cntF H) : boxF W H i k = (16 * i, 16 * k, min 16 (W - 16 * i), min 16 (H - 16 * k)) := by
  unfold boxF
  rw [if_pos ((boxIs_iff ..).2 (by omega)), Int.toNat_natCast, Int.toNat_natCast]
theorem box_size {W H i k : Nat} (hi : i < cntF W) (hk : k < cntF H) {z : List Int} (hz : z.length = W * H) : (cutF W H z i k).length = (boxF W H i k).2.2.1 * (boxF W H i k).2.2.2 ∧ 0 < (boxF W H i k).2.2.1 := by
  have hbx := boxF_in W H i k
  refine ⟨?_, ?_⟩
  · unfold cutF
    rw [cutTo_len hz hbx.1 hbx.2.1 _ (Nat.le_refl _), Nat.mul_comm]
  · rw [box_at hi hk]
    unfold cntF at hi
    simp only
    omega
end Go.Proofs.Ytokoopdkofgabaa
