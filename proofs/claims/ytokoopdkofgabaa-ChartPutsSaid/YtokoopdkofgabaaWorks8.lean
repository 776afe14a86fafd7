/- Layer 8's statements: the walks of the laws' own functions. -/
import Derived.Test.YtokoopdkofgabaaTile5
namespace Go.Proofs.Ytokoopdkofgabaa
open Go.RowKit
theorem back8 {wd : Nat} (hw : 0 < wd) {z zs : List Int} (hl : zs.length = z.length) (h1 : In16 z) (h2 : In16 zs) (he : pack (rowB (deltas zs wd)) = pack (rowB (deltas z wd))) : zs = z := by
  have hat : isAt (pack (rowB (deltas z wd))) 0 (rowB (deltas zs wd)) := by rw [← he]; exact isAt_pack0 _
  have e := row_back (isAt_pack0 (rowB (deltas z wd))) hat (by rw [deltas_len, deltas_len, hl]) (deltas_fits h1 wd) (deltas_fits h2 wd)
  have := deltas_same hw zs z (by omega) (fun j hj => by rw [← deltas_get zs wd j hj, e, deltas_get z wd j (by omega)]) zs.length (Nat.le_refl _)
  rw [List.take_of_length_le (Nat.le_refl zs.length), hl, List.take_of_length_le (Nat.le_refl z.length)] at this
  exact this.symm
theorem putB_ok {a b : Int} {z : List Int} (h : rightB a b = true ∧ (z.length : Int) = a * b) : putB a b z = some (pack (rowB (deltas z a.toNat))) ∧ putC a b z = 0 := ⟨if_pos h, if_pos h⟩
theorem Sub.appR : ∀ (T L : List HE), Sub L (T ++ L)
  | [], L => Sub.refl L
  | y :: r, L => (Sub.appR r L).skip y
attribute [local irreducible] OJ J HdJ Code.wpIn wpListIn Oper.wpIn bodyPost CallsIn Does
set_option maxRecDepth 4000
end Go.Proofs.Ytokoopdkofgabaa
