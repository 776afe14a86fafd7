/- Layer 37: the walk of RayUnder. -/
import Derived.Test.YtokoopdkofgabaaRayT
import Derived.Test.YtokoopdkofgabaaField8
namespace Go.Proofs.Ytokoopdkofgabaa
open Go.RowKit
theorem wrap16 (x : Int) : InR .i16 (IntKind.i16.wrap x) := by
  have h : IntKind.i16.wrap x = if 32768 ≤ x % 65536 then x % 65536 - 65536 else x % 65536 := by simp [IntKind.wrap, IntKind.bits, IntKind.signed]
  rw [h]
  show -32768 ≤ _ ∧ _ ≤ 32767
  split <;> omega
theorem fieldF_in {z : List Int} (hz : ∀ v ∈ z, InR .i16 v) (m : Nat) : ∀ v ∈ fieldF z m, InR .i16 v := by
  intro v hv
  unfold fieldF at hv
  obtain ⟨i, -, rfl⟩ := List.mem_map.1 hv
  unfold fieldV
  split
  · rename_i h
    rw [List.getD_eq_getElem?_getD, List.getElem?_eq_getElem h]
    exact hz _ (List.getElem_mem ..)
  split
  · exact wrap16 _
  · show -32768 ≤ ((i % 7 : Nat) : Int) ∧ ((i % 7 : Nat) : Int) ≤ 32767
    omega
/-- A field's pyramid. -/
theorem newF (W H : Nat) (z : List Int) (m : Nat) (hm : m = W * H) (hW : 2 ≤ W ∧ W ≤ 40) (hH : 2 ≤ H ∧ H ≤ 40) (hz : ∀ v ∈ z, InR .i16 v) (A : Option Addr) (c : Nat) (w : World) (hr : RoA w (blocks []) A (fieldF z m).length c 1 (ints .i16 (fieldF z m))) :
    Does Try.prog 40 [.agg #[.int .i64 W, .int .i64 H, .slice A (fieldF z m).length c]] [] w (fun v S' => ∃ p AL cL st, Pyr37 W H (fieldF z m) st ∧ v = .tuple #[.pointer (some ⟨p, 0, none⟩), .int .i64 0] ∧ S' = pyrH p AL cL st 0) :=
  newP W H A c (fieldF z m) w hr (fieldF_in hz m) (by unfold chkF; rw [if_neg (by omega), if_pos (by rw [fieldF_len, hm]; push_cast; rfl)]) ⟨by omega, by omega, by omega, by omega⟩ (by rw [fieldF_len, hm])
attribute [local irreducible] OJ J HdJ Code.wpIn wpListIn Oper.wpIn bodyPost CallsIn Does
set_option maxRecDepth 4000
end Go.Proofs.Ytokoopdkofgabaa
