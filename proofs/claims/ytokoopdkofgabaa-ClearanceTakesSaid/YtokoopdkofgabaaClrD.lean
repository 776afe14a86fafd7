/- Walks of package clearance: New, Check, Count; of the reference: Check. -/
import Derived.Test.YtokoopdkofgabaaClrC
namespace Go.Proofs.Ytokoopdkofgabaa
open Go.RowKit

/-- Rules as a value. -/
def rul (age jump throw most : Int) : Value := .agg #[.int .u32 age, .int .i64 jump, .int .i64 throw, .int .i64 most]

def rulesOk (age jump throw most : Int) : Bool := decide (age ≤ 60000 ∧ 1 ≤ jump ∧ jump ≤ 1048576 ∧ 0 ≤ throw ∧ throw ≤ 100 ∧ 1 ≤ most ∧ most ≤ 1048576)
def rulesCode (age jump throw most : Int) : Int := if rulesOk age jump throw most then 0 else 2

set_option maxHeartbeats 400000 in
theorem check_any (age jump throw most : Int) (w : World) :
    Calls Try.prog 18 #[rul age jump throw most] w fun e w' => e = .returned (.int .i64 (rulesCode age jump throw most)) ∧ Below w.heap.size w w' := by
  unfold rul
  go_enter Try.func18, Try.ntmps18
  go_wp2
  all_goals
    go_ret
    refine ⟨?_, (Below.refl _ _).alloc (Nat.le_refl _) _⟩
    first
      | (have hr : rulesOk age jump throw most = true := by unfold rulesOk; apply decide_eq_true; omega
         simp [rulesCode, hr])
      | (have hr : rulesOk age jump throw most = false := by unfold rulesOk; apply decide_eq_false; omega
         simp [rulesCode, hr])

set_option maxHeartbeats 400000 in
theorem refCheck_any (age jump throw most : Int) (w : World) :
    Calls Try.prog 17 #[rul age jump throw most] w fun e w' => e = .returned (.int .i64 (rulesCode age jump throw most)) ∧ Below w.heap.size w w' := by
  unfold rul
  go_enter Try.func17, Try.ntmps17
  go_wp2
  all_goals
    go_ret
    refine ⟨?_, (Below.refl _ _).alloc (Nat.le_refl _) _⟩
    first
      | (have hr : rulesOk age jump throw most = true := by unfold rulesOk; apply decide_eq_true; omega
         simp [rulesCode, hr])
      | (have hr : rulesOk age jump throw most = false := by unfold rulesOk; apply decide_eq_false; omega
         simp [rulesCode, hr])

end Go.Proofs.Ytokoopdkofgabaa
