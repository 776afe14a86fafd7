/- IS THE SECOND BEST SO MUCH WORSE: for any numbers the law MatchClear of the given program returns true. No condition. -/
import Derived.Carry
import Derived.Test.YtemmnpgebpffbaaMD12
set_option linter.unusedVariables false
set_option linter.unusedSimpArgs false
/- Layer 21's statements: costs, the second best, how a profile lies. -/
namespace Go.Proofs.Ytemmnpgebpffbaa
open Go.RowKit
attribute [local irreducible] OJ J HdJ Code.wpIn wpListIn Oper.wpIn bodyPost CallsIn Does
set_option maxRecDepth 4000
set_option maxHeartbeats 64000000 in
theorem costs_law (A : Option Addr) (c : Nat) (d : List Int) {w : World} (hr : RoA w (blocks []) A d.length c 1 (ints .i64 d)) (hd : ∀ x ∈ d, InR .i64 x) (m : Int) (hm : InR .i64 m) :
    Does Try.prog 3 [.slice A d.length c, .int .i64 m] [] w (fun v _ => v = .bool true) := by
  have iW : CV Try.prog 10 [] (.bool true) True := ⟨fun _ w => works21 w⟩
  refine does_of Try.func3 rfl Try.ntmps3 rfl ⟨by simp, .nil⟩ (fun n => ?_)
  simp only [slots]
  refine z_tas
  · exact j_out1 rfl rfl (.nil _) rfl
  refine lfv rfl rfl rfl (fun w hw => mcost_any A c d m w ⟨hr.h.go hw (Split.nil _)⟩ (by omega)) ?_
  refine z_tas
  refine lfv rfl rfl rfl (fun w hw => rcost_any A c d m w ⟨hr.h.go hw (Split.nil _)⟩ (by omega)) ?_
  refine z_tas
  exact j_out1 rfl rfl (.nil _) rfl
set_option maxHeartbeats 64000000 in
theorem clear_law (best : Int) (h1 : InR .i64 best) (second : Int) (h2 : InR .i64 second) (num : Int) (h3 : InR .i64 num) (den : Int) (h4 : InR .i64 den) {w : World} :
    Does Try.prog 5 [.int .i64 best, .int .i64 second, .int .i64 num, .int .i64 den] [] w (fun v _ => v = .bool true) := by
  have iW : CV Try.prog 10 [] (.bool true) True := ⟨fun _ w => works21 w⟩
  have h1' : -9223372036854775808 ≤ best ∧ best ≤ 9223372036854775807 := h1
  have h2' : -9223372036854775808 ≤ second ∧ second ≤ 9223372036854775807 := h2
  have h3' : -9223372036854775808 ≤ num ∧ num ≤ 9223372036854775807 := h3
  have h4' : -9223372036854775808 ≤ den ∧ den ≤ 9223372036854775807 := h4
  have hcl := clear21_any best second num den h1 h2 h3 h4
  have key : clrB best second num den = true ↔ (0 ≤ best ∧ 0 ≤ num ∧ 1 ≤ den ∧ (second < 0 ∨ best * num < second * den)) := by simp [clrB]
  refine does_of Try.func5 rfl Try.ntmps5 rfl ⟨by simp, .nil⟩ (fun n => ?_)
  simp only [slots]
  by_cases hg : (0 ≤ best ∧ 0 ≤ num ∧ 1 ≤ den) ∧ 0 ≤ second
  · have i1 : CV Try.prog 20 [.int .i64 second, .int .i64 den] (.agg (numE false (second.natAbs * den.natAbs)).toArray) True := ⟨fun _ w => rmul_any second den h2 h4 false (decide_eq_false (by omega)) (decide_eq_false (by omega)) w⟩
    have i2 : CV Try.prog 20 [.int .i64 best, .int .i64 num] (.agg (numE false (best.natAbs * num.natAbs)).toArray) True := ⟨fun _ w => rmul_any best num h1 h3 false (decide_eq_false (by omega)) (decide_eq_false (by omega)) w⟩
    have b1 := Nat.mul_le_mul (show second.natAbs ≤ 9223372036854775808 by omega) (show den.natAbs ≤ 9223372036854775808 by omega)
    have b2 := Nat.mul_le_mul (show best.natAbs ≤ 9223372036854775808 by omega) (show num.natAbs ≤ 9223372036854775808 by omega)
    have e1 : ((second.natAbs * den.natAbs : Nat) : Int) = second * den := by rw [← Int.natAbs_mul]; exact Int.natAbs_of_nonneg (Int.mul_nonneg (by omega) (by omega))
    have e2 : ((best.natAbs * num.natAbs : Nat) : Int) = best * num := by rw [← Int.natAbs_mul]; exact Int.natAbs_of_nonneg (Int.mul_nonneg (by omega) (by omega))
    have hp := cmpI_pos (second.natAbs * den.natAbs) (best.natAbs * num.natAbs)
    have hz : decide (0 < cmpI (second.natAbs * den.natAbs) (best.natAbs * num.natAbs)) = clrB best second num den := by
      rw [Bool.eq_iff_iff, decide_eq_true_iff, key, hp]
      omega
    have iC : CV Try.prog 21 [.int .i64 best, .int .i64 second, .int .i64 num, .int .i64 den] (.bool (decide (0 < cmpI (second.natAbs * den.natAbs) (best.natAbs * num.natAbs)))) True := ⟨fun _ w => by rw [hz]; exact hcl w⟩
    generalize second.natAbs * den.natAbs = P at *
    generalize best.natAbs * num.natAbs = Q at *
    refine z_tas
    exact j_out1 rfl rfl (.nil _) rfl
  · have hz : clrB best second num den = decide (0 ≤ best ∧ 0 ≤ num ∧ 1 ≤ den) := by
      rw [Bool.eq_iff_iff, key, decide_eq_true_iff]
      omega
    have iC : CV Try.prog 21 [.int .i64 best, .int .i64 second, .int .i64 num, .int .i64 den] (.bool (decide (0 ≤ best ∧ 0 ≤ num ∧ 1 ≤ den))) True := ⟨fun _ w => by rw [← hz]; exact hcl w⟩
    by_cases hb : 0 ≤ best ∧ 0 ≤ num ∧ 1 ≤ den
    · rw [decide_eq_true hb] at iC
      refine z_tas
      all_goals first
        | exact j_out1 rfl rfl (.nil _) rfl
        | (exfalso; rename_i hx; revert hx; simp; omega)
    · rw [decide_eq_false hb] at iC
      refine z_tas
      all_goals first
        | exact j_out1 rfl rfl (.nil _) rfl
        | (exfalso; rename_i hx; revert hx; simp; omega)
end Go.Proofs.Ytemmnpgebpffbaa
namespace Go.Proofs.Ytemmnpgebpffbaa
open Go.ChangeShapes Go.WideShapes Go.ChangeAt Go.RowKit Go.Deep Go.Joins
set_option maxRecDepth 100000 in
theorem lifted (os : Os) (started : os.Started) (H : Type) (enc : TypeId × Value → H) :
    ReturnsInHanded {} Try.checked os 5 .any (Rows.matchClearSpec.pre6 enc Try.prog Try.f5 Rows.matchClearRow.domain false) (Rows.matchClearSpec.post enc Try.prog Try.f5 false true false false) := by
  refine returnsInHanded_of_change (C := Try.checked) own started (by kernel_rfl) Try.func5
    (ChangeSpec.witness6 (enc := enc) (C := Try.checked) false ⟨#[], #[.int .i64 0, .int .i64 0, .int .i64 0, .int .i64 0], []⟩ 8 (by kernel_rfl) (by kernel_rfl) (by kernel_rfl) (by kernel_rfl)) ?_
  intro W base args ds gs before hval0 hW hcnd _
  have hval : ∀ (j : Nat) t v, Try.f5.params[j]? = some t → args[j]? = some v → Value.okWide Try.prog W .any base t v := hval0
  have hW' := hW
  obtain ⟨p, q, hA0, hV, rfl, hfz, hnd⟩ := hW
  have hA : DataW.TrodAll enc Try.prog W 0 (fun _ => true) true Try.f5.params.toList args.toList ds p := hA0
  rw [Try.params5] at hA hval
  obtain ⟨v0, v1, v2, v3, d0, d1, d2, d3, p0, p1, p2, p3, rfl, rfl, rfl, h0, h1, h2, h3⟩ := trodAll_four hA
  clear hA0 hval0
  obtain ⟨best, rfl, r0⟩ := gate_int Try.underlying2 (hval 0 _ _ rfl rfl) h0
  obtain ⟨second, rfl, r1⟩ := gate_int Try.underlying2 (hval 1 _ _ rfl rfl) h1
  obtain ⟨num, rfl, r2⟩ := gate_int Try.underlying2 (hval 2 _ _ rfl rfl) h2
  obtain ⟨den, rfl, r3⟩ := gate_int Try.underlying2 (hval 3 _ _ rfl rfl) h3
  refine (below_of (clear_law best r0 second r1 num r2 den r3 (w := W))).mono fun e W' ⟨he, hb⟩ => ?_
  subst he
  exact ⟨_, rfl, gate_post (tb := 4) laidOut Try.underlying4 hW' rfl rfl (fun es h => by
    have h' : es.length = 4 := h
    match es, h' with
    | [_, _, _, _], _ => rfl) (of_decide_eq_true (by kernel_rfl)) hb⟩
theorem holds : Rows.MatchClearSaid :=
  OpenClaim.holds_of_wide 5 Try.f5 rfl rfl rfl rfl rfl rfl rfl ⟨rfl, rfl, rfl, rfl, rfl⟩ rfl rfl rfl rfl rfl (by kernel_rfl) Try.func5 (by kernel_rfl)
    (of_decide_eq_true (by kernel_rfl)) (by unfold Func.isWrapper; first | (rw [if_pos (by decide +kernel)]; kernel_rfl) | (rw [if_neg (by decide +kernel)]; exact ⟨rfl, rfl⟩))
    (fun os started H enc _ => lifted os started H enc)

#print axioms holds
end Go.Proofs.Ytemmnpgebpffbaa
