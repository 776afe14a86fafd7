/- THERE AND BACK IT IS THE SAME: for every line, every column and every row the law RayBack of the given program returns true, and leaves its arguments as they were. No condition. -/
import Derived.Test.YtokoopdkofgabaaLawR3
import Derived.Test.YtokoopdkofgabaaGate2
import Derived.Carry
namespace Go.Proofs.Ytokoopdkofgabaa
open Go.ChangeShapes Go.WideShapes Go.ChangeAt Go.RowKit Go.Deep Go.Joins
set_option maxRecDepth 100000 in
theorem lifted (os : Os) (started : os.Started) (H : Type) (enc : TypeId × Value → H) :
    ReturnsInHanded {} Try.checked os 7 .any (Rows.rayBackSpec.pre6 enc Try.prog Try.f7 Rows.rayBackRow.domain false) (Rows.rayBackSpec.post enc Try.prog Try.f7 false true false false) := by
  refine returnsInHanded_of_change (C := Try.checked) own started (by kernel_rfl) Try.func7
    (ChangeSpec.witness6 (enc := enc) (C := Try.checked) false ⟨#[], #[.agg #[.int .i64 0, .int .i64 0], .agg #[.int .i64 0, .int .i64 0], .int .i64 0, .int .i64 0], []⟩ 8 (by kernel_rfl) (by kernel_rfl) (by kernel_rfl) (by kernel_rfl)) ?_
  intro W base args ds gs before hval0 hW hcnd _
  have hval : ∀ (j : Nat) t v, Try.f7.params[j]? = some t → args[j]? = some v → Value.okWide Try.prog W .any base t v := hval0
  have hW' := hW
  obtain ⟨p, q, hA0, hV, rfl, hfz, hnd⟩ := hW
  have hA : DataW.TrodAll enc Try.prog W 0 (fun _ => true) true Try.f7.params.toList args.toList ds p := hA0
  rw [Try.params7] at hA hval
  obtain ⟨v0, v1, v2, v3, d0, d1, d2, d3, p0, p1, p2, p3, rfl, rfl, rfl, h0, h1, h2, h3⟩ := trodAll_four hA
  clear hA0 hval0
  obtain ⟨_, rfl, sx, _, rfl, rx0, sy, _, rfl, ry0, rfl⟩ := gate_row Try.underlying63 cells_spot (hval 0 _ _ rfl rfl) h0
  obtain ⟨_, rfl, tx, _, rfl, rx1, ty, _, rfl, ry1, rfl⟩ := gate_row Try.underlying63 cells_spot (hval 1 _ _ rfl rfl) h1
  obtain ⟨x, rfl, r2⟩ := gate_int Try.underlying3 (hval 2 _ _ rfl rfl) h2
  obtain ⟨y, rfl, r3⟩ := gate_int Try.underlying3 (hval 3 _ _ rfl rfl) h3
  refine (below_of (rayback_law sx rx0 sy ry0 tx rx1 ty ry1 x r2 y r3 (w := W))).mono fun e W' ⟨he, hb⟩ => ?_
  subst he
  exact ⟨_, rfl, gate_post (tb := 4) laidOut Try.underlying4 hW' rfl rfl (fun es h => by
    have h' : es.length = 4 := h
    match es, h' with
    | [_, _, _, _], _ => rfl) (of_decide_eq_true (by kernel_rfl)) hb⟩
theorem holds : Rows.RayBackSaid :=
  OpenClaim.holds_of_wide 7 Try.f7 rfl rfl rfl rfl rfl rfl rfl ⟨rfl, rfl, rfl, rfl, rfl⟩ rfl rfl rfl rfl rfl (by kernel_rfl) Try.func7 (by kernel_rfl)
    (of_decide_eq_true (by kernel_rfl)) (by unfold Func.isWrapper; first | (rw [if_pos (by decide +kernel)]; kernel_rfl) | (rw [if_neg (by decide +kernel)]; exact ⟨rfl, rfl⟩))
    (fun os started H enc _ => lifted os started H enc)

#print axioms holds
end Go.Proofs.Ytokoopdkofgabaa
