/- A MAP AS BYTES: for every size, all heights, every cell and every place of the first height the law ChartPuts of the given program returns true, and leaves its arguments as they were. No condition. -/
import Derived.Test.YtokoopdkofgabaaLaw9P
import Derived.Test.YtokoopdkofgabaaGate2
import Derived.Carry
namespace Go.Proofs.Ytokoopdkofgabaa
open Go.ChangeShapes Go.WideShapes Go.ChangeAt Go.RowKit Go.Deep Go.Joins
set_option maxRecDepth 100000 in
theorem lifted (os : Os) (started : os.Started) (H : Type) (enc : TypeId × Value → H) :
    ReturnsInHanded {} Try.checked os 10 .any (Rows.chartPutsSpec.pre6 enc Try.prog Try.f10 Rows.chartPutsRow.domain false) (Rows.chartPutsSpec.post enc Try.prog Try.f10 false true false false) := by
  refine returnsInHanded_of_change (C := Try.checked) own started (by kernel_rfl) Try.func10
    (ChangeSpec.witness6 (enc := enc) (C := Try.checked) false ⟨#[], #[.int .u8 0, .int .u8 0, .slice none 0 0, .int .i64 0, .int .i32 0, .int .i32 0], []⟩ 8 (by kernel_rfl) (by kernel_rfl) (by kernel_rfl) (by kernel_rfl)) ?_
  intro W base args ds gs before hval0 hW hcnd _
  have hval : ∀ (j : Nat) t v, Try.f10.params[j]? = some t → args[j]? = some v → Value.okWide Try.prog W .any base t v := hval0
  have hW' := hW
  obtain ⟨p, q, hA0, hV, rfl, hfz, hnd⟩ := hW
  have hA : DataW.TrodAll enc Try.prog W 0 (fun _ => true) true Try.f10.params.toList args.toList ds p := hA0
  rw [Try.params10] at hA hval
  obtain ⟨v0, v1, v2, v3, v4, v5, d0, d1, d2, d3, d4, d5, p0, p1, p2, p3, p4, p5, rfl, rfl, rfl, h0, h1, h2, h3, h4, h5⟩ := trodAll_six hA
  clear hA0 hval0
  obtain ⟨w, rfl, r0⟩ := gate_int Try.underlying5 (hval 0 _ _ rfl rfl) h0
  obtain ⟨h, rfl, r1⟩ := gate_int Try.underlying5 (hval 1 _ _ rfl rfl) h1
  obtain ⟨A2, c2, z, rfl, q2, r2⟩ := gate_ints Try.underlying48 Try.underlying79 (by kernel_rfl) (hval 2 _ _ rfl rfl) h2
  obtain ⟨cell, rfl, r3⟩ := gate_int Try.underlying3 (hval 3 _ _ rfl rfl) h3
  obtain ⟨ox, rfl, r4⟩ := gate_int Try.underlying21 (hval 4 _ _ rfl rfl) h4
  obtain ⟨oy, rfl, r5⟩ := gate_int Try.underlying21 (hval 5 _ _ rfl rfl) h5
  refine (below_of (chartputs_law w r0 h r1 A2 c2 z q2 r2 cell r3 ox r4 oy r5 (w := W))).mono fun e W' ⟨he, hb⟩ => ?_
  subst he
  exact ⟨_, rfl, gate_post (tb := 4) laidOut Try.underlying4 hW' rfl rfl (fun es h => by
    have h' : es.length = 6 := h
    match es, h' with
    | [_, _, _, _, _, _], _ => rfl) (of_decide_eq_true (by kernel_rfl)) hb⟩
theorem holds : Rows.ChartPutsSaid :=
  OpenClaim.holds_of_wide 10 Try.f10 rfl rfl rfl rfl rfl rfl rfl ⟨rfl, rfl, rfl, rfl, rfl⟩ rfl rfl rfl rfl rfl (by kernel_rfl) Try.func10 (by kernel_rfl)
    (of_decide_eq_true (by kernel_rfl)) (by unfold Func.isWrapper; first | (rw [if_pos (by decide +kernel)]; kernel_rfl) | (rw [if_neg (by decide +kernel)]; exact ⟨rfl, rfl⟩))
    (fun os started H enc _ => lifted os started H enc)

#print axioms holds
end Go.Proofs.Ytokoopdkofgabaa
