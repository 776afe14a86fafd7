/- The grid of a search: for any ground, search, samples, measure and times the law SeedMakes of the given program returns true, and leaves its arguments as they were. No condition. -/
import Derived.Carry
import Derived.Test.YtemmnpgebpffbaaGreatMG22
set_option linter.unusedVariables false
set_option linter.unusedSimpArgs false
namespace Go.Proofs.YtemmnpgebpffbaaGreat
open Go.ChangeShapes Go.WideShapes Go.ChangeAt Go.RowKit Go.Deep Go.Joins
set_option maxRecDepth 100000 in
theorem lifted (os : Os) (started : os.Started) (H : Type) (enc : TypeId × Value → H) :
    ReturnsInHanded {} Tryz.checked os 6 .any (Rows.seedMakesSpec.pre6 enc Tryz.prog Tryz.f6 Rows.seedMakesRow.domain false) (Rows.seedMakesSpec.post enc Tryz.prog Tryz.f6 false true false false) := by
  refine returnsInHanded_of_change (C := Tryz.checked) own started (by kernel_rfl) Tryz.func6
    (ChangeSpec.witness6 (enc := enc) (C := Tryz.checked) false ⟨#[], #[.int .u8 0, .int .u8 0, .slice none 0 0, .agg #[.int .i64 0, .int .i64 0, .int .i64 0, .int .i64 0], .slice none 0 0, .int .i64 0, .int .i64 0], []⟩ 8 (by kernel_rfl) (by kernel_rfl) (by kernel_rfl) (by kernel_rfl)) ?_
  intro W base args ds gs before hval0 hW hcnd _
  have hval : ∀ (j : Nat) t v, Tryz.f6.params[j]? = some t → args[j]? = some v → Value.okWide Tryz.prog W .any base t v := hval0
  have hW' := hW
  obtain ⟨p, q, hA0, hV, rfl, hfz, hnd⟩ := hW
  have hA : DataW.TrodAll enc Tryz.prog W 0 (fun _ => true) true Tryz.f6.params.toList args.toList ds p := hA0
  rw [Tryz.params6] at hA hval
  obtain ⟨v0, v1, v2, v3, v4, v5, v6, d0, d1, d2, d3, d4, d5, d6, p0, p1, p2, p3, p4, p5, p6, rfl, rfl, rfl, h0, h1, h2, h3, h4, h5, h6⟩ := trodAll_seven hA
  clear hA0 hval0
  obtain ⟨w, rfl, r0⟩ := gate_int Tryz.underlying5 (hval 0 _ _ rfl rfl) h0
  obtain ⟨h, rfl, r1⟩ := gate_int Tryz.underlying5 (hval 1 _ _ rfl rfl) h1
  obtain ⟨A2, c2, z, rfl, q2, r2⟩ := gate_ints Tryz.underlying22 Tryz.underlying92 (by kernel_rfl) (hval 2 _ _ rfl rfl) h2
  obtain ⟨_, rfl, sx, _, rfl, rx3, sy, _, rfl, ry3, sf, _, rfl, rf3, ss, _, rfl, rs3, rfl⟩ := gate_row Tryz.underlying26 cells_sch (hval 3 _ _ rfl rfl) h3
  obtain ⟨A4, c4, l, rfl, q4, r4⟩ := gate_rows (en := smpE) Tryz.underlying27 cells_smp rfl un_smp (hval 4 _ _ rfl rfl) h4
  obtain ⟨measure, rfl, r5⟩ := gate_int Tryz.underlying3 (hval 5 _ _ rfl rfl) h5
  obtain ⟨times, rfl, r6⟩ := gate_int Tryz.underlying2 (hval 6 _ _ rfl rfl) h6
  refine (below_of (makes_law w r0 h r1 A2 c2 z q2 r2 ⟨sx, sy, sf, ss⟩ rx3 ry3 rf3 rs3 A4 c4 l q4 r4 measure r5 times r6 (w := W))).mono fun e W' ⟨he, hb⟩ => ?_
  subst he
  exact ⟨_, rfl, gate_post (tb := 4) laidOut Tryz.underlying4 hW' rfl rfl (fun es h => by
    have h' : es.length = 7 := h
    match es, h' with
    | [_, _, _, _, _, _, _], _ => rfl) (of_decide_eq_true (by kernel_rfl)) hb⟩
theorem holds : Rows.SeedMakesSaid :=
  OpenClaim.holds_of_wide 6 Tryz.f6 rfl rfl rfl rfl rfl rfl rfl ⟨rfl, rfl, rfl, rfl, rfl⟩ rfl rfl rfl rfl rfl (by kernel_rfl) Tryz.func6 (by kernel_rfl)
    (of_decide_eq_true (by kernel_rfl)) (by unfold Func.isWrapper; first | (rw [if_pos (by decide +kernel)]; kernel_rfl) | (rw [if_neg (by decide +kernel)]; exact ⟨rfl, rfl⟩))
    (fun os started H enc _ => lifted os started H enc)

#print axioms holds
end Go.Proofs.YtemmnpgebpffbaaGreat
