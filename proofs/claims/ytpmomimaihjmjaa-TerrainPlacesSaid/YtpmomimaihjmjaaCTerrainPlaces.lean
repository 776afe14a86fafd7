/- THERE AND BACK: for every map cell, every place and every metres the law TerrainPlaces of the given program returns true, and leaves its arguments as they were. No condition. -/
import Derived.Carry
import Derived.Test.YtpmomimaihjmjaaMB11
set_option linter.unusedVariables false
set_option linter.unusedSimpArgs false
/- Layer 11's statements: the walk of TerrainPlaces. -/
namespace Go.Proofs.Ytpmomimaihjmjaa
open Go.RowKit
/-- There and back. -/
theorem back_near {east ox C : Int} (hC : 1 ≤ C ∧ C ≤ 1000) : (2 * ((east - ox) * 256 / C * C) + 256) / (2 * 256) + ox ≤ east ∧ east - ((2 * ((east - ox) * 256 / C * C) + 256) / (2 * 256) + ox) ≤ C / 256 + 1 := by
  have h1 := Int.ediv_mul_le ((east - ox) * 256) (show C ≠ 0 by omega)
  have h2 := Int.lt_ediv_add_one_mul_self ((east - ox) * 256) (show 0 < C by omega)
  rw [Int.add_mul, Int.one_mul] at h2
  generalize (east - ox) * 256 / C * C = m at *
  omega
attribute [local irreducible] OJ J HdJ Code.wpIn wpListIn Oper.wpIn bodyPost CallsIn Does
set_option maxRecDepth 4000
set_option maxHeartbeats 64000000 in
theorem places_law (ce : Int) (hce : InR .u16 ce) (ox : Int) (hox : InR .i32 ox) (oy : Int) (hoy : InR .i32 oy) (east : Int) (heast : InR .i64 east) (north : Int) (hnorth : InR .i64 north) (sx : Int) (hsx : InR .i64 sx) (sy : Int) (hsy : InR .i64 sy) {w : World} :
    Does Try.prog 12 [.int .u16 ce, .int .i32 ox, .int .i32 oy, .int .i64 east, .int .i64 north, .agg #[.int .i64 sx, .int .i64 sy]] [] w (fun v _ => v = .bool true) := by
  have hc1 : 0 ≤ ce ∧ ce ≤ 65535 := hce
  obtain ⟨C, hC, hC1⟩ : ∃ C : Int, 1 + ce % 1000 = C ∧ 1 ≤ C ∧ C ≤ 1000 := ⟨_, rfl, by omega⟩
  have iW : CV Try.prog 40 [] (.bool true) True := ⟨fun _ w => works_any11 w⟩
  have bk1 := back_near (east := east) (ox := ox) hC1
  have bk2 := back_near (east := north) (ox := oy) hC1
  refine does_of Try.func12 rfl Try.ntmps12 rfl ⟨by simp, .nil⟩ (fun n => ?_)
  simp only [slots]
  refine z_tas
  rename_i b11 b13
  rw [hC]
  refine lfv rfl rfl rfl (fun w _ => spot_any 0 0 none 0 0 C ox oy east north w hC1 hox hoy) ?_
  have hm := fun w => metres_any 0 0 none 0 0 C ox oy sx sy w hC1 hox hoy
  by_cases h1 : Far40 east ∨ Far40 north
  · rw [if_pos h1]
    unfold Far40 at h1
    by_cases h2 : Far40 sx ∨ Far40 sy
    · have iM : CV Try.prog 53 [.agg #[.int .i64 0, .int .i64 0, .slice none 0 0, .int .i64 C, .int .i32 ox, .int .i32 oy], .agg #[.int .i64 sx, .int .i64 sy]] (.tuple #[.int .i64 0, .int .i64 0, .bool false]) True := ⟨fun _ w => by have := hm w; rw [if_pos h2] at this; exact this⟩
      unfold Far40 at h2
      clear hm
      refine z_tas
      all_goals try (exfalso; omega)
      all_goals try (refine j_set 16 _ rfl (v' := .bool false) (congrArg Value.bool (by first | rfl | exact decide_eq_false (by omega))) ?_)
      all_goals try refine z_tas
      all_goals try (exfalso; omega)
      all_goals try (refine j_set 20 _ rfl (v' := .bool false) (congrArg Value.bool (by first | rfl | exact decide_eq_false (by omega))) ?_)
      all_goals try refine z_tas
      all_goals try (exfalso; omega)
      all_goals first
        | exact j_out1 rfl rfl (.nil _) rfl
        | (exfalso; simp only [Bool.false_eq_true, false_iff, true_iff] at *; omega)
    · have iM : CV Try.prog 53 [.agg #[.int .i64 0, .int .i64 0, .slice none 0 0, .int .i64 C, .int .i32 ox, .int .i32 oy], .agg #[.int .i64 sx, .int .i64 sy]] (.tuple #[.int .i64 ((2 * (sx * C) + 256) / (2 * 256) + ox), .int .i64 ((2 * (sy * C) + 256) / (2 * 256) + oy), .bool true]) True := ⟨fun _ w => by have := hm w; rw [if_neg h2] at this; exact this⟩
      have iR1 : CV Try.prog 54 [.int .i64 sx, .int .i32 ox, .int .i64 C] (.int .i64 ((2 * (sx * C) + 256) / (2 * 256) + ox)) True := ⟨fun _ w => rmetres_any sx ox C w (by unfold Far40 at h2; omega) hox hC1⟩
      have iR2 : CV Try.prog 54 [.int .i64 sy, .int .i32 oy, .int .i64 C] (.int .i64 ((2 * (sy * C) + 256) / (2 * 256) + oy)) True := ⟨fun _ w => rmetres_any sy oy C w (by unfold Far40 at h2; omega) hoy hC1⟩
      unfold Far40 at h2
      clear hm
      refine z_tas
      all_goals try (exfalso; omega)
      all_goals try (refine j_set 16 _ rfl (v' := .bool false) (congrArg Value.bool (by first | rfl | exact decide_eq_false (by omega))) ?_)
      all_goals try refine z_tas
      all_goals try (exfalso; omega)
      all_goals try (refine j_set 20 _ rfl (v' := .bool true) (congrArg Value.bool (by first | rfl | exact decide_eq_true (by omega))) ?_)
      all_goals try refine z_tas
      all_goals try (exfalso; omega)
      all_goals first
        | exact j_out1 rfl rfl (.nil _) rfl
        | (exfalso; simp only [Bool.false_eq_true, false_iff, true_iff] at *; omega)
  · rw [if_neg h1]
    have hb := fun w => metres_any 0 0 none 0 0 C ox oy ((east - ox) * 256 / C) ((north - oy) * 256 / C) w hC1 hox hoy
    unfold Far40 at h1
    have iS1 : CV Try.prog 52 [.int .i64 east, .int .i32 ox, .int .i64 C] (.int .i64 ((east - ox) * 256 / C)) True := ⟨fun _ w => by rw [Int.mul_comm (east - ox)]; exact rspot_any east ox C w (by omega) hox hC1⟩
    have iS2 : CV Try.prog 52 [.int .i64 north, .int .i32 oy, .int .i64 C] (.int .i64 ((north - oy) * 256 / C)) True := ⟨fun _ w => by rw [Int.mul_comm (north - oy)]; exact rspot_any north oy C w (by omega) hoy hC1⟩
    generalize (east - ox) * 256 / C = a1 at *
    generalize (north - oy) * 256 / C = a2 at *
    have hm1 := mulB 1099511627776 1000 (a := a1) (b := C)
    have hm2 := mulB 1099511627776 1000 (a := a2) (b := C)
    refine z_tas
    all_goals try (exfalso; omega)
    refine j_set 16 _ rfl (v' := .bool true) (congrArg Value.bool (by first | rfl | exact decide_eq_true (by omega))) ?_
    refine c_dv (0 :: 1 :: 2 :: 3 :: 4 :: 5 :: 6 :: 7 :: 8 :: 9 :: 10 :: 11 :: 12 :: 13 :: 14 :: 15 :: 16 :: 17 :: 18 :: 19 :: 20 :: 21 :: 22 :: 23 :: 24 :: 25 :: []) ?_; intro _
    refine z_govG
    by_cases h3 : Far40 a1 ∨ Far40 a2
    · have iB : CV Try.prog 53 [.agg #[.int .i64 0, .int .i64 0, .slice none 0 0, .int .i64 C, .int .i32 ox, .int .i32 oy], .agg #[.int .i64 a1, .int .i64 a2]] (.tuple #[.int .i64 0, .int .i64 0, .bool false]) True := ⟨fun _ w => by have := hb w; rw [if_pos h3] at this; exact this⟩
      unfold Far40 at h3
      by_cases h2 : Far40 sx ∨ Far40 sy
      · have iM : CV Try.prog 53 [.agg #[.int .i64 0, .int .i64 0, .slice none 0 0, .int .i64 C, .int .i32 ox, .int .i32 oy], .agg #[.int .i64 sx, .int .i64 sy]] (.tuple #[.int .i64 0, .int .i64 0, .bool false]) True := ⟨fun _ w => by have := hm w; rw [if_pos h2] at this; exact this⟩
        unfold Far40 at h2
        clear hm hb
        refine z_tas
        all_goals try (exfalso; omega)
        all_goals try (refine j_set 20 _ rfl (v' := .bool false) (congrArg Value.bool (by first | rfl | exact decide_eq_false (by omega))) ?_)
        all_goals try refine z_tas
        all_goals try (exfalso; omega)
        all_goals first
          | exact j_out1 rfl rfl (.nil _) rfl
          | (exfalso; simp only [Bool.false_eq_true, false_iff, true_iff] at *; omega)
          | trace_state
      · have iM : CV Try.prog 53 [.agg #[.int .i64 0, .int .i64 0, .slice none 0 0, .int .i64 C, .int .i32 ox, .int .i32 oy], .agg #[.int .i64 sx, .int .i64 sy]] (.tuple #[.int .i64 ((2 * (sx * C) + 256) / (2 * 256) + ox), .int .i64 ((2 * (sy * C) + 256) / (2 * 256) + oy), .bool true]) True := ⟨fun _ w => by have := hm w; rw [if_neg h2] at this; exact this⟩
        have iR1 : CV Try.prog 54 [.int .i64 sx, .int .i32 ox, .int .i64 C] (.int .i64 ((2 * (sx * C) + 256) / (2 * 256) + ox)) True := ⟨fun _ w => rmetres_any sx ox C w (by unfold Far40 at h2; omega) hox hC1⟩
        have iR2 : CV Try.prog 54 [.int .i64 sy, .int .i32 oy, .int .i64 C] (.int .i64 ((2 * (sy * C) + 256) / (2 * 256) + oy)) True := ⟨fun _ w => rmetres_any sy oy C w (by unfold Far40 at h2; omega) hoy hC1⟩
        unfold Far40 at h2
        clear hm hb
        refine z_tas
        all_goals try (exfalso; omega)
        all_goals try (refine j_set 20 _ rfl (v' := .bool true) (congrArg Value.bool (by first | rfl | exact decide_eq_true (by omega))) ?_)
        all_goals try refine z_tas
        all_goals try (exfalso; omega)
        all_goals first
          | exact j_out1 rfl rfl (.nil _) rfl
          | (exfalso; simp only [Bool.false_eq_true, false_iff, true_iff] at *; omega)
          | trace_state
    · have iB : CV Try.prog 53 [.agg #[.int .i64 0, .int .i64 0, .slice none 0 0, .int .i64 C, .int .i32 ox, .int .i32 oy], .agg #[.int .i64 a1, .int .i64 a2]] (.tuple #[.int .i64 ((2 * (a1 * C) + 256) / (2 * 256) + ox), .int .i64 ((2 * (a2 * C) + 256) / (2 * 256) + oy), .bool true]) True := ⟨fun _ w => by have := hb w; rw [if_neg h3] at this; exact this⟩
      unfold Far40 at h3
      by_cases h2 : Far40 sx ∨ Far40 sy
      · have iM : CV Try.prog 53 [.agg #[.int .i64 0, .int .i64 0, .slice none 0 0, .int .i64 C, .int .i32 ox, .int .i32 oy], .agg #[.int .i64 sx, .int .i64 sy]] (.tuple #[.int .i64 0, .int .i64 0, .bool false]) True := ⟨fun _ w => by have := hm w; rw [if_pos h2] at this; exact this⟩
        unfold Far40 at h2
        clear hm hb
        refine z_tas
        all_goals try (exfalso; omega)
        all_goals try (refine j_set 20 _ rfl (v' := .bool false) (congrArg Value.bool (by first | rfl | exact decide_eq_false (by omega))) ?_)
        all_goals try refine z_tas
        all_goals try (exfalso; omega)
        all_goals first
          | exact j_out1 rfl rfl (.nil _) rfl
          | (exfalso; simp only [Bool.false_eq_true, false_iff, true_iff] at *; omega)
          | trace_state
      · have iM : CV Try.prog 53 [.agg #[.int .i64 0, .int .i64 0, .slice none 0 0, .int .i64 C, .int .i32 ox, .int .i32 oy], .agg #[.int .i64 sx, .int .i64 sy]] (.tuple #[.int .i64 ((2 * (sx * C) + 256) / (2 * 256) + ox), .int .i64 ((2 * (sy * C) + 256) / (2 * 256) + oy), .bool true]) True := ⟨fun _ w => by have := hm w; rw [if_neg h2] at this; exact this⟩
        have iR1 : CV Try.prog 54 [.int .i64 sx, .int .i32 ox, .int .i64 C] (.int .i64 ((2 * (sx * C) + 256) / (2 * 256) + ox)) True := ⟨fun _ w => rmetres_any sx ox C w (by unfold Far40 at h2; omega) hox hC1⟩
        have iR2 : CV Try.prog 54 [.int .i64 sy, .int .i32 oy, .int .i64 C] (.int .i64 ((2 * (sy * C) + 256) / (2 * 256) + oy)) True := ⟨fun _ w => rmetres_any sy oy C w (by unfold Far40 at h2; omega) hoy hC1⟩
        unfold Far40 at h2
        clear hm hb
        refine z_tas
        all_goals try (exfalso; omega)
        all_goals try (refine j_set 20 _ rfl (v' := .bool true) (congrArg Value.bool (by first | rfl | exact decide_eq_true (by omega))) ?_)
        all_goals try refine z_tas
        all_goals try (exfalso; omega)
        all_goals first
          | exact j_out1 rfl rfl (.nil _) rfl
          | (exfalso; simp only [Bool.false_eq_true, false_iff, true_iff] at *; omega)
          | trace_state
end Go.Proofs.Ytpmomimaihjmjaa
namespace Go.Proofs.Ytpmomimaihjmjaa
open Go.ChangeShapes Go.WideShapes Go.ChangeAt Go.RowKit Go.Deep Go.Joins
set_option maxRecDepth 100000 in
theorem lifted (os : Os) (started : os.Started) (H : Type) (enc : TypeId × Value → H) :
    ReturnsInHanded {} Try.checked os 12 .any (Rows.terrainPlacesSpec.pre6 enc Try.prog Try.f12 Rows.terrainPlacesRow.domain false) (Rows.terrainPlacesSpec.post enc Try.prog Try.f12 false true false false) := by
  refine returnsInHanded_of_change (C := Try.checked) own started (by kernel_rfl) Try.func12
    (ChangeSpec.witness6 (enc := enc) (C := Try.checked) false ⟨#[], #[.int .u16 0, .int .i32 0, .int .i32 0, .int .i64 0, .int .i64 0, .agg #[.int .i64 0, .int .i64 0]], []⟩ 8 (by kernel_rfl) (by kernel_rfl) (by kernel_rfl) (by kernel_rfl)) ?_
  intro W base args ds gs before hval0 hW hcnd _
  have hval : ∀ (j : Nat) t v, Try.f12.params[j]? = some t → args[j]? = some v → Value.okWide Try.prog W .any base t v := hval0
  have hW' := hW
  obtain ⟨p, q, hA0, hV, rfl, hfz, hnd⟩ := hW
  have hA : DataW.TrodAll enc Try.prog W 0 (fun _ => true) true Try.f12.params.toList args.toList ds p := hA0
  rw [Try.params12] at hA hval
  obtain ⟨v0, v1, v2, v3, v4, v5, d0, d1, d2, d3, d4, d5, p0, p1, p2, p3, p4, p5, rfl, rfl, rfl, h0, h1, h2, h3, h4, h5⟩ := trodAll_six hA
  clear hA0 hval0
  obtain ⟨c, rfl, r0⟩ := gate_int Try.underlying30 (hval 0 _ _ rfl rfl) h0
  obtain ⟨ox, rfl, r1⟩ := gate_int Try.underlying21 (hval 1 _ _ rfl rfl) h1
  obtain ⟨oy, rfl, r2⟩ := gate_int Try.underlying21 (hval 2 _ _ rfl rfl) h2
  obtain ⟨east, rfl, r3⟩ := gate_int Try.underlying2 (hval 3 _ _ rfl rfl) h3
  obtain ⟨north, rfl, r4⟩ := gate_int Try.underlying2 (hval 4 _ _ rfl rfl) h4
  obtain ⟨_, rfl, sx, _, rfl, rx5, sy, _, rfl, ry5, rfl⟩ := gate_row Try.underlying61 cells_spot (hval 5 _ _ rfl rfl) h5
  refine (below_of (places_law c r0 ox r1 oy r2 east r3 north r4 sx rx5 sy ry5 (w := W))).mono fun e W' ⟨he, hb⟩ => ?_
  subst he
  exact ⟨_, rfl, gate_post (tb := 4) laidOut Try.underlying4 hW' rfl rfl (fun es h => by
    have h' : es.length = 6 := h
    match es, h' with
    | [_, _, _, _, _, _], _ => rfl) (of_decide_eq_true (by kernel_rfl)) hb⟩
theorem holds : Rows.TerrainPlacesSaid :=
  OpenClaim.holds_of_wide 12 Try.f12 rfl rfl rfl rfl rfl rfl rfl ⟨rfl, rfl, rfl, rfl, rfl⟩ rfl rfl rfl rfl rfl (by kernel_rfl) Try.func12 (by kernel_rfl)
    (of_decide_eq_true (by kernel_rfl)) (by unfold Func.isWrapper; first | (rw [if_pos (by decide +kernel)]; kernel_rfl) | (rw [if_neg (by decide +kernel)]; exact ⟨rfl, rfl⟩))
    (fun os started H enc _ => lifted os started H enc)

#print axioms holds
end Go.Proofs.Ytpmomimaihjmjaa
