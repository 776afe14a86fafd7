/- NOBODY FLIES OVER NO MAP: for all bytes, every place, every height, every fault of the barometer and every leg the law WorldNone of the given program returns true, and leaves its arguments as they were. No condition. No condition. -/
import Derived.Carry
import Derived.Test.YtpmomimaihjmjaaMB14
set_option linter.unusedVariables false
set_option linter.unusedSimpArgs false
/- Tiles make a field: bytes that are a map are the map of some field. -/
namespace Go.Proofs.Ytpmomimaihjmjaa
open Go.RowKit
theorem getD_map_range (g : Nat → Int) {m i : Nat} (h : i < m) : ((List.range m).map g).getD i 0 = g i := by
  rw [List.getD_eq_getElem?_getD, List.getElem?_map, List.getElem?_range h]
  rfl
theorem ext_getD {a b : List Int} (hl : a.length = b.length) (h : ∀ i, i < a.length → a.getD i 0 = b.getD i 0) : a = b := by
  apply List.ext_getElem hl
  intro i h1 h2
  have := h i h1
  rw [List.getD_eq_getElem?_getD, List.getD_eq_getElem?_getD, List.getElem?_eq_getElem h1, List.getElem?_eq_getElem h2] at this
  exact this
theorem fld_ex {W H : Nat} (hW : 1 ≤ W) (Z : Nat → List Int) (hZ : ∀ j, j < nT W H → (Z j).length = tilW W H j * tilH W H j ∧ In16 (Z j)) :
    ∃ f : List Int, f.length = W * H ∧ In16 f ∧ ∀ j, j < nT W H → cutN W H f j = Z j := by
  let J : Nat → Nat → Nat := fun x y => y / 16 * cntF W + x / 16
  let g : Nat → Int := fun i => (Z (J (i % W) (i / W))).getD ((i / W) % 16 * tilW W H (J (i % W) (i / W)) + (i % W) % 16) 0
  have hlen : ((List.range (W * H)).map g).length = W * H := by simp
  have hJ : ∀ i, i < W * H → J (i % W) (i / W) < nT W H := fun i hi =>
    (cut_cell hlen (Nat.mod_lt _ hW) (Nat.div_lt_of_lt_mul hi)).1
  refine ⟨(List.range (W * H)).map g, hlen, fun i => ?_, fun j hj => ?_⟩
  · rcases Nat.lt_or_ge i (W * H) with h | h
    · rw [getD_map_range g h]
      exact (hZ _ (hJ i h)).2 _
    · rw [List.getD_eq_getElem?_getD, List.getElem?_eq_none (by rw [hlen]; exact h)]
      exact ⟨by decide, by decide⟩
  · have hl := cutN_len (W := W) (H := H) (i := j) hlen
    refine ext_getD (by rw [hl, (hZ j hj).1]) fun p hp => ?_
    rw [hl] at hp
    have hc0 : 0 < cntF W := by
      rcases Nat.eq_zero_or_pos (cntF W) with h | h
      · unfold nT at hj; rw [h, Nat.zero_mul] at hj; omega
      · exact h
    have hX : j % cntF W < cntF W := Nat.mod_lt _ hc0
    have hY : j / cntF W < cntF H := Nat.div_lt_of_lt_mul hj
    have hjj : j / cntF W * cntF W + j % cntF W = j := by rw [Nat.mul_comm]; exact Nat.div_add_mod j (cntF W)
    have hb := box_at (W := W) (H := H) hX hY
    have ew : tilW W H j = min 16 (W - 16 * (j % cntF W)) := by
      unfold tilW tX tY
      rw [hb]
    have eh : tilH W H j = min 16 (H - 16 * (j / cntF W)) := by
      unfold tilH tX tY
      rw [hb]
    have hw0 : 0 < tilW W H j := by
      rcases Nat.eq_zero_or_pos (tilW W H j) with h | h
      · rw [h, Nat.zero_mul] at hp; omega
      · exact h
    have hpx : p % tilW W H j < tilW W H j := Nat.mod_lt _ hw0
    have hpy : p / tilW W H j < tilH W H j := Nat.div_lt_of_lt_mul hp
    have hpp : p / tilW W H j * tilW W H j + p % tilW W H j = p := by rw [Nat.mul_comm]; exact Nat.div_add_mod p _
    have k1 := hpx
    have k2 := hpy
    have k1 : p % tilW W H j < min 16 (W - 16 * (j % cntF W)) := Nat.lt_of_lt_of_eq k1 ew
    have k2 : p / tilW W H j < min 16 (H - 16 * (j / cntF W)) := Nat.lt_of_lt_of_eq k2 eh
    have hx : 16 * (j % cntF W) + p % tilW W H j < W := by
      have h1 := Nat.lt_of_lt_of_le k1 (Nat.min_le_right _ _)
      generalize p % tilW W H j = px at *
      omega
    have hy : 16 * (j / cntF W) + p / tilW W H j < H := by
      have h1 := Nat.lt_of_lt_of_le k2 (Nat.min_le_right _ _)
      generalize p / tilW W H j = py at *
      omega
    have p16 : p % tilW W H j < 16 := Nat.lt_of_lt_of_le k1 (Nat.min_le_left _ _)
    have q16 : p / tilW W H j < 16 := Nat.lt_of_lt_of_le k2 (Nat.min_le_left _ _)
    generalize p % tilW W H j = px at *
    generalize p / tilW W H j = py at *
    have hcc := cut_cell hlen hx hy
    have e1 : (16 * (j % cntF W) + px) / 16 = j % cntF W := by omega
    have e2 : (16 * (j / cntF W) + py) / 16 = j / cntF W := by omega
    have e3 : (16 * (j % cntF W) + px) % 16 = px := by omega
    have e4 : (16 * (j / cntF W) + py) % 16 = py := by omega
    rw [e1, e2, e3, e4, hjj, hpp] at hcc
    rw [hcc.2.2.2]
    obtain ⟨r1, r2, r3⟩ : (16 * (j / cntF W) + py) * W + (16 * (j % cntF W) + px) < W * H ∧ ((16 * (j / cntF W) + py) * W + (16 * (j % cntF W) + px)) % W = 16 * (j % cntF W) + px ∧ ((16 * (j / cntF W) + py) * W + (16 * (j % cntF W) + px)) / W = 16 * (j / cntF W) + py := by
      generalize 16 * (j % cntF W) + px = x at *
      generalize 16 * (j / cntF W) + py = y at *
      have h1 : (y + 1) * W ≤ H * W := Nat.mul_le_mul_right _ hy
      rw [Nat.add_mul, Nat.one_mul, Nat.mul_comm H] at h1
      refine ⟨by omega, ?_, ?_⟩
      · rw [Nat.mul_comm, Nat.mul_add_mod, Nat.mod_eq_of_lt hx]
      · rw [Nat.mul_comm, Nat.mul_add_div (by omega), Nat.div_eq_of_lt hx]; omega
    rw [getD_map_range g r1]
    show (Z (J (_ % W) (_ / W))).getD (_ / W % 16 * tilW W H (J (_ % W) (_ / W)) + _ % W % 16) 0 = _
    rw [r2, r3]
    show (Z ((16 * (j / cntF W) + py) / 16 * cntF W + (16 * (j % cntF W) + px) / 16)).getD ((16 * (j / cntF W) + py) % 16 * tilW W H ((16 * (j / cntF W) + py) / 16 * cntF W + (16 * (j % cntF W) + px) / 16) + (16 * (j % cntF W) + px) % 16) 0 = _
    rw [e1, e2, e3, e4, hjj, hpp]
theorem good_ex {ys : List Int} (h : GetC ys 0) : ∃ f, Good9 ys f := by
  rcases h with ⟨h, -⟩ | ⟨-, i, -, h, -⟩ | ⟨ho, -, h⟩
  · exact absurd rfl h
  · exact absurd rfl h.ne
  · have hr := ((openC_iff ys).1 ho).rng
    unfold rangeY at hr
    have hc : ∀ j : Nat, ∃ z, j < nY ys → TilOk ys j z := fun j => by
      by_cases hj : j < nY ys
      · obtain ⟨z, hz⟩ := h j hj; exact ⟨z, fun _ => hz⟩
      · exact ⟨[], fun q => absurd q hj⟩
    obtain ⟨Z, hZ⟩ := Classical.axiomOfChoice hc
    obtain ⟨f, h1, h2, h3⟩ := fld_ex (W := wY ys) (H := hY ys) (by omega) Z (fun j hj => ⟨(hZ j hj).1, (hZ j hj).2.1⟩)
    refine ⟨f, h2, h1, fun j hj => ?_⟩
    unfold tilB
    rw [h3 j hj]
    exact (hZ j hj).2.2
end Go.Proofs.Ytpmomimaihjmjaa
/- Layer 45's statements: the walk of WorldNone. -/
namespace Go.Proofs.Ytpmomimaihjmjaa
open Go.RowKit
theorem goC_nn (v : Wv) (dx dy up ms : Int) : goC v dx dy up ms = 0 ∨ goC v dx dy up ms = 2 ∨ goC v dx dy up ms = 9 := by
  unfold goC
  split
  · exact .inr (.inl rfl)
  split
  · exact .inr (.inr rfl)
  · exact .inl rfl
theorem goC_ms {v : Wv} {dx dy up ms : Int} (h : goC v dx dy up ms = 0) : ms ≤ 60000 := by
  unfold goC at h
  split at h
  · exact absurd h (by decide)
  · rename_i h1
    exact (Decidable.not_not.1 h1).2.2.2
attribute [local irreducible] OJ J HdJ Code.wpIn wpListIn Oper.wpIn bodyPost CallsIn Does
set_option maxRecDepth 4000
set_option maxHeartbeats 64000000 in
theorem none_law (A : Option Addr) (c : Nat) (ys : List Int) {w : World} (hr : RoA w (blocks []) A ys.length c 1 (ints .u8 ys)) (hy : ∀ x ∈ ys, InR .u8 x) (px : Int) (hpx : InR .i64 px) (py : Int) (hpy : InR .i64 py) (high : Int) (hhigh : InR .i64 high) (off : Int) (hoff : InR .i64 off) (dx : Int) (hdx : InR .i64 dx) (dy : Int) (hdy : InR .i64 dy) (up : Int) (hup : InR .i64 up) (ms : Int) (hms : InR .u32 ms) :
    Does Try.prog 7 [.slice A ys.length c, .agg #[.int .i64 px, .int .i64 py], .int .i64 high, .int .i64 off, .agg #[.int .i64 dx, .int .i64 dy, .int .i64 up, .int .u32 ms]] [] w (fun v _ => v = .bool true) := by
  have hu : U8s ys := fun y h => by have : 0 ≤ y ∧ y ≤ 255 := hy y h; omega
  have hms1 : 0 ≤ ms ∧ ms ≤ 4294967295 := hms
  have iW : CV Try.prog 28 [] (.bool true) True := ⟨fun _ w => works45 w⟩
  refine does_of Try.func7 rfl Try.ntmps7 rfl ⟨by simp, .nil⟩ (fun n => ?_)
  simp only [slots]
  refine z_tas
  · exact j_out1 rfl rfl (.nil _) rfl
  refine lf rfl rfl rfl (S := []) (fun w hw ho => wnew_c A c ys px py high off w ⟨hr.h.go hw (Split.nil _)⟩ hu (by omega)) ?_
  rintro v S' (⟨code, hne, rfl, rfl, h⟩ | ⟨h, hck, rfl, rfl⟩ | ⟨h, hck, K, b, t, hys, hrm, rfl, rfl⟩)
  · have iN : ∀ (w0 : World) (W : Nat → Prop) (H : List HE) (t u : TypeId) (x y : Operand), MS Try.prog w0 W H (.binOp .neq t x y u) [.int .i64 code, .int .i64 0] (.bool true) True := fun w0 W H t u x y => by
      have e : (code != 0) = true := by simpa using hne
      rw [← e]; infer_instance
    have iE : ∀ (w0 : World) (W : Nat → Prop) (H : List HE) (t u : TypeId) (x y : Operand), MS Try.prog w0 W H (.binOp .eql t x y u) [.int .i64 code, .int .i64 0] (.bool false) True := fun w0 W H t u x y => by
      have e : (code == 0) = false := by simpa using hne
      rw [← e]; infer_instance
    refine z_tas
    refine lf rfl rfl rfl (S := []) (fun w hw ho => get_any9 A c ys w ⟨hr.h.go hw (Split.nil _)⟩ hu (by omega)) ?_
    rintro v S' (⟨code', -, h', rfl, rfl⟩ | ⟨h', -⟩)
    · obtain rfl : code' = code := h'.one h
      refine z_tas
      exact j_out1 rfl rfl (.nil _) rfl
    · exact absurd (h.one h') hne
  · refine z_tas
    refine lf rfl rfl rfl (S := []) (fun w hw ho => get_any9 A c ys w ⟨hr.h.go hw (Split.nil _)⟩ hu (by omega)) ?_
    rintro v S' (⟨code', hne, h', rfl, rfl⟩ | ⟨-, g, Ag, cg, -, -, rfl, rfl⟩)
    · exact absurd (h'.one h) hne
    refine z_tas
    refine lfv rfl rfl rfl (fun w _ => rcheck_c px py high off 0 0 w) ?_
    rcases wchk_nn px py high off with e | e | e
    · exact absurd e hck
    · rw [e]
      refine z_tas
      exact j_out1 rfl rfl (.nil _) rfl
    · rw [e]
      refine z_tas
      exact j_out1 rfl rfl (.nil _) rfl
  · obtain ⟨f, hf⟩ := good_ex h
    have hop : Opens ys := by
      rcases h with ⟨q, -⟩ | ⟨-, i, -, q, -⟩ | ⟨ho, -, -⟩
      · exact absurd rfl q
      · exact absurd rfl q.ne
      · exact (openC_iff ys).1 ho
    have hF : CaF K.ys f K.room := by rw [hys, hrm]; exact ⟨hu, by omega, hop, hf, by omega⟩
    have k0 : CaOk K.ys f K.room (newV 8) 0 := by rw [hrm]; exact newV_ok (by omega)
    have hv0 := wchk_ok hck
    refine z_tas
    refine lf rfl rfl rfl (S := []) (fun w hw ho => get_any9 A c ys w ⟨hr.h.go hw (Split.nil _)⟩ hu (by omega)) ?_
    rintro v S' (⟨code', hne, h', rfl, rfl⟩ | ⟨-, g, Ag, cg, -, -, rfl, rfl⟩)
    · exact absurd (h'.one h) hne
    refine z_tas
    refine lfv rfl rfl rfl (fun w _ => rcheck_c px py high off 0 0 w) ?_
    rw [hck]
    refine z_tas
    refine lk rfl rfl rfl (S := K.W (newV 8) b t (wV0 px py high off)) (fun w hw ho => wtime_c K (newV 8) b t (wV0 px py high off) w ho) ?_
    refine z_tas
    refine lf rfl rfl rfl (S := K.W (newV 8) b t (wV0 px py high off)) (fun w hw ho => go_c K (newV 8) f b t (wV0 px py high off) 0 0 hv0 (by omega) dx dy up ms hdx hdy hup hms w ho hF k0 (by omega)) ?_
    rintro r S' ⟨s1, Aa, ca, rfl, k1, rfl⟩
    by_cases hc : goC (wV0 px py high off) dx dy up ms = 0
    · have hmm := goC_ms hc
      have e : goF (wY K.ys) (hY K.ys) f (wV0 px py high off) dx dy up ms = _ := if_pos hc
      have e1 : (goF (wY K.ys) (hY K.ys) f (wV0 px py high off) dx dy up ms).1.told = ((goF (wY K.ys) (hY K.ys) f (wV0 px py high off) dx dy up ms).2.1.length : Int) := by rw [e]; show 0 + _ = _; rw [Int.zero_add]; rfl
      have e2 : (goF (wY K.ys) (hY K.ys) f (wV0 px py high off) dx dy up ms).1.time = ms := by rw [e]; show (0 + ms) % 4294967296 = ms; omega
      have e3 : (goF (wY K.ys) (hY K.ys) f (wV0 px py high off) dx dy up ms).2.2 = 0 := by rw [e]
      have hln : (goF (wY K.ys) (hY K.ys) f (wV0 px py high off) dx dy up ms).2.1.length ≤ 3 := by
        rw [e]
        show (goL _ _ _).length ≤ 3
        unfold goL
        split <;> simp
      generalize goF (wY K.ys) (hY K.ys) f (wV0 px py high off) dx dy up ms = g at *
      rw [e3, show (wV0 px py high off).told = 0 from rfl, show (wV0 px py high off).time = 0 from rfl]
      refine z_tas
      refine lk rfl rfl rfl (S := K.W s1 b t g.1) (fun w hw ho => wtime_c K s1 b t g.1 w ho) ?_
      rw [e1, e2]
      refine z_tas
      all_goals first
        | exact j_out1 rfl rfl (.nil _) rfl
        | (exfalso; rename_i hx; simp at hx)
    · have e : goF (wY K.ys) (hY K.ys) f (wV0 px py high off) dx dy up ms = (wV0 px py high off, [], goC (wV0 px py high off) dx dy up ms) := if_neg hc
      have e1 : (goF (wY K.ys) (hY K.ys) f (wV0 px py high off) dx dy up ms).1 = wV0 px py high off := by rw [e]
      have e2 : (goF (wY K.ys) (hY K.ys) f (wV0 px py high off) dx dy up ms).2.1 = [] := by rw [e]
      have e3 : (goF (wY K.ys) (hY K.ys) f (wV0 px py high off) dx dy up ms).2.2 = goC (wV0 px py high off) dx dy up ms := by rw [e]
      rw [e1, e2, e3, show ([] : List Frm).length = 0 from rfl]
      rcases goC_nn (wV0 px py high off) dx dy up ms with q | q | q
      · exact absurd q hc
      all_goals
        rw [q]
        refine z_tas
        refine lk rfl rfl rfl (S := K.W s1 b t (wV0 px py high off)) (fun w hw ho => wtime_c K s1 b t (wV0 px py high off) w ho) ?_
        refine z_tas
        refine c_dv (0 :: 1 :: 2 :: 3 :: 4 :: 5 :: 6 :: 7 :: 8 :: 9 :: 10 :: 11 :: 12 :: 13 :: 14 :: 15 :: 16 :: 17 :: 18 :: 19 :: 20 :: 21 :: 22 :: 23 :: 24 :: 25 :: 26 :: 27 :: 28 :: []) ?_; intro _
        refine z_govG
        refine lk rfl rfl rfl (S := K.W s1 b t (wV0 px py high off)) (fun w hw ho => wat_c K s1 b t (wV0 px py high off) w ho) ?_
        refine z_govG
        refine lk rfl rfl rfl (S := K.W s1 b t (wV0 px py high off)) (fun w hw ho => whigh_c K s1 b t (wV0 px py high off) w ho) ?_
        refine z_govG
        exact j_out1 rfl rfl (.nil _) rfl
end Go.Proofs.Ytpmomimaihjmjaa
namespace Go.Proofs.Ytpmomimaihjmjaa
open Go.ChangeShapes Go.WideShapes Go.ChangeAt Go.RowKit Go.Deep Go.Joins
set_option maxRecDepth 100000 in
theorem lifted (os : Os) (started : os.Started) (H : Type) (enc : TypeId × Value → H) :
    ReturnsInHanded {} Try.checked os 7 .any (Rows.worldNoneSpec.pre6 enc Try.prog Try.f7 Rows.worldNoneRow.domain false) (Rows.worldNoneSpec.post enc Try.prog Try.f7 false true false false) := by
  refine returnsInHanded_of_change (C := Try.checked) own started (by kernel_rfl) Try.func7
    (ChangeSpec.witness6 (enc := enc) (C := Try.checked) false ⟨#[], #[.slice none 0 0, .agg #[.int .i64 0, .int .i64 0], .int .i64 0, .int .i64 0, .agg #[.int .i64 0, .int .i64 0, .int .i64 0, .int .u32 0]], []⟩ 8 (by kernel_rfl) (by kernel_rfl) (by kernel_rfl) (by kernel_rfl)) ?_
  intro W base args ds gs before hval0 hW hcnd _
  have hval : ∀ (j : Nat) t v, Try.f7.params[j]? = some t → args[j]? = some v → Value.okWide Try.prog W .any base t v := hval0
  have hW' := hW
  obtain ⟨p, q, hA0, hV, rfl, hfz, hnd⟩ := hW
  have hA : DataW.TrodAll enc Try.prog W 0 (fun _ => true) true Try.f7.params.toList args.toList ds p := hA0
  rw [Try.params7] at hA hval
  obtain ⟨v0, v1, v2, v3, v4, d0, d1, d2, d3, d4, p0, p1, p2, p3, p4, rfl, rfl, rfl, h0, h1, h2, h3, h4⟩ := trodAll_five hA
  clear hA0 hval0
  obtain ⟨A0, c0, b, rfl, q0, r0⟩ := gate_ints Try.underlying52 Try.underlying5 (by kernel_rfl) (hval 0 _ _ rfl rfl) h0
  obtain ⟨_, rfl, atx, _, rfl, rx1, aty, _, rfl, ry1, rfl⟩ := gate_row Try.underlying61 cells_spot (hval 1 _ _ rfl rfl) h1
  obtain ⟨high, rfl, r2⟩ := gate_int Try.underlying2 (hval 2 _ _ rfl rfl) h2
  obtain ⟨off, rfl, r3⟩ := gate_int Try.underlying2 (hval 3 _ _ rfl rfl) h3
  obtain ⟨_, rfl, legx, _, rfl, rx4, legy, _, rfl, ry4, legz, _, rfl, rz4, legw, _, rfl, rw4, rfl⟩ := gate_row Try.underlying75 cells_leg (hval 4 _ _ rfl rfl) h4
  refine (below_of (none_law A0 c0 b q0 r0 atx rx1 aty ry1 high r2 off r3 legx rx4 legy ry4 legz rz4 legw rw4 (w := W))).mono fun e W' ⟨he, hb⟩ => ?_
  subst he
  exact ⟨_, rfl, gate_post (tb := 4) laidOut Try.underlying4 hW' rfl rfl (fun es h => by
    have h' : es.length = 5 := h
    match es, h' with
    | [_, _, _, _, _], _ => rfl) (of_decide_eq_true (by kernel_rfl)) hb⟩
theorem holds : Rows.WorldNoneSaid :=
  OpenClaim.holds_of_wide 7 Try.f7 rfl rfl rfl rfl rfl rfl rfl ⟨rfl, rfl, rfl, rfl, rfl⟩ rfl rfl rfl rfl rfl (by kernel_rfl) Try.func7 (by kernel_rfl)
    (of_decide_eq_true (by kernel_rfl)) (by unfold Func.isWrapper; first | (rw [if_pos (by decide +kernel)]; kernel_rfl) | (rw [if_neg (by decide +kernel)]; exact ⟨rfl, rfl⟩))
    (fun os started H enc _ => lifted os started H enc)

#print axioms holds
end Go.Proofs.Ytpmomimaihjmjaa
