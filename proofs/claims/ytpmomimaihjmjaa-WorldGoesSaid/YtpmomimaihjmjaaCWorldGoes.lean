/- WHOEVER FLIES: for every map, every place, every height, every fault of the barometer and all legs the law WorldGoes of the given program returns true, and leaves its arguments as they were. No condition. No condition. -/
import Derived.Carry
import Derived.Test.YtpmomimaihjmjaaMB14
set_option linter.unusedVariables false
set_option linter.unusedSimpArgs false
/- Layer 45's statements: the walk of WorldGoes. -/
namespace Go.Proofs.Ytpmomimaihjmjaa
open Go.RowKit
theorem goF_ok {W H : Nat} {f : List Int} {v : Wv} {b dx dy up ms : Int} (h : v.ok b) : (goF W H f v dx dy up ms).1.ok (b + 3) := by
  unfold goF
  split
  · rename_i hc
    exact loV_ok (goV_ok h hc) _ _ 3
  · exact ⟨h.x, h.y, h.high, h.off, h.dx, h.dy, h.time, by have := h.told; show 0 ≤ v.told ∧ v.told ≤ b + 3; omega⟩
theorem goF_len {W H : Nat} {f : List Int} {v : Wv} {dx dy up ms : Int} : (goF W H f v dx dy up ms).2.1.length ≤ 3 := by
  unfold goF
  split
  · show (goL _ _ _).length ≤ 3
    unfold goL
    split <;> simp
  · exact Nat.zero_le _
attribute [local irreducible] OJ J HdJ Code.wpIn wpListIn Oper.wpIn bodyPost CallsIn Does
set_option maxRecDepth 4000
set_option maxHeartbeats 64000000 in
theorem goes_law (a : Int) (ha : InR .u8 a) (b : Int) (hb : InR .u8 b) (A : Option Addr) (c : Nat) (z : List Int) {w : World} (hr : RoA w (blocks []) A z.length c 1 (ints .i16 z)) (hz : ∀ x ∈ z, InR .i16 x) (px : Int) (hpx : InR .i64 px) (py : Int) (hpy : InR .i64 py) (high : Int) (hhigh : InR .i64 high) (off : Int) (hoff : InR .i64 off) (Al : Option Addr) (cl : Nat) (l : List Leg45) (hrl : RoA w (blocks []) Al l.length cl 4 (flat legE l)) (hl : ∀ p ∈ l, p.ok) :
    Does Try.prog 6 [.int .u8 a, .int .u8 b, .slice A z.length c, .agg #[.int .i64 px, .int .i64 py], .int .i64 high, .int .i64 off, .slice Al l.length cl] [] w (fun v _ => v = .bool true) := by
  have ha1 : 0 ≤ a ∧ a ≤ 255 := ha
  have hb1 : 0 ≤ b ∧ b ≤ 255 := hb
  obtain ⟨W, hW, hW1⟩ : ∃ x : Nat, 2 + a % 39 = (x : Int) ∧ 2 ≤ x ∧ x ≤ 40 := ⟨(2 + a % 39).toNat, by omega, by omega⟩
  obtain ⟨H, hH, hH1⟩ : ∃ x : Nat, 2 + b % 39 = (x : Int) ∧ 2 ≤ x ∧ x ≤ 40 := ⟨(2 + b % 39).toNat, by omega, by omega⟩
  have iW : CV Try.prog 28 [] (.bool true) True := ⟨fun _ w => works45 w⟩
  refine does_of Try.func6 rfl Try.ntmps6 rfl ⟨by simp, .nil⟩ (fun n => ?_)
  simp only [slots]
  refine z_tas
  · exact j_out1 rfl rfl (.nil _) rfl
  · exact j_out1 rfl rfl (.nil _) rfl
  refine lf rfl rfl rfl (S := []) (fun w hw ho => made_any a b ha hb W H hW hH A c z 30 (by decide) 0 0 w ⟨hr.h.go hw (Split.nil _)⟩ (by omega)) ?_
  rintro v S' ⟨Af, cf, rfl, rfl⟩
  have hfl := fieldF_len z (W * H)
  have hfi := field_in16 hz (W * H)
  generalize fieldF z (W * H) = f at *
  rw [show (1 + 30 % 1000 : Int) = ((31 : Nat) : Int) by decide]
  have hcb : 2 ≤ W ∧ W ≤ 256 ∧ 2 ≤ H ∧ H ≤ 256 ∧ 1 ≤ 31 ∧ 31 ≤ 1000 := by omega
  have hF := caF_of (ox := 0) (oy := 0) hcb hfl hfi (by omega : 1 ≤ 8 ∧ 8 ≤ 32)
  have hget := chart_get (ox := 0) (oy := 0) hcb hfl hfi
  obtain ⟨-, h2, h3, -, -, -⟩ := chart_hdr (ox := 0) (oy := 0) (z := f) (W := W) (H := H) (cell := 31) (by omega)
  have hby := fun A c w hr => bytes27_c W H 31 A c f 0 0 w hr hcb hfl hfi (by decide) (by decide)
  generalize chartB W H 31 0 0 f = bb at *
  refine z_tas
  rename_i b10 q1 q2 b15
  refine c_dv (0 :: 1 :: 2 :: 3 :: 4 :: 5 :: 6 :: 7 :: 8 :: 9 :: 10 :: []) ?_; intro _
  refine z_govG
  refine lf rfl rfl rfl (S := []) (fun w hw ho => hby Af cf w ⟨Ro.row hw (Split.nil _) (by refine z_hs)⟩) ?_
  rintro v S' ⟨Ab, cb, rfl, rfl⟩
  refine z_govG
  refine lf rfl rfl rfl (S := []) (fun w hw ho => wnew_c Ab cb bb px py high off w ⟨Ro.row hw (Split.nil _) (by refine z_hs)⟩ hF.u8 hF.len) ?_
  rintro v S' (⟨code, hne, rfl, rfl, h⟩ | ⟨-, hck, rfl, rfl⟩ | ⟨-, hck, K, b, t, hys, hrm, rfl, rfl⟩)
  · exact absurd (h.one hget) hne
  · refine z_govG
    refine lfv rfl rfl rfl (fun w _ => rcheck_c px py high off 0 0 w) ?_
    rcases wchk_nn px py high off with e | e | e
    · exact absurd e hck
    · rw [e]
      refine z_tas
      exact j_out1 rfl rfl (.nil _) rfl
    · rw [e]
      refine z_tas
      exact j_out1 rfl rfl (.nil _) rfl
  rw [← hys] at h2 h3
  rw [← hys, ← hrm] at hF
  have k0 : CaOk K.ys f K.room (newV 8) 0 := by rw [hrm]; exact newV_ok (by omega)
  refine z_govG
  refine lfv rfl rfl rfl (fun w _ => rcheck_c px py high off 0 0 w) ?_
  rw [hck]
  have hv0 := wchk_ok hck
  refine z_tas
  rename_i b18
  refine c_loop (X := Nat × CaV × Wv) (fun q => q.1 ≤ l.length ∧ CaOk K.ys f K.room q.2.1 (8 * (q.1 : Int)) ∧ q.2.2.ok (3 * (q.1 : Int))) (fun q => [(6, .slice Al l.length cl), (15, .pointer (some ⟨b15, 0, none⟩)), (16, .pointer (some ⟨b, 0, none⟩)), (18, .pointer (some ⟨b18, 0, none⟩)), (19, .int .i64 q.1)])
    (fun q => K.HC q.2.1 [.blk b 156 (worldE K.g q.2.2 t), .row (.slice (some ⟨t, 0, none⟩) 3 3) 159 2 3 (flat (tlE b) toolL), .blk b15 28 [.int .i64 W, .int .i64 H, .slice Af f.length cf, .int .i64 (31 : Nat), .int .i32 0, .int .i32 0], .row (.slice Af f.length cf) 34 1 f.length (ints .i16 f), .blk b18 69 (refE q.2.2)]) (fun q => l.length - q.1) (0, newV 8, wV0 px py high off) ⟨by omega, by simpa using k0, by simpa using hv0⟩ ⟨rfl, rfl, rfl, rfl, rfl, trivial⟩ Sub.au ?_
  rintro ⟨i, s, v⟩ ⟨hi, hs, hv⟩
  dsimp only at hi hs hv ⊢
  have htl := hv.told
  rcases Nat.lt_or_ge i l.length with h | h
  · obtain ⟨bL, oL, rfl, hL⟩ := hrl.at_ (by omega : 0 < l.length)
    have hlg : (l.getD i default).ok := hl _ (by rw [List.getD, List.getElem?_eq_getElem h]; exact List.getElem_mem h)
    refine z_tas
    refine c_dvL [] (0 :: 1 :: 2 :: 3 :: 4 :: 5 :: 6 :: 7 :: 8 :: 9 :: 10 :: 11 :: 12 :: 13 :: 14 :: 15 :: 16 :: 17 :: 18 :: 19 :: 20 :: 21 :: 22 :: 23 :: 24 :: 25 :: 26 :: []) (.nil _) ?_; intro _
    refine z_govG
    refine lf rfl rfl rfl (S := K.W s b t v) (fun w hw ho => go_c K s f b t v (8 * (i : Int)) (3 * (i : Int)) hv (by omega) (l.getD i default).dx (l.getD i default).dy (l.getD i default).up (l.getD i default).ms hlg.1 hlg.2.1 hlg.2.2.1 hlg.2.2.2 w ho hF hs (by omega)) ?_
    rintro r S' ⟨s1, Aa, ca, rfl, k1, rfl⟩
    have hgo := goF_ok (W := W) (H := H) (f := f) (dx := (l.getD i default).dx) (dy := (l.getD i default).dy) (up := (l.getD i default).up) (ms := (l.getD i default).ms) hv
    have hln := goF_len (W := W) (H := H) (f := f) (v := v) (dx := (l.getD i default).dx) (dy := (l.getD i default).dy) (up := (l.getD i default).up) (ms := (l.getD i default).ms)
    rw [h2, h3]
    refine z_govG
    refine c_dvL [.blk b15 28 [.int .i64 W, .int .i64 H, .slice Af f.length cf, .int .i64 (31 : Nat), .int .i32 0, .int .i32 0], .blk b18 69 (refE v)] (0 :: 1 :: 2 :: 3 :: 4 :: 5 :: 6 :: 7 :: 8 :: 9 :: 10 :: 11 :: 12 :: 13 :: 14 :: 15 :: 16 :: 17 :: 18 :: 19 :: 20 :: 21 :: 22 :: 23 :: 24 :: 25 :: 26 :: 27 :: 28 :: 29 :: 30 :: 31 :: []) Sub.au ?_
    intro _
    refine z_govG
    rotate_left
    refine t_next Sub.au (t_nrm (rest' := [23, 24, 25, 26, 27, 29, 30, 31]) (by decide) ?_)
    refine z_govG
    all_goals
      refine lf rfl rfl rfl (S := []) (fun w hw ho => rgo_c W H Af cf f v (3 * (i : Int)) (l.getD i default).dx (l.getD i default).dy (l.getD i default).up (l.getD i default).ms hv (by omega) hlg.1 hlg.2.1 hlg.2.2.1 hlg.2.2.2 w ⟨Ro.row hw (Split.nil _) (by refine z_hs)⟩ (by omega) hfl hfi) ?_
      rintro r S' ⟨Ag, cg, rfl, rfl⟩
      generalize goF W H f v (l.getD i default).dx (l.getD i default).dy (l.getD i default).up (l.getD i default).ms = g at *
      refine z_govG
      refine z_tas
      refine lk rfl rfl rfl (S := K.W s1 b t g.1) (fun w hw ho => wtime_c K s1 b t g.1 w ho) ?_
      refine z_tas
      refine c_dv (0 :: 1 :: 2 :: 3 :: 4 :: 5 :: 6 :: 7 :: 8 :: 9 :: 10 :: 11 :: 12 :: 13 :: 14 :: 15 :: 16 :: 17 :: 18 :: 19 :: 20 :: 21 :: 22 :: 23 :: 24 :: 25 :: 26 :: 27 :: 28 :: 29 :: 30 :: 31 :: 32 :: 33 :: 34 :: 35 :: []) ?_; intro _
      refine z_govG
      refine lk rfl rfl rfl (S := K.W s1 b t g.1) (fun w hw ho => wat_c K s1 b t g.1 w ho) ?_
      refine z_govG
      refine lk rfl rfl rfl (S := K.W s1 b t g.1) (fun w hw ho => whigh_c K s1 b t g.1 w ho) ?_
      refine z_govG
      refine c_loop (X := Nat) (fun k => k ≤ g.2.1.length) (fun k => [(6, .slice (some ⟨bL, oL, none⟩) l.length cl), (15, .pointer (some ⟨b15, 0, none⟩)), (16, .pointer (some ⟨b, 0, none⟩)), (18, .pointer (some ⟨b18, 0, none⟩)), (19, .int .i64 i), (20, .slice Aa g.2.1.length ca), (23, .slice Ag g.2.1.length cg), (27, .int .i64 k)])
        (fun _ => .row (.slice Aa g.2.1.length ca) 83 6 g.2.1.length (flat frmE g.2.1) :: .row (.slice Ag g.2.1.length cg) 83 6 g.2.1.length (flat frmE g.2.1) :: K.HC s1 [.blk b 156 (worldE K.g g.1 t), .row (.slice (some ⟨t, 0, none⟩) 3 3) 159 2 3 (flat (tlE b) toolL), .blk b15 28 [.int .i64 W, .int .i64 H, .slice Af f.length cf, .int .i64 (31 : Nat), .int .i32 0, .int .i32 0], .row (.slice Af f.length cf) 34 1 f.length (ints .i16 f), .blk b18 69 (refE g.1)]) (fun k => g.2.1.length - k) 0 (Nat.zero_le _) ⟨rfl, rfl, rfl, rfl, rfl, rfl, rfl, rfl, trivial⟩ Sub.au ?_
      intro k hk
      rcases Nat.lt_or_ge k g.2.1.length with h' | h'
      · refine j_opn (A := Aa) (m := g.2.1.length) (cc := ca) (by omega) (fun ga hga => ?_)
        subst hga
        refine j_opn (A := Ag) (m := g.2.1.length) (cc := cg) (by omega) (fun gb hgb => ?_)
        subst hgb
        refine z_tas
        exact c_round (k + 1) h' (by show _ - (k + 1) < _ - k; omega) ⟨rfl, rfl, rfl, rfl, rfl, rfl, rfl, by simp [look], trivial⟩ Sub.au
      · obtain rfl : k = g.2.1.length := by omega
        refine z_tas
        refine lf rfl rfl rfl (S := K.W s1 b t g.1) (fun w hw ho => ground_c K s1 f b t g.1 (8 * (i : Int) + 4) w ho hF k1 (by omega)) ?_
        rintro r S' ⟨s2, rfl, k2, rfl⟩
        rw [h2, h3]
        refine z_tas
        refine lfv rfl rfl rfl (fun w hw => rheight11_any W H Af cf f g.1.x g.1.y w ⟨Ro.row hw (Split.nil _) (by refine z_hs)⟩ (by omega) hfl hfi) ?_
        generalize heightT W H f g.1.x g.1.y = zz at *
        generalize codeF W H f g.1.x g.1.y = e0 at *
        refine z_tas
        exact c_round (i + 1, s2, g.1) ⟨h, by rw [show 8 * ((i + 1 : Nat) : Int) = 8 * (i : Int) + 4 + 4 by omega]; exact k2, by rw [show 3 * ((i + 1 : Nat) : Int) = 3 * (i : Int) + 3 by omega]; exact hgo⟩ (by show l.length - (i + 1) < l.length - i; omega) ⟨rfl, rfl, rfl, rfl, by simp [look], trivial⟩ Sub.au
  · obtain rfl : i = l.length := by omega
    have hm : (v.told + 1) % 65536 = v.told + 1 := by omega
    rcases hq : ((l.length : Nat) : Int) % 2 == 0 with _ | _
    · have iE : ∀ (w0 : World) (W : Nat → Prop) (H : List HE) (t u : TypeId) (x y : Operand), MS Try.prog w0 W H (.binOp .eql t x y u) [.int .i64 (((l.length : Nat) : Int) % 2), .int .i64 0] (.bool false) True := fun w0 W H t u x y => by rw [← hq]; infer_instance
      refine z_tas
      refine lf rfl rfl rfl (S := K.W s b t v) (fun w hw ho => wstart_c K s b t v (3 * (l.length : Int)) false hv (by omega) w ho) ?_
      rintro r S' ⟨rfl, rfl⟩
      rw [show frW v 5 (if false = true then 1 else 0) 0 = ⟨5, v.told + 1, v.time, 0, 0, 0⟩ from by unfold frW; rw [hm]; rfl]
      refine z_tas
      exact j_out1 rfl rfl (.nil _) rfl
    · have iE : ∀ (w0 : World) (W : Nat → Prop) (H : List HE) (t u : TypeId) (x y : Operand), MS Try.prog w0 W H (.binOp .eql t x y u) [.int .i64 (((l.length : Nat) : Int) % 2), .int .i64 0] (.bool true) True := fun w0 W H t u x y => by rw [← hq]; infer_instance
      refine z_tas
      refine lf rfl rfl rfl (S := K.W s b t v) (fun w hw ho => wstart_c K s b t v (3 * (l.length : Int)) true hv (by omega) w ho) ?_
      rintro r S' ⟨rfl, rfl⟩
      rw [show frW v 5 (if true = true then 1 else 0) 0 = ⟨5, v.told + 1, v.time, 1, 0, 0⟩ from by unfold frW; rw [hm]; rfl]
      refine z_tas
      exact j_out1 rfl rfl (.nil _) rfl
end Go.Proofs.Ytpmomimaihjmjaa
namespace Go.Proofs.Ytpmomimaihjmjaa
open Go.ChangeShapes Go.WideShapes Go.ChangeAt Go.RowKit Go.Deep Go.Joins
set_option maxRecDepth 100000 in
theorem lifted (os : Os) (started : os.Started) (H : Type) (enc : TypeId × Value → H) :
    ReturnsInHanded {} Try.checked os 6 .any (Rows.worldGoesSpec.pre6 enc Try.prog Try.f6 Rows.worldGoesRow.domain false) (Rows.worldGoesSpec.post enc Try.prog Try.f6 false true false false) := by
  refine returnsInHanded_of_change (C := Try.checked) own started (by kernel_rfl) Try.func6
    (ChangeSpec.witness6 (enc := enc) (C := Try.checked) false ⟨#[], #[.int .u8 0, .int .u8 0, .slice none 0 0, .agg #[.int .i64 0, .int .i64 0], .int .i64 0, .int .i64 0, .slice none 0 0], []⟩ 8 (by kernel_rfl) (by kernel_rfl) (by kernel_rfl) (by kernel_rfl)) ?_
  intro W base args ds gs before hval0 hW hcnd _
  have hval : ∀ (j : Nat) t v, Try.f6.params[j]? = some t → args[j]? = some v → Value.okWide Try.prog W .any base t v := hval0
  have hW' := hW
  obtain ⟨p, q, hA0, hV, rfl, hfz, hnd⟩ := hW
  have hA : DataW.TrodAll enc Try.prog W 0 (fun _ => true) true Try.f6.params.toList args.toList ds p := hA0
  rw [Try.params6] at hA hval
  obtain ⟨v0, v1, v2, v3, v4, v5, v6, d0, d1, d2, d3, d4, d5, d6, p0, p1, p2, p3, p4, p5, p6, rfl, rfl, rfl, h0, h1, h2, h3, h4, h5, h6⟩ := trodAll_seven hA
  clear hA0 hval0
  obtain ⟨a, rfl, r0⟩ := gate_int Try.underlying5 (hval 0 _ _ rfl rfl) h0
  obtain ⟨b, rfl, r1⟩ := gate_int Try.underlying5 (hval 1 _ _ rfl rfl) h1
  obtain ⟨A2, c2, z, rfl, q2, r2⟩ := gate_ints Try.underlying22 Try.underlying34 (by kernel_rfl) (hval 2 _ _ rfl rfl) h2
  obtain ⟨_, rfl, atx, _, rfl, rx3, aty, _, rfl, ry3, rfl⟩ := gate_row Try.underlying61 cells_spot (hval 3 _ _ rfl rfl) h3
  obtain ⟨high, rfl, r4⟩ := gate_int Try.underlying2 (hval 4 _ _ rfl rfl) h4
  obtain ⟨off, rfl, r5⟩ := gate_int Try.underlying2 (hval 5 _ _ rfl rfl) h5
  obtain ⟨A6, c6, l, rfl, q6, r6⟩ := gate_rows (en := legE) Try.underlying62 cells_leg rfl un_leg (hval 6 _ _ rfl rfl) h6
  refine (below_of (goes_law a r0 b r1 A2 c2 z q2 r2 atx rx3 aty ry3 high r4 off r5 A6 c6 l q6 r6 (w := W))).mono fun e W' ⟨he, hb⟩ => ?_
  subst he
  exact ⟨_, rfl, gate_post (tb := 4) laidOut Try.underlying4 hW' rfl rfl (fun es h => by
    have h' : es.length = 7 := h
    match es, h' with
    | [_, _, _, _, _, _, _], _ => rfl) (of_decide_eq_true (by kernel_rfl)) hb⟩
theorem holds : Rows.WorldGoesSaid :=
  OpenClaim.holds_of_wide 6 Try.f6 rfl rfl rfl rfl rfl rfl rfl ⟨rfl, rfl, rfl, rfl, rfl⟩ rfl rfl rfl rfl rfl (by kernel_rfl) Try.func6 (by kernel_rfl)
    (of_decide_eq_true (by kernel_rfl)) (by unfold Func.isWrapper; first | (rw [if_pos (by decide +kernel)]; kernel_rfl) | (rw [if_neg (by decide +kernel)]; exact ⟨rfl, rfl⟩))
    (fun os started H enc _ => lifted os started H enc)

#print axioms holds
end Go.Proofs.Ytpmomimaihjmjaa
