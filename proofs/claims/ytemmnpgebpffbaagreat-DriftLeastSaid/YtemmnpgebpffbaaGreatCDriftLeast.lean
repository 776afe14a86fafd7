/- THE LEAST OF ALL WAYS: for every map, every search, every profile, any cost of a step and any way that is given the law DriftLeast of the given program returns true, and leaves its arguments as they were. No condition. -/
import Derived.Carry
import Derived.Test.YtemmnpgebpffbaaGreatMF19
set_option linter.unusedVariables false
set_option linter.unusedSimpArgs false
/- Layer 40's statements: the least of all ways. -/
namespace Go.Proofs.YtemmnpgebpffbaaGreat
open Go.RowKit
/-- The first so many rows of memory that nobody writes. -/
theorem RoA.takeE {α : Type} [Inhabited α] {en : α → List Value} {s : Nat} [hR : RowE en s] {w0 : World} {W : Nat → Prop} {A : Option Addr} {c : Nat} {l : List α} (hr : RoA w0 W A l.length c s (flat en l)) {m : Nat} (hm : m ≤ l.length) : RoA w0 W A (l.take m).length c s (flat en (l.take m)) := by
  have hml : (l.take m).length = m := by rw [List.length_take]; omega
  obtain ⟨A', c', e1, h1, h2, h3, h4⟩ := hr.h
  injection e1 with e1 e2 e3; subst e1 e3
  refine ⟨A, c, rfl, by omega, h2, flat_len _, fun hn => ?_⟩
  obtain ⟨b, off, rfl, h5, h6, h7⟩ := h4 (by omega)
  refine ⟨b, off, rfl, h5, h6, fun j v hj => h7 j v ?_⟩
  have hjl : j < (l.take m).length * s := by rw [← flat_len (e := en) (l.take m)]; exact (List.getElem?_eq_some_iff.1 hj).1
  have hpos := hR.h.2
  have hi2 : j / s < (l.take m).length := Nat.div_lt_of_lt_mul (by rw [Nat.mul_comm]; exact hjl)
  have hjj : j / s * s + j % s = j := by rw [Nat.mul_comm]; exact Nat.div_add_mod j s
  have q1 := flat_at (e := en) (l.take m) (j / s) (j % s) hi2 (Nat.mod_lt _ hpos)
  have q2 := flat_at (e := en) l (j / s) (j % s) (by omega) (Nat.mod_lt _ hpos)
  rw [hjj] at q1 q2
  rw [q2]
  rw [q1] at hj
  have e : (l.take m).getD (j / s) default = l.getD (j / s) default := by
    rw [List.getD_eq_getElem?_getD, List.getD_eq_getElem?_getD, List.getElem?_take_of_lt (by omega)]
  rw [← e]
  exact hj
theorem rcost40_n (W H : Nat) (A : Option Addr) (c : Nat) (f : List Int) (s : Sch) (Al : Option Addr) (cl : Nat) (l : List Smp) (t : Int) (Aw : Option Addr) (cw : Nat) (ws : List (Int × Int)) (n : Nat) (hn : ws.length = n) (w : World) (hr : RoA w (blocks []) A f.length c 1 (ints .i16 f)) (hrl : RoA w (blocks []) Al l.length cl 3 (flat smpE l)) (hrw : RoA w (blocks []) Aw n cw 2 (flat dE ws))
    (hW : 1 ≤ W ∧ W ≤ 256 ∧ 1 ≤ H ∧ H ≤ 256) (hz : f.length = W * H) (hf : In16 f) (hs : SchOk s) (hl : ∀ j, j < l.length → SmpOk (l.getD j default)) (hl64 : l.length ≤ 64) (ht : 0 ≤ t ∧ t ≤ 1048576) (hlen : n ≤ l.length) :
    Does Tryz.prog 20 [.agg #[.int .i64 W, .int .i64 H, .slice A f.length c], .agg (schE s).toArray, .slice Al l.length cl, .int .i64 t, .slice Aw n cw] [] w
      (fun v S' => v = .int .i64 (wayC s.far t (offG W H f s l) (fun j => ws.getD j default) ws.length) ∧ S' = []) := by
  subst hn
  exact rcost40_any W H A c f s Al cl l t Aw cw ws w hr hrl hrw hW hz hf hs hl hl64 ht hlen
attribute [local irreducible] OJ J HdJ Code.wpIn wpListIn Oper.wpIn bodyPost CallsIn Does
set_option maxRecDepth 4000
set_option maxHeartbeats 128000000 in
theorem least_law (a : Int) (ha : InR .u8 a) (b : Int) (hb : InR .u8 b) (A : Option Addr) (c : Nat) (z : List Int) {w : World} (hr : RoA w (blocks []) A z.length c 1 (ints .i16 z)) (hz : ∀ x ∈ z, InR .i16 x) (s : Sch) (_ : InR .i64 s.x) (_ : InR .i64 s.y) (_ : InR .i64 s.far) (_ : InR .i64 s.step) (Al : Option Addr) (cl : Nat) (l : List Smp) (hrl : RoA w (blocks []) Al l.length cl 3 (flat smpE l)) (_ : ∀ p ∈ l, p.ok) (turn : Int) (hturn : InR .i64 turn) (Ag : Option Addr) (cg : Nat) (gs : List (Int × Int)) (hrg : RoA w (blocks []) Ag gs.length cg 2 (flat dE gs)) (_ : ∀ p ∈ gs, InR .i64 p.1 ∧ InR .i64 p.2) :
    Does Tryz.prog 4 [.int .u8 a, .int .u8 b, .slice A z.length c, .agg (schE s).toArray, .slice Al l.length cl, .int .i64 turn, .slice Ag gs.length cg] [] w (fun v _ => v = .bool true) := by
  have ha1 : 0 ≤ a ∧ a ≤ 255 := ha
  have hb1 : 0 ≤ b ∧ b ≤ 255 := hb
  obtain ⟨W, hW, hW1⟩ : ∃ x : Nat, 2 + a % 39 = (x : Int) ∧ 2 ≤ x ∧ x ≤ 40 := ⟨(2 + a % 39).toNat, by omega, by omega⟩
  obtain ⟨H, hH, hH1⟩ : ∃ x : Nat, 2 + b % 39 = (x : Int) ∧ 2 ≤ x ∧ x ≤ 40 := ⟨(2 + b % 39).toNat, by omega, by omega⟩
  have iW : CV Tryz.prog 17 [] (.bool true) True := ⟨fun _ w => works40 w⟩
  refine does_of Tryz.func4 rfl Tryz.ntmps4 rfl ⟨by simp, .nil⟩ (fun _ => ?_)
  simp only [slots]
  refine z_tas
  refine lfv rfl rfl rfl (fun w hw => small40_any s w) ?_
  generalize small40 s = s at *
  refine z_tas
  · exact j_out1 rfl rfl (.nil _) rfl
  · exact j_out1 rfl rfl (.nil _) rfl
  · exact j_out1 rfl rfl (.nil _) rfl
  refine lfv rfl rfl rfl (fun w hw => rcheck40_any s Al cl l turn w ⟨hrl.h.go hw (Split.nil _)⟩ (by omega)) ?_
  generalize hck : chk40 s l turn = ck at *
  refine z_tas
  · exact j_out1 rfl rfl (.nil _) rfl
  have hck0 : ck = 0 := by omega
  subst hck0
  obtain ⟨hcz, hf8, ht0, ht1⟩ := chk40_ok hck
  obtain ⟨⟨⟨a1, a2⟩, ⟨a3, a4⟩, ⟨a5, a6⟩, a7, a8⟩, ⟨l1, l2⟩, hl⟩ := chk21_ok hcz
  refine lf rfl rfl rfl (S := []) (fun w hw ho => made_any a b ha hb W H hW hH A c z 30 (by decide) 0 0 w ⟨hr.h.go hw (Split.nil _)⟩ (by omega)) ?_
  rintro v S' ⟨Af, cf, rfl, rfl⟩
  have hfl := fieldF_len z (W * H)
  have hfi := field_in16 hz (W * H)
  generalize fieldF z (W * H) = f at *
  rw [show (1 + 30 % 1000 : Int) = ((31 : Nat) : Int) by decide]
  have hcb : 2 ≤ W ∧ W ≤ 256 ∧ 2 ≤ H ∧ H ≤ 256 ∧ 1 ≤ 31 ∧ 31 ≤ 1000 := by omega
  have hF := caF_of (ox := 0) (oy := 0) hcb hfl hfi (by omega : 1 ≤ 4 ∧ 4 ≤ 32)
  obtain ⟨-, h2, h3, -, -, -⟩ := chart_hdr (ox := 0) (oy := 0) (z := f) (W := W) (H := H) (cell := 31) (by omega)
  refine z_tas
  refine lf rfl rfl rfl (S := []) (fun w hw ho => open10 W H 31 Af cf f 0 0 4 w ⟨Ro.row hw (Split.nil _) (by refine z_hs)⟩ hcb hfl hfi (by decide) (by decide) (by omega)) ?_
  rintro v S' ⟨K, hys, hrm, rfl, rfl⟩
  rw [← hys, ← hrm] at hF
  rw [← hys] at h2 h3
  have k0 : CaOk K.ys f K.room (newV 4) 0 := by rw [hrm]; exact newV_ok (by omega)
  refine z_tas
  refine lf rfl rfl rfl (S := K.H (newV 4)) (fun w hw ho => find_t K (newV 4) f s Al cl l turn 0 w _ rfl ho hF k0 (by omega) ⟨hrl.h.go hw Split.au⟩ (by omega)) ?_
  rintro v S' ⟨s1, k1, h5⟩
  have hcst := cst_ok hfi s l hl (W := W) (H := H)
  rw [h2, h3, hck] at h5
  have hcs1 : ∀ n a, -1 ≤ cstF W H f s l n a := fun n a => (hcst n a).1
  have hg1 : ∀ n a, -1 ≤ (tre turn s.far (sideN s.far * sideN s.far) (cstF W H f s l) n a).1 := fun n a => (tre_bnd ⟨ht0, ht1⟩ hcst n a).1
  have hu1 : ∀ n a, (tre turn s.far (sideN s.far * sideN s.far) (cstF W H f s l) n a).1 ≤ 10485760 * ((n : Int) + 1) := fun n a => (tre_bnd ⟨ht0, ht1⟩ hcst n a).2
  have hoff : ∀ n a, offG W H f s l n (pS s.far a) = cstF W H f s l n a := fun _ _ => rfl
  obtain ⟨r, hr1⟩ : ∃ r, l.length = r + 1 := ⟨l.length - 1, by omega⟩
  have hLs : ∀ b1, bstG (fun a => (tre turn s.far (sideN s.far * sideN s.far) (cstF W H f s l) r a).1) (sideN s.far * sideN s.far) = some b1 → bsv (bck turn s.far (sideN s.far * sideN s.far) (cstF W H f s l) l.length (l.length - 1)) (sideN s.far * sideN s.far) = (tre turn s.far (sideN s.far * sideN s.far) (cstF W H f s l) r b1).1 := fun b1 h => by
    rw [hr1, Nat.add_sub_cancel]
    exact least_some ht0 hcs1 hg1 h
  have hLn : bstG (fun a => (tre turn s.far (sideN s.far * sideN s.far) (cstF W H f s l) r a).1) (sideN s.far * sideN s.far) = none → bsv (bck turn s.far (sideN s.far * sideN s.far) (cstF W H f s l) l.length (l.length - 1)) (sideN s.far * sideN s.far) = -1 := fun h => by
    rw [hr1, Nat.add_sub_cancel]
    exact least_none ht0 hcs1 hg1 h
  rw [show l.length - 1 = r by omega] at h5
  rcases h5 with ⟨h5, -⟩ | ⟨-, h5, rfl, rfl⟩ | ⟨b1, A1, c1, -, h5, rfl, rfl⟩
  · exact absurd rfl h5
  · have hLe := hLn h5
    refine z_tas
    refine lfv rfl rfl rfl (fun w hw => rleast_any W H Af cf f s Al cl l turn w _ rfl ⟨Ro.row hw (Split.nil _) (by refine z_hs)⟩ ⟨hrl.h.go hw (Split.nil _)⟩ (by omega) hfl hfi ⟨⟨a1, a2⟩, ⟨a3, a4⟩, ⟨a5, a6⟩, a7, a8⟩ hf8 hl ⟨l1, l2⟩ ⟨ht0, ht1⟩) ?_
    rw [hLe]
    refine z_tas
    exact j_out1 rfl rfl (.nil _) rfl
  · have hLe := hLs b1 h5
    obtain ⟨cc1, u1, w1, e1, m1⟩ := best_some ht0 hcs1 hg1 h5
    have hwl := bakL_len (tre turn s.far (sideN s.far * sideN s.far) (cstF W H f s l)) r b1
    have hv0 := hg1 r b1
    have hv1 := hu1 r b1
    have hpos := w1.pos hcs1
    have hnn := Int.mul_nonneg hpos.2 ht0
    have hvp : 0 ≤ (tre turn s.far (sideN s.far * sideN s.far) (cstF W H f s l) r b1).1 := by omega
    have hmem := w1.mem
    generalize bakL (tre turn s.far (sideN s.far * sideN s.far) (cstF W H f s l)) r b1 = bl at *
    have hml : (bl.map (pS s.far)).length = l.length := by rw [List.length_map, hwl, hr1]
    have hcost : wayC s.far turn (offG W H f s l) (fun j => (bl.map (pS s.far)).getD j default) (bl.map (pS s.far)).length = (tre turn s.far (sideN s.far * sideN s.far) (cstF W H f s l) r b1).1 := by
      have hp : ∀ j, j < r + 1 → (bl.map (pS s.far)).getD j default = pS s.far (bl.getD j 0) := fun j hj => by
        rw [List.getD_eq_getElem?_getD, List.getElem?_map, List.getD_eq_getElem?_getD, List.getElem?_eq_getElem (by omega)]
        rfl
      have ht := tabL_of bl (r + 1) (by omega)
      rw [List.take_of_length_le (by omega)] at ht
      obtain ⟨g1, g2⟩ := way_leg (t := turn) (p := fun j => (bl.map (pS s.far)).getD j default) hcs1 hoff r hp (fun j hj => by
        have hj2 := hmem (bl.getD j 0) (by rw [List.getD_eq_getElem?_getD, List.getElem?_eq_getElem (by omega)]; exact List.getElem_mem _)
        have := pS_in a1 hj2
        show (-s.far ≤ ((bl.map (pS s.far)).getD j default).1 ∧ _) ∧ _
        rw [hp j hj]
        exact this) cc1 u1 (by rw [ht]; exact w1)
      unfold wayC
      rw [hml, hr1, g1, if_pos rfl, g2, e1]
    generalize bl.map (pS s.far) = wl at *
    have hgiv : l.length ≤ gs.length → (wayC s.far turn (offG W H f s l) (fun j => (gs.take l.length).getD j default) (gs.take l.length).length < 0 ∨ (tre turn s.far (sideN s.far * sideN s.far) (cstF W H f s l) r b1).1 ≤ wayC s.far turn (offG W H f s l) (fun j => (gs.take l.length).getD j default) (gs.take l.length).length) := fun hle => by
      have hgl : (gs.take l.length).length = r + 1 := by rw [List.length_take]; omega
      rw [hgl]
      unfold wayC
      cases hk : legsOk s.far (offG W H f s l) (fun j => (gs.take l.length).getD j default) (r + 1) with
      | false => exact .inl (by rw [if_neg (by decide)]; decide)
      | true =>
        have hin : ∀ j, j < r + 1 → (gs.take l.length).getD j default = pS s.far (numS s.far ((gs.take l.length).getD j default)) ∧ numS s.far ((gs.take l.length).getD j default) < sideN s.far * sideN s.far := fun j hj => by
          have h1 := legs_le hk j hj
          cases j with
          | zero => exact numS_ok h1.1
          | succ j => exact numS_ok h1.1.1
        obtain ⟨c2, u2, w2, e2⟩ := leg_way (t := turn) (q := fun j => numS s.far ((gs.take l.length).getD j default)) hoff r hin hk
        have := m1 _ c2 u2 (tabL_len _ _) w2
        rw [if_pos rfl, e2]
        exact .inr this
    clear m1 e1 w1 hmem hLn hLs
    generalize (tre turn s.far (sideN s.far * sideN s.far) (cstF W H f s l) r b1).1 = v at *
    refine z_tas
    refine lfv rfl rfl rfl (fun w hw => rleast_any W H Af cf f s Al cl l turn w _ rfl ⟨Ro.row hw (Split.nil _) (by refine z_hs)⟩ ⟨hrl.h.go hw (Split.nil _)⟩ (by omega) hfl hfi ⟨⟨a1, a2⟩, ⟨a3, a4⟩, ⟨a5, a6⟩, a7, a8⟩ hf8 hl ⟨l1, l2⟩ ⟨ht0, ht1⟩) ?_
    rw [hLe]
    refine z_tas
    refine lfv rfl rfl rfl (fun w hw => rcost40_n W H Af cf f s Al cl l turn A1 c1 wl l.length hml w ⟨Ro.row hw (Split.nil _) (by refine z_hs)⟩ ⟨hrl.h.go hw (Split.nil _)⟩ ⟨Ro.row hw (Split.nil _) (by refine z_hs)⟩ (by omega) hfl hfi ⟨⟨a1, a2⟩, ⟨a3, a4⟩, ⟨a5, a6⟩, a7, a8⟩ hl (by omega) ⟨ht0, ht1⟩ (Nat.le_refl _)) ?_
    rw [hcost]
    by_cases hle : l.length ≤ gs.length
    · have hg2 := hgiv hle
      obtain ⟨bG, oG, rfl, -⟩ := hrg.at_ (by omega : 0 < gs.length)
      have hcg : gs.length ≤ cg := by obtain ⟨A', c', e1, h1, -⟩ := hrg.h; injection e1 with e1 e2 e3; omega
      generalize hkk : wayC s.far turn (offG W H f s l) (fun j => (gs.take l.length).getD j default) (gs.take l.length).length = kk at *
      refine z_tas
      refine c_dv (0 :: 1 :: 2 :: 3 :: 4 :: 5 :: 6 :: 7 :: 8 :: 9 :: 10 :: []) ?_; intro _
      refine z_gvs
      all_goals rw [show subA (some ⟨bG, oG, none⟩) 0 cg 2 = some ⟨bG, oG, none⟩ from by unfold subA; rw [if_neg (by omega)]; simp [add_none], Nat.sub_zero, Nat.sub_zero]
      all_goals
        refine lfv rfl rfl rfl (fun w hw => rcost40_n W H Af cf f s Al cl l turn (some ⟨bG, oG, none⟩) cg (gs.take l.length) l.length (by rw [List.length_take]; omega) w ⟨Ro.row hw (Split.nil _) (by refine z_hs)⟩ ⟨hrl.h.go hw (Split.nil _)⟩ (by have h0 := (⟨hrg.h.go hw (Split.nil _)⟩ : RoA w (blocks []) (some ⟨bG, oG, none⟩) gs.length cg 2 (flat dE gs)).takeE hle; rwa [show (gs.take l.length).length = l.length by rw [List.length_take]; omega] at h0) (by omega) hfl hfi ⟨⟨a1, a2⟩, ⟨a3, a4⟩, ⟨a5, a6⟩, a7, a8⟩ hl (by omega) ⟨ht0, ht1⟩ (Nat.le_refl _)) ?_
        rw [hkk]
        refine z_gvs
      all_goals first
        | exact j_out1 rfl rfl (.nil _) rfl
        | (exfalso; omega)
    · refine z_tas
      exact j_out1 rfl rfl (.nil _) rfl
end Go.Proofs.YtemmnpgebpffbaaGreat
namespace Go.Proofs.YtemmnpgebpffbaaGreat
open Go.ChangeShapes Go.WideShapes Go.ChangeAt Go.RowKit Go.Deep Go.Joins
set_option maxRecDepth 100000 in
theorem lifted (os : Os) (started : os.Started) (H : Type) (enc : TypeId × Value → H) :
    ReturnsInHanded {} Tryz.checked os 4 .any (Rows.driftLeastSpec.pre6 enc Tryz.prog Tryz.f4 Rows.driftLeastRow.domain false) (Rows.driftLeastSpec.post enc Tryz.prog Tryz.f4 false true false false) := by
  refine returnsInHanded_of_change (C := Tryz.checked) own started (by kernel_rfl) Tryz.func4
    (ChangeSpec.witness6 (enc := enc) (C := Tryz.checked) false ⟨#[], #[.int .u8 0, .int .u8 0, .slice none 0 0, .agg #[.int .i64 0, .int .i64 0, .int .i64 0, .int .i64 0], .slice none 0 0, .int .i64 0, .slice none 0 0], []⟩ 8 (by kernel_rfl) (by kernel_rfl) (by kernel_rfl) (by kernel_rfl)) ?_
  intro W base args ds gs before hval0 hW hcnd _
  have hval : ∀ (j : Nat) t v, Tryz.f4.params[j]? = some t → args[j]? = some v → Value.okWide Tryz.prog W .any base t v := hval0
  have hW' := hW
  obtain ⟨p, q, hA0, hV, rfl, hfz, hnd⟩ := hW
  have hA : DataW.TrodAll enc Tryz.prog W 0 (fun _ => true) true Tryz.f4.params.toList args.toList ds p := hA0
  rw [Tryz.params4] at hA hval
  obtain ⟨v0, v1, v2, v3, v4, v5, v6, d0, d1, d2, d3, d4, d5, d6, p0, p1, p2, p3, p4, p5, p6, rfl, rfl, rfl, h0, h1, h2, h3, h4, h5, h6⟩ := trodAll_seven hA
  clear hA0 hval0
  obtain ⟨w, rfl, r0⟩ := gate_int Tryz.underlying5 (hval 0 _ _ rfl rfl) h0
  obtain ⟨h, rfl, r1⟩ := gate_int Tryz.underlying5 (hval 1 _ _ rfl rfl) h1
  obtain ⟨A2, c2, z, rfl, q2, r2⟩ := gate_ints Tryz.underlying22 Tryz.underlying92 (by kernel_rfl) (hval 2 _ _ rfl rfl) h2
  obtain ⟨_, rfl, sx, _, rfl, rx3, sy, _, rfl, ry3, sf, _, rfl, rf3, ss, _, rfl, rs3, rfl⟩ := gate_row Tryz.underlying26 cells_sch (hval 3 _ _ rfl rfl) h3
  obtain ⟨A4, c4, l, rfl, q4, r4⟩ := gate_rows (en := smpE) Tryz.underlying27 cells_smp rfl un_smp (hval 4 _ _ rfl rfl) h4
  obtain ⟨turn, rfl, r5⟩ := gate_int Tryz.underlying2 (hval 5 _ _ rfl rfl) h5
  obtain ⟨A6, c6, given, rfl, q6, r6⟩ := gate_rows (en := dE) Tryz.underlying48 cells_dstep rfl un_dstep (hval 6 _ _ rfl rfl) h6
  refine (below_of (least_law w r0 h r1 A2 c2 z q2 r2 ⟨sx, sy, sf, ss⟩ rx3 ry3 rf3 rs3 A4 c4 l q4 r4 turn r5 A6 c6 given q6 r6 (w := W))).mono fun e W' ⟨he, hb⟩ => ?_
  subst he
  exact ⟨_, rfl, gate_post (tb := 4) laidOut Tryz.underlying4 hW' rfl rfl (fun es h => by
    have h' : es.length = 7 := h
    match es, h' with
    | [_, _, _, _, _, _, _], _ => rfl) (of_decide_eq_true (by kernel_rfl)) hb⟩
theorem holds : Rows.DriftLeastSaid :=
  OpenClaim.holds_of_wide 4 Tryz.f4 rfl rfl rfl rfl rfl rfl rfl ⟨rfl, rfl, rfl, rfl, rfl⟩ rfl rfl rfl rfl rfl (by kernel_rfl) Tryz.func4 (by kernel_rfl)
    (of_decide_eq_true (by kernel_rfl)) (by unfold Func.isWrapper; first | (rw [if_pos (by decide +kernel)]; kernel_rfl) | (rw [if_neg (by decide +kernel)]; exact ⟨rfl, rfl⟩))
    (fun os started H enc _ => lifted os started H enc)

#print axioms holds
end Go.Proofs.YtemmnpgebpffbaaGreat
