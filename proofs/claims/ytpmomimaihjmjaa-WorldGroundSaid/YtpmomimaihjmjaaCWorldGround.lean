/- WHAT IS TOLD IS THE GROUND: for every map, every place, every height, every fault of the barometer and all legs the law WorldGround of the given program returns true, and leaves its arguments as they were. No condition. No condition. -/
import Derived.Carry
import Derived.Test.YtpmomimaihjmjaaMB16
set_option linter.unusedVariables false
set_option linter.unusedSimpArgs false
/- Layer 45's statements: the walk of WorldGround. -/
namespace Go.Proofs.Ytpmomimaihjmjaa
open Go.RowKit
theorem goF_okD {W H : Nat} {f : List Int} {v : Wv} {b dx dy up ms : Int} (h : v.ok b) : (goF W H f v dx dy up ms).1.ok (b + 3) := by
  unfold goF
  split
  · rename_i hc
    exact loV_ok (goV_ok h hc) _ _ 3
  · exact ⟨h.x, h.y, h.high, h.off, h.dx, h.dy, h.time, by have := h.told; show 0 ≤ v.told ∧ v.told ≤ b + 3; omega⟩
attribute [local irreducible] OJ J HdJ Code.wpIn wpListIn Oper.wpIn bodyPost CallsIn Does
set_option maxRecDepth 4000
set_option maxHeartbeats 64000000 in
theorem ground_law (a : Int) (ha : InR .u8 a) (b : Int) (hb : InR .u8 b) (A : Option Addr) (c : Nat) (z : List Int) {w : World} (hr : RoA w (blocks []) A z.length c 1 (ints .i16 z)) (hz : ∀ x ∈ z, InR .i16 x) (px : Int) (hpx : InR .i64 px) (py : Int) (hpy : InR .i64 py) (high : Int) (hhigh : InR .i64 high) (off : Int) (hoff : InR .i64 off) (Al : Option Addr) (cl : Nat) (l : List Leg45) (hrl : RoA w (blocks []) Al l.length cl 4 (flat legE l)) (hl : ∀ p ∈ l, p.ok) :
    Does Try.prog 13 [.int .u8 a, .int .u8 b, .slice A z.length c, .agg #[.int .i64 px, .int .i64 py], .int .i64 high, .int .i64 off, .slice Al l.length cl] [] w (fun v _ => v = .bool true) := by
  have ha1 : 0 ≤ a ∧ a ≤ 255 := ha
  have hb1 : 0 ≤ b ∧ b ≤ 255 := hb
  obtain ⟨W, hW, hW1⟩ : ∃ x : Nat, 2 + a % 39 = (x : Int) ∧ 2 ≤ x ∧ x ≤ 40 := ⟨(2 + a % 39).toNat, by omega, by omega⟩
  obtain ⟨H, hH, hH1⟩ : ∃ x : Nat, 2 + b % 39 = (x : Int) ∧ 2 ≤ x ∧ x ≤ 40 := ⟨(2 + b % 39).toNat, by omega, by omega⟩
  have iW : CV Try.prog 28 [] (.bool true) True := ⟨fun _ w => works45 w⟩
  refine does_of Try.func13 rfl Try.ntmps13 rfl ⟨by simp, .nil⟩ (fun n => ?_)
  simp only [slots]
  refine z_tas
  · exact j_out1 rfl rfl (.nil _) rfl
  · exact j_out1 rfl rfl (.nil _) rfl
  refine lf rfl rfl rfl (S := []) (fun w hw ho => made_any a b ha hb W H hW hH A c z 30 (by decide) 0 0 w ⟨hr.h.go hw (Split.nil _)⟩ (by omega)) ?_
  rintro v S' ⟨Af, cf, rfl, rfl⟩
  have hfl := fieldF_len z (W * H)
  have hfi := field_in16 hz (W * H)
  generalize fieldF z (W * H) = f at *
  rw [show (1 + 30 % 1000 : Int) = ((31 : Nat) : Int) by decide]
  have hcb : 2 ≤ W ∧ W ≤ 256 ∧ 2 ≤ H ∧ H ≤ 256 ∧ 1 ≤ 31 ∧ 31 ≤ 1000 := by omega
  have hF := caF_of (ox := 0) (oy := 0) hcb hfl hfi (by omega : 1 ≤ 8 ∧ 8 ≤ 32)
  have hget := chart_get (ox := 0) (oy := 0) hcb hfl hfi
  obtain ⟨-, h2, h3, -, -, -⟩ := chart_hdr (ox := 0) (oy := 0) (z := f) (W := W) (H := H) (cell := 31) (by omega)
  have hby := fun A c w hr => bytes27_c W H 31 A c f 0 0 w hr hcb hfl hfi (by decide) (by decide)
  generalize chartB W H 31 0 0 f = bb at *
  refine z_tas
  refine lf rfl rfl rfl (S := []) (fun w hw ho => hby Af cf w ⟨Ro.row hw (Split.nil _) (by refine z_hs)⟩) ?_
  rintro v S' ⟨Ab, cb, rfl, rfl⟩
  refine z_tas
  refine lf rfl rfl rfl (S := []) (fun w hw ho => wnew_c Ab cb bb px py high off w ⟨Ro.row hw (Split.nil _) (by refine z_hs)⟩ hF.u8 hF.len) ?_
  rintro v S' (⟨code, hne, rfl, rfl, h⟩ | ⟨-, hck, rfl, rfl⟩ | ⟨-, hck, K, b, t, hys, hrm, rfl, rfl⟩)
  · exact absurd (h.one hget) hne
  · rcases wchk_nn px py high off with e | e | e
    · exact absurd e hck
    · rw [e]
      refine z_tas
      exact j_out1 rfl rfl (.nil _) rfl
    · rw [e]
      refine z_tas
      exact j_out1 rfl rfl (.nil _) rfl
  rw [← hys] at h2 h3
  rw [← hys, ← hrm] at hF
  have k0 : CaOk K.ys f K.room (newV 8) 0 := by rw [hrm]; exact newV_ok (by omega)
  have hv0 := wchk_ok hck
  refine z_tas
  rename_i b18
  refine c_loop (X := Nat × CaV × Wv × Ln) (fun q => q.1 ≤ l.length ∧ CaOk K.ys f K.room q.2.1 (16 * (q.1 : Int)) ∧ q.2.2.1.ok (3 * (q.1 : Int)) ∧ q.2.2.1.time ≤ 60000 * (q.1 : Int) ∧ q.2.2.1.off = off ∧ LnI q.2.2.2 q.2.2.1.told q.2.2.1.time) (fun q => [(5, .int .i64 off), (6, .slice Al l.length cl), (16, .pointer (some ⟨b, 0, none⟩)), (18, .pointer (some ⟨b18, 0, none⟩)), (20, .int .i64 q.1)])
    (fun q => K.HC q.2.1 [.blk b 156 (worldE K.g q.2.2.1 t), .row (.slice (some ⟨t, 0, none⟩) 3 3) 159 2 3 (flat (tlE b) toolL), .blk b18 119 (lnE q.2.2.2)]) (fun q => l.length - q.1) (0, newV 8, wV0 px py high off, Ln.new 0 1048576 0 1048576) ⟨by omega, by simpa using k0, by simpa using hv0, by show (0 : Int) ≤ 60000 * ((0 : Nat) : Int); decide, rfl, new_I⟩ ⟨rfl, rfl, rfl, rfl, rfl, trivial⟩ Sub.au ?_
  rintro ⟨i, s, v, ln⟩ ⟨hi, hs, hv, htm, hvo, hln⟩
  dsimp only at hi hs hv htm hvo hln ⊢
  have htl := hv.told
  rcases Nat.lt_or_ge i l.length with h | h
  · obtain ⟨bL, oL, rfl, hL⟩ := hrl.at_ (by omega : 0 < l.length)
    have hlg : (l.getD i default).ok := hl _ (by rw [List.getD, List.getElem?_eq_getElem h]; exact List.getElem_mem h)
    have hms1 : 0 ≤ (l.getD i default).ms ∧ (l.getD i default).ms ≤ 4294967295 := hlg.2.2.2
    refine z_tas
    refine c_dvL [] (0 :: 1 :: 2 :: 3 :: 4 :: 5 :: 6 :: 7 :: 8 :: 9 :: 10 :: 11 :: 12 :: 13 :: 14 :: 15 :: 16 :: 17 :: 18 :: 19 :: 20 :: 21 :: 22 :: 23 :: 24 :: 25 :: 26 :: []) (.nil _) ?_; intro _
    refine z_govG
    refine lf rfl rfl rfl (S := K.W s b t v) (fun w hw ho => go_c K s f b t v (16 * (i : Int)) (3 * (i : Int)) hv (by omega) (l.getD i default).dx (l.getD i default).dy (l.getD i default).up (l.getD i default).ms hlg.1 hlg.2.1 hlg.2.2.1 hlg.2.2.2 w ho hF hs (by omega)) ?_
    rintro r S' ⟨s1, Aa, ca, rfl, k1, rfl⟩
    rw [h2, h3]
    have hgo := goF_okD (W := W) (H := H) (f := f) (dx := (l.getD i default).dx) (dy := (l.getD i default).dy) (up := (l.getD i default).up) (ms := (l.getD i default).ms) hv
    obtain ⟨f1, f2, f3, f4, f5, f6⟩ := go_facts (W := W) (H := H) (f := f) (dx := (l.getD i default).dx) (dy := (l.getD i default).dy) (up := (l.getD i default).up) hv (by omega) (by omega) hms1.1
    generalize goF W H f v (l.getD i default).dx (l.getD i default).dy (l.getD i default).up (l.getD i default).ms = g at *
    have hzz := heightT_in hfi (W := W) (H := H) g.1.x g.1.y
    have hg0 : heightT W H f g.1.x g.1.y = heightT W H f g.1.x g.1.y := rfl
    generalize hzq : heightT W H f g.1.x g.1.y = zz at *
    generalize heq : codeF W H f g.1.x g.1.y = e0 at *
    have hof := hgo.off
    rw [f2, hvo] at hof
    refine z_govG
    refine c_loop (X := Nat × CaV × Ln) (fun q => q.1 ≤ g.2.1.length ∧ CaOk K.ys f K.room q.2.1 (16 * (i : Int) + 4 + 4 * (q.1 : Int)) ∧ LnI q.2.2 (v.told + q.1) g.1.time ∧ (q.1 = 2 → q.2.2.has = true ∧ q.2.2.high = g.1.high + g.1.off ∧ q.2.2.since = g.1.time)) (fun q => [(5, .int .i64 off), (6, .slice (some ⟨bL, oL, none⟩) l.length cl), (16, .pointer (some ⟨b, 0, none⟩)), (18, .pointer (some ⟨b18, 0, none⟩)), (20, .int .i64 i), (21, .slice Aa g.2.1.length ca), (23, .int .i64 q.1)])
      (fun q => .row (.slice Aa g.2.1.length ca) 83 6 g.2.1.length (flat frmE g.2.1) :: K.HC q.2.1 [.blk b 156 (worldE K.g g.1 t), .row (.slice (some ⟨t, 0, none⟩) 3 3) 159 2 3 (flat (tlE b) toolL), .blk b18 119 (lnE q.2.2)]) (fun q => g.2.1.length - q.1) (0, s1, ln) ⟨Nat.zero_le _, by simpa using k1, by simpa using hln.time f3, fun q => absurd (show (0 : Nat) = 2 from q) (by decide)⟩ ⟨rfl, rfl, rfl, rfl, rfl, rfl, rfl, trivial⟩ Sub.au ?_
    rintro ⟨k, s2, ln2⟩ ⟨hk, hs2, hI, hhs⟩
    dsimp only at hk hs2 hI hhs ⊢
    rcases Nat.lt_or_ge k g.2.1.length with h' | h'
    · have hfr := f6 k h'
      obtain ⟨t1, t2, t3, t4⟩ := take_fr hI (by omega) (by omega) hhs hfr
      refine j_opn (A := Aa) (m := g.2.1.length) (cc := ca) (by omega) (fun ga hga => ?_)
      subst hga
      refine z_tas
      refine lf rfl rfl rfl (S := [.blk b18 119 (lnE ln2)]) (fun w hw ho => takeE b18 ln2 (g.2.1.getD k default) w ho hI.ok hfr.a) ?_
      rintro r S' ⟨rfl, rfl⟩
      rw [t1]
      generalize (ln2.take (g.2.1.getD k default).kind (g.2.1.getD k default).seq (g.2.1.getD k default).time (g.2.1.getD k default).a) = tr at *
      rcases hkd : (g.2.1.getD k default).kind == 2 with _ | _
      · have iE : ∀ (w0 : World) (W : Nat → Prop) (H : List HE) (t u : TypeId) (x y : Operand), MS Try.prog w0 W H (.binOp .eql t x y u) [.int .i64 (g.2.1.getD k default).kind, .int .i64 2] (.bool false) True := fun w0 W H t u x y => by rw [← hkd]; infer_instance
        refine z_tas
        refine lf rfl rfl rfl (S := K.W s2 b t g.1) (fun w hw ho => ground_c K s2 f b t g.1 (16 * (i : Int) + 4 + 4 * (k : Int)) w ho hF hs2 (by omega)) ?_
        rintro r S' ⟨s3, rfl, k3, rfl⟩
        rw [h2, h3, hzq, heq]
        refine z_tas
        exact c_round (k + 1, s3, tr.1) ⟨h', by rw [show 16 * (i : Int) + 4 + 4 * ((k + 1 : Nat) : Int) = 16 * (i : Int) + 4 + 4 * (k : Int) + 4 by omega]; exact k3, t3, t4⟩ (by show _ - (k + 1) < _ - k; omega) ⟨rfl, rfl, rfl, rfl, rfl, rfl, by simp [look], trivial⟩ Sub.au
      · have iE : ∀ (w0 : World) (W : Nat → Prop) (H : List HE) (t u : TypeId) (x y : Operand), MS Try.prog w0 W H (.binOp .eql t x y u) [.int .i64 (g.2.1.getD k default).kind, .int .i64 2] (.bool true) True := fun w0 W H t u x y => by rw [← hkd]; infer_instance
        obtain ⟨e1, e2⟩ := t2 (by simpa using hkd)
        have e2' : tr.2.2.1 = zz + off := by rw [e2, f2, hvo]
        rw [e2']
        refine z_tas
        refine lf rfl rfl rfl (S := K.W s2 b t g.1) (fun w hw ho => ground_c K s2 f b t g.1 (16 * (i : Int) + 4 + 4 * (k : Int)) w ho hF hs2 (by omega)) ?_
        rintro r S' ⟨s3, rfl, k3, rfl⟩
        rw [h2, h3, hzq, heq, e1]
        refine z_tas
        exact c_round (k + 1, s3, tr.1) ⟨h', by rw [show 16 * (i : Int) + 4 + 4 * ((k + 1 : Nat) : Int) = 16 * (i : Int) + 4 + 4 * (k : Int) + 4 by omega]; exact k3, t3, t4⟩ (by show _ - (k + 1) < _ - k; omega) ⟨rfl, rfl, rfl, rfl, rfl, rfl, by simp [look], trivial⟩ Sub.au
    · obtain rfl : k = g.2.1.length := by omega
      refine z_tas
      exact c_round (i + 1, s2, g.1, ln2) ⟨h, hs2.mono (by omega), by rw [show 3 * ((i + 1 : Nat) : Int) = 3 * (i : Int) + 3 by omega]; exact hgo, by show g.1.time ≤ _; omega, by show g.1.off = off; rw [f2, hvo], by show LnI ln2 g.1.told g.1.time; rw [f1]; exact hI⟩ (by show l.length - (i + 1) < l.length - i; omega) ⟨rfl, rfl, rfl, rfl, by simp [look], trivial⟩ Sub.au
  · obtain rfl : i = l.length := by omega
    refine z_tas
    exact j_out1 rfl rfl (.nil _) rfl
end Go.Proofs.Ytpmomimaihjmjaa
namespace Go.Proofs.Ytpmomimaihjmjaa
open Go.ChangeShapes Go.WideShapes Go.ChangeAt Go.RowKit Go.Deep Go.Joins
set_option maxRecDepth 100000 in
theorem lifted (os : Os) (started : os.Started) (H : Type) (enc : TypeId × Value → H) :
    ReturnsInHanded {} Try.checked os 13 .any (Rows.worldGroundSpec.pre6 enc Try.prog Try.f13 Rows.worldGroundRow.domain false) (Rows.worldGroundSpec.post enc Try.prog Try.f13 false true false false) := by
  refine returnsInHanded_of_change (C := Try.checked) own started (by kernel_rfl) Try.func13
    (ChangeSpec.witness6 (enc := enc) (C := Try.checked) false ⟨#[], #[.int .u8 0, .int .u8 0, .slice none 0 0, .agg #[.int .i64 0, .int .i64 0], .int .i64 0, .int .i64 0, .slice none 0 0], []⟩ 8 (by kernel_rfl) (by kernel_rfl) (by kernel_rfl) (by kernel_rfl)) ?_
  intro W base args ds gs before hval0 hW hcnd _
  have hval : ∀ (j : Nat) t v, Try.f13.params[j]? = some t → args[j]? = some v → Value.okWide Try.prog W .any base t v := hval0
  have hW' := hW
  obtain ⟨p, q, hA0, hV, rfl, hfz, hnd⟩ := hW
  have hA : DataW.TrodAll enc Try.prog W 0 (fun _ => true) true Try.f13.params.toList args.toList ds p := hA0
  rw [Try.params13] at hA hval
  obtain ⟨v0, v1, v2, v3, v4, v5, v6, d0, d1, d2, d3, d4, d5, d6, p0, p1, p2, p3, p4, p5, p6, rfl, rfl, rfl, h0, h1, h2, h3, h4, h5, h6⟩ := trodAll_seven hA
  clear hA0 hval0
  obtain ⟨a, rfl, r0⟩ := gate_int Try.underlying5 (hval 0 _ _ rfl rfl) h0
  obtain ⟨b, rfl, r1⟩ := gate_int Try.underlying5 (hval 1 _ _ rfl rfl) h1
  obtain ⟨A2, c2, z, rfl, q2, r2⟩ := gate_ints Try.underlying22 Try.underlying34 (by kernel_rfl) (hval 2 _ _ rfl rfl) h2
  obtain ⟨_, rfl, atx, _, rfl, rx3, aty, _, rfl, ry3, rfl⟩ := gate_row Try.underlying61 cells_spot (hval 3 _ _ rfl rfl) h3
  obtain ⟨high, rfl, r4⟩ := gate_int Try.underlying2 (hval 4 _ _ rfl rfl) h4
  obtain ⟨off, rfl, r5⟩ := gate_int Try.underlying2 (hval 5 _ _ rfl rfl) h5
  obtain ⟨A6, c6, l, rfl, q6, r6⟩ := gate_rows (en := legE) Try.underlying62 cells_leg rfl un_leg (hval 6 _ _ rfl rfl) h6
  refine (below_of (ground_law a r0 b r1 A2 c2 z q2 r2 atx rx3 aty ry3 high r4 off r5 A6 c6 l q6 r6 (w := W))).mono fun e W' ⟨he, hb⟩ => ?_
  subst he
  exact ⟨_, rfl, gate_post (tb := 4) laidOut Try.underlying4 hW' rfl rfl (fun es h => by
    have h' : es.length = 7 := h
    match es, h' with
    | [_, _, _, _, _, _, _], _ => rfl) (of_decide_eq_true (by kernel_rfl)) hb⟩
theorem holds : Rows.WorldGroundSaid :=
  OpenClaim.holds_of_wide 13 Try.f13 rfl rfl rfl rfl rfl rfl rfl ⟨rfl, rfl, rfl, rfl, rfl⟩ rfl rfl rfl rfl rfl (by kernel_rfl) Try.func13 (by kernel_rfl)
    (of_decide_eq_true (by kernel_rfl)) (by unfold Func.isWrapper; first | (rw [if_pos (by decide +kernel)]; kernel_rfl) | (rw [if_neg (by decide +kernel)]; exact ⟨rfl, rfl⟩))
    (fun os started H enc _ => lifted os started H enc)

#print axioms holds
end Go.Proofs.Ytpmomimaihjmjaa
