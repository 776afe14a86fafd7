/- WHICH TILES ARE AT HAND: for every map, every room and whatever is asked the law CacheKeeps of the given program returns true, and leaves its arguments as they were. No condition. -/
import Derived.Carry
import Derived.Test.YtpmomimaihjmjaaMA09
set_option linter.unusedVariables false
set_option linter.unusedSimpArgs false
/- Layer 10's statements: the walk of CacheKeeps. -/
namespace Go.Proofs.Ytpmomimaihjmjaa
open Go.RowKit
attribute [local irreducible] OJ J HdJ Code.wpIn wpListIn Oper.wpIn bodyPost CallsIn Does
set_option maxRecDepth 4000
set_option maxHeartbeats 64000000 in
theorem cachekeeps_law (a : Int) (ha : InR .u8 a) (b : Int) (hb : InR .u8 b) (nn : Int) (hn : InR .u8 nn) (Al : Option Addr) (cl : Nat) (l : List (Int × Int)) {w : World} (hrl : RoA w (blocks []) Al l.length cl 2 (flat spotE l)) (hl : ∀ p ∈ l, InR .i64 p.1 ∧ InR .i64 p.2) :
    Does Try.prog 4 [.int .u8 a, .int .u8 b, .int .u8 nn, .slice Al l.length cl] [] w (fun v _ => v = .bool true) := by
  have ha1 : 0 ≤ a ∧ a ≤ 255 := ha
  have hb1 : 0 ≤ b ∧ b ≤ 255 := hb
  have hn1 : 0 ≤ nn ∧ nn ≤ 255 := hn
  obtain ⟨W, hW, hW1⟩ : ∃ x : Nat, 2 + a % 39 = (x : Int) ∧ 2 ≤ x ∧ x ≤ 40 := ⟨(2 + a % 39).toNat, by omega, by omega⟩
  obtain ⟨H, hH, hH1⟩ : ∃ x : Nat, 2 + b % 39 = (x : Int) ∧ 2 ≤ x ∧ x ≤ 40 := ⟨(2 + b % 39).toNat, by omega, by omega⟩
  obtain ⟨R, hR, hR1⟩ : ∃ x : Nat, 4 + nn % 29 = (x : Int) ∧ 4 ≤ x ∧ x ≤ 32 := ⟨(4 + nn % 29).toNat, by omega, by omega⟩
  have iW : CV Try.prog 14 [] (.bool true) True := ⟨fun _ w => works_any10 w⟩
  refine does_of Try.func4 rfl Try.ntmps4 rfl ⟨by simp, .nil⟩ (fun n => ?_)
  simp only [slots]
  refine z_tas
  · exact j_out1 rfl rfl (.nil _) rfl
  rename_i b25
  refine lf rfl rfl rfl (S := []) (fun w hw ho => made_any a b ha hb W H hW hH (some ⟨b25, 0, none⟩) 2 [1, 2] 1 (by decide) 0 0 w ⟨Ro.row hw (Split.nil _) (.here _ _)⟩ (by decide)) ?_
  rintro v S' ⟨Af, cf, rfl, rfl⟩
  have hfl := fieldF_len [1, 2] (W * H)
  have hfi := field_in16 (z := [1, 2]) (fun x hx => by have h : ∀ y ∈ ([1, 2] : List Int), InR .i16 y := by decide
                                                       exact h x hx) (W * H)
  generalize fieldF [1, 2] (W * H) = f at *
  rw [show (1 + 1 % 1000 : Int) = ((2 : Nat) : Int) by decide]
  have hcb : 2 ≤ W ∧ W ≤ 256 ∧ 2 ≤ H ∧ H ≤ 256 ∧ 1 ≤ 2 ∧ 2 ≤ 1000 := by omega
  have hF := caF_of (ox := 0) (oy := 0) hcb hfl hfi (by omega : 1 ≤ R ∧ R ≤ 32)
  obtain ⟨-, h2, h3, -, -, -⟩ := chart_hdr (ox := 0) (oy := 0) (z := f) (W := W) (H := H) (cell := 2) (by omega)
  refine z_tas
  rename_i b9
  refine c_dv (0 :: 1 :: 2 :: 3 :: 4 :: []) ?_; intro _
  refine z_govG
  refine lfv rfl rfl rfl (fun w _ => room_any nn hn w) ?_
  rw [hR]
  refine z_govG
  refine lf rfl rfl rfl (S := []) (fun w hw ho => open10 W H 2 Af cf f 0 0 R w ⟨Ro.row hw (Split.nil _) (by refine z_hs)⟩ hcb hfl hfi (by decide) (by decide) hR1) ?_
  rintro v S' ⟨K, hys, rfl, rfl, rfl⟩
  rw [← hys] at hF h2 h3
  refine z_govG
  refine lfv rfl rfl rfl (fun w _ => room_any nn hn w) ?_
  rw [hR]
  refine z_tas
  rename_i b11
  refine j_nil (e := 3) (size := 1) ?_
  refine c_loop (X := Nat × CaV × List Nat × (Option Addr × Nat)) (fun q => q.1 ≤ l.length ∧ CaOk K.ys f K.room q.2.1 q.1 ∧ Rel K.room q.2.1.l q.2.1.clock q.2.2.1) (fun q => [(3, .slice Al l.length cl), (9, .pointer (some ⟨b9, 0, none⟩)), (10, .pointer (some ⟨K.g, 0, none⟩)), (11, .pointer (some ⟨b11, 0, none⟩)), (12, .int .i64 q.1)])
    (fun q => K.HC q.2.1 [.blk b9 28 [.int .i64 W, .int .i64 H, .slice Af f.length cf, .int .i64 (2 : Nat), .int .i32 0, .int .i32 0], .row (.slice Af f.length cf) 34 1 f.length (ints .i16 f), .blk b11 44 [.int .i64 K.room, .slice q.2.2.2.1 (q.2.2.1.map (tS q.2.1.l)).length q.2.2.2.2, .int .i64 q.2.1.met, .int .i64 q.2.1.miss], .row (.slice q.2.2.2.1 (q.2.2.1.map (tS q.2.1.l)).length q.2.2.2.2) 3 1 (q.2.2.1.map (tS q.2.1.l)).length (ints .i64 (q.2.2.1.map (tS q.2.1.l)))]) (fun q => l.length - q.1) (0, newV K.room, [], (none, 0)) ⟨by omega, newV_ok (by omega), Rel.zero (by omega)⟩ ⟨rfl, rfl, rfl, rfl, rfl, trivial⟩ (by show Sub (K.HC (newV K.room) (.blk _ _ _ :: .row _ _ _ _ _ :: .blk b11 _ [.int .i64 K.room, .slice none 0 0, .int .i64 0, .int .i64 0] :: .row (.slice none 0 0) 3 1 0 [] :: [])) _; exact Sub.au) ?_
  rintro ⟨i, s, ks, A1, c1⟩ ⟨hi, hs, hR1⟩
  dsimp only at hi hs hR1 ⊢
  rcases Nat.lt_or_ge i l.length with h | h
  · obtain ⟨bL, oL, rfl, hL⟩ := hrl.at_ (by omega : 0 < l.length)
    refine z_tas
    refine c_dvL [] (0 :: 1 :: 2 :: 3 :: 4 :: 5 :: 6 :: 7 :: 8 :: 9 :: 10 :: 11 :: []) (.nil _) ?_; intro _
    refine z_govG
    refine lf rfl rfl rfl (S := K.H s) (fun w hw ho => height_c K s f (l.getD i default).1 (l.getD i default).2 i w ho hF hs (by omega)) ?_
    rintro v S' ⟨s', rfl, g1, rfl⟩
    have k1 := g1.ok hF hs
    refine z_govG
    refine c_dv (0 :: 1 :: 2 :: 3 :: 4 :: 5 :: 6 :: 7 :: 8 :: 9 :: 10 :: 11 :: 12 :: 13 :: 14 :: 15 :: 16 :: 17 :: []) ?_; intro _
    refine z_govG
    refine lfv rfl rfl rfl (fun w hw => rheight_any W H Af cf f (l.getD i default).1 (l.getD i default).2 w ⟨Ro.row hw (Split.nil _) (by refine z_hs)⟩ (by omega) hfl) ?_
    have hrm := hF.room
    have hpg := pigeon K.room ks hR1.nodup fun x hx => (hR1.lt x hx).1
    by_cases ho : (l.getD i default).1 < 0 ∨ (l.getD i default).2 < 0 ∨ (W : Int) ≤ (l.getD i default).1 ∨ (H : Int) ≤ (l.getD i default).2
    case' pos =>
      rw [show heightF W H f (l.getD i default).1 (l.getD i default).2 = (0, 9) from if_pos ho]
      obtain rfl : s' = s := by
        rcases g1 with ⟨-, h⟩ | ⟨h, -⟩
        · exact h
        · rw [h2, h3] at h; exact absurd ho h
      obtain ⟨ks', e1⟩ : ∃ ks', ks' = ks := ⟨_, rfl⟩
      obtain ⟨A', e2⟩ : ∃ A', A' = A1 := ⟨_, rfl⟩
      obtain ⟨c', e3⟩ : ∃ c', c' = c1 := ⟨_, rfl⟩
      subst e1 e2 e3
      have r1 := hR1
      refine z_govG
    case' neg =>
      obtain ⟨ks', r1, e1, m1, i1⟩ := g1.rel hF hs hR1 (by rw [h2, h3]; exact ho)
      obtain ⟨X, hX⟩ : ∃ X : Nat, (l.getD i default).1 = X := ⟨(l.getD i default).1.toNat, by omega⟩
      obtain ⟨Y, hYy⟩ : ∃ Y : Nat, (l.getD i default).2 = Y := ⟨(l.getD i default).2.toNat, by omega⟩
      have h9 : (heightF W H f (l.getD i default).1 (l.getD i default).2).2 ≠ 9 := by
        unfold heightF
        rw [if_neg ho]
        split
        · decide
        · exact (by decide : (0 : Int) ≠ 9)
      generalize heightF W H f (l.getD i default).1 (l.getD i default).2 = hh at *
      rw [hX, hYy, h2, Int.toNat_natCast, Int.toNat_natCast] at e1 m1 i1
      refine z_govG
      refine c_dp [] 15 (0 :: 1 :: 2 :: 3 :: 4 :: 5 :: 6 :: 7 :: 8 :: 9 :: 10 :: 11 :: 12 :: 13 :: 14 :: []) ?_; intro _
      refine z_govG
      rw [hX, hYy]
      refine lfv rfl rfl rfl (fun w _ => rtile_any W H Af cf f.length X Y w (by omega) (by omega)) ?_
      generalize Y / 16 * cntF W + X / 16 = tn at *
      refine z_govG
      refine lf rfl rfl rfl (S := []) (fun w hw ho => ruse_any K.room s.met s.miss tn A1 c1 (ks.map (tS s.l)) w ⟨Ro.row hw (Split.nil _) (by refine z_hs)⟩ (by have := hs.met; have := hs.miss; omega) (by rw [List.length_map]; omega)) ?_
      rintro v S' ⟨A', c', rfl, rfl⟩
      rw [← e1, ← m1, ← i1]
      refine z_govG
    all_goals
      refine lk rfl rfl rfl (S := [.blk K.g 132 (cacheE (preC K.ys K.A K.c K.A1 K.c1 K.A2 K.c2) s'.l K.room s'.clock s'.met s'.miss)]) (fun w hw ho => met_any K.g (preC K.ys K.A K.c K.A1 K.c1 K.A2 K.c2) s'.l K.room s'.clock s'.met s'.miss w ho rfl k1.slts k1.len) ?_
      refine z_tas
      refine lf rfl rfl rfl (S := [.blk K.g 132 (cacheE (preC K.ys K.A K.c K.A1 K.c1 K.A2 K.c2) s'.l K.room s'.clock s'.met s'.miss)]) (fun w hw ho => held_any K.g (preC K.ys K.A K.c K.A1 K.c1 K.A2 K.c2) s'.l K.room s'.clock s'.met s'.miss w ho rfl k1.slts k1.len (by omega) (by have := k1.clock; omega)) ?_
      rintro v S' ⟨Ah, ch, rfl, rfl⟩
      rw [r1.held]
      have hll : (ks'.map (tS s'.l)).length ≤ K.room := by rw [List.length_map]; exact pigeon K.room ks' r1.nodup fun x hx => (r1.lt x hx).1
      refine z_tas
      refine c_loop (X := Nat) (fun j => j ≤ (ks'.map (tS s'.l)).length) (fun j => [(3, .slice (some ⟨bL, oL, none⟩) l.length cl), (9, .pointer (some ⟨b9, 0, none⟩)), (10, .pointer (some ⟨K.g, 0, none⟩)), (11, .pointer (some ⟨b11, 0, none⟩)), (12, .int .i64 i), (17, .slice Ah (ks'.map (tS s'.l)).length ch), (18, .int .i64 j)])
        (fun _ => K.HC s' [.blk b9 28 [.int .i64 W, .int .i64 H, .slice Af f.length cf, .int .i64 (2 : Nat), .int .i32 0, .int .i32 0], .row (.slice Af f.length cf) 34 1 f.length (ints .i16 f), .blk b11 44 [.int .i64 K.room, .slice A' (ks'.map (tS s'.l)).length c', .int .i64 s'.met, .int .i64 s'.miss], .row (.slice A' (ks'.map (tS s'.l)).length c') 3 1 (ks'.map (tS s'.l)).length (ints .i64 (ks'.map (tS s'.l))), .row (.slice Ah (ks'.map (tS s'.l)).length ch) 3 1 (ks'.map (tS s'.l)).length (ints .i64 (ks'.map (tS s'.l)))]) (fun j => (ks'.map (tS s'.l)).length - j) 0 (by omega) ⟨rfl, rfl, rfl, rfl, rfl, rfl, rfl, trivial⟩ Sub.au ?_
      intro j hj
      rcases Nat.lt_or_ge j (ks'.map (tS s'.l)).length with h1 | h1
      case' inl =>
        refine j_opn (A := Ah) (m := (ks'.map (tS s'.l)).length) (cc := ch) (by omega) fun g1 q1 => ?_
        refine j_opn (A := A') (m := (ks'.map (tS s'.l)).length) (cc := c') (by omega) fun g2 q2 => ?_
        subst q1 q2
        refine z_tas
        exact c_round (j + 1) h1 (by show (ks'.map (tS s'.l)).length - (j + 1) < (ks'.map (tS s'.l)).length - j; omega) ⟨rfl, rfl, rfl, rfl, rfl, rfl, by simp [look], trivial⟩ Sub.au
      refine z_tas
      exact c_round (i + 1, s', ks', (A', c')) ⟨h, k1, r1⟩ (by show l.length - (i + 1) < l.length - i; omega) ⟨rfl, rfl, rfl, rfl, by simp [look], trivial⟩ Sub.au
  · obtain rfl : i = l.length := by omega
    refine z_tas
    exact j_out1 rfl rfl (.nil _) rfl
end Go.Proofs.Ytpmomimaihjmjaa
namespace Go.Proofs.Ytpmomimaihjmjaa
open Go.ChangeShapes Go.WideShapes Go.ChangeAt Go.RowKit Go.Deep Go.Joins
set_option maxRecDepth 100000 in
theorem lifted (os : Os) (started : os.Started) (H : Type) (enc : TypeId × Value → H) :
    ReturnsInHanded {} Try.checked os 4 .any (Rows.cacheKeepsSpec.pre6 enc Try.prog Try.f4 Rows.cacheKeepsRow.domain false) (Rows.cacheKeepsSpec.post enc Try.prog Try.f4 false true false false) := by
  refine returnsInHanded_of_change (C := Try.checked) own started (by kernel_rfl) Try.func4
    (ChangeSpec.witness6 (enc := enc) (C := Try.checked) false ⟨#[], #[.int .u8 0, .int .u8 0, .int .u8 0, .slice none 0 0], []⟩ 8 (by kernel_rfl) (by kernel_rfl) (by kernel_rfl) (by kernel_rfl)) ?_
  intro W base args ds gs before hval0 hW hcnd _
  have hval : ∀ (j : Nat) t v, Try.f4.params[j]? = some t → args[j]? = some v → Value.okWide Try.prog W .any base t v := hval0
  have hW' := hW
  obtain ⟨p, q, hA0, hV, rfl, hfz, hnd⟩ := hW
  have hA : DataW.TrodAll enc Try.prog W 0 (fun _ => true) true Try.f4.params.toList args.toList ds p := hA0
  rw [Try.params4] at hA hval
  obtain ⟨v0, v1, v2, v3, d0, d1, d2, d3, p0, p1, p2, p3, rfl, rfl, rfl, h0, h1, h2, h3⟩ := trodAll_four hA
  clear hA0 hval0
  obtain ⟨w, rfl, r0⟩ := gate_int Try.underlying5 (hval 0 _ _ rfl rfl) h0
  obtain ⟨h, rfl, r1⟩ := gate_int Try.underlying5 (hval 1 _ _ rfl rfl) h1
  obtain ⟨n, rfl, r2⟩ := gate_int Try.underlying5 (hval 2 _ _ rfl rfl) h2
  obtain ⟨A3, c3, l, rfl, q3, r3⟩ := gate_rows (en := spotE) Try.underlying23 cells_at rfl un_spot (hval 3 _ _ rfl rfl) h3
  refine (below_of (cachekeeps_law w r0 h r1 n r2 A3 c3 l q3 r3 (w := W))).mono fun e W' ⟨he, hb⟩ => ?_
  subst he
  exact ⟨_, rfl, gate_post (tb := 4) laidOut Try.underlying4 hW' rfl rfl (fun es h => by
    have h' : es.length = 4 := h
    match es, h' with
    | [_, _, _, _], _ => rfl) (of_decide_eq_true (by kernel_rfl)) hb⟩
theorem holds : Rows.CacheKeepsSaid :=
  OpenClaim.holds_of_wide 4 Try.f4 rfl rfl rfl rfl rfl rfl rfl ⟨rfl, rfl, rfl, rfl, rfl⟩ rfl rfl rfl rfl rfl (by kernel_rfl) Try.func4 (by kernel_rfl)
    (of_decide_eq_true (by kernel_rfl)) (by unfold Func.isWrapper; first | (rw [if_pos (by decide +kernel)]; kernel_rfl) | (rw [if_neg (by decide +kernel)]; exact ⟨rfl, rfl⟩))
    (fun os started H enc _ => lifted os started H enc)

#print axioms holds
end Go.Proofs.Ytpmomimaihjmjaa
