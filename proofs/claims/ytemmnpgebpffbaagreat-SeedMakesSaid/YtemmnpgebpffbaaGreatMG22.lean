
import Derived.Test.YtemmnpgebpffbaaGreatMG21
set_option linter.unusedVariables false
set_option linter.unusedSimpArgs false
/- Layer 22: what the statements' own check reckons. -/
namespace Go.Proofs.YtemmnpgebpffbaaGreat
open Go.RowKit
instance (priority := 60) {P : Program} {w0 : World} {W : Nat → Prop} {H : List HE} (x y : Operand) (t e b q m c sz bs j r r' : Nat) (a : Int) (z : Value) (k : IntKind) [hu : Und P t (.slice e)] [hI : Inf P e sz bs z] [ha : LitI a j] [hm : NMul j sz r] [hr : NAdd q r r'] : MS P w0 W H (.indexAddr t x y) [.slice (some ⟨b, q, none⟩) m c, .int k a] (.pointer (some ⟨b, r', none⟩)) (j < m) := by
  have h0 : MS P w0 W H (.indexAddr t x y) [.slice (some ⟨b, q, none⟩) m c, .int k (j : Int)] (.pointer (some ⟨b, r', none⟩)) (j < m) := inferInstance
  rw [ha.h]
  exact h0
instance (b : Nat) : NMul 1 b b := ⟨Nat.one_mul b⟩
/-- The profile's cells, behind the first so many heights. -/
def r22 (a b c : Int) : List Value := [.int .i64 0, .int .i64 0, .int .i64 a, .int .i64 256, .int .i64 0, .int .i64 b, .int .i64 0, .int .i64 256, .int .i64 c]
def R22 : Nat → List Value
  | 0 => r22 0 0 0
  | 1 => r22 32 0 0
  | 2 => r22 32 2160 0
  | _ => r22 32 2160 2800
attribute [local irreducible] OJ J HdJ Code.wpIn wpListIn Oper.wpIn bodyPost CallsIn Does
set_option maxRecDepth 4000
set_option maxHeartbeats 128000000 in
theorem works22 (w : World) : Does Tryz.prog 23 [] [] w (fun v S' => v = .bool true ∧ S' = []) := by
  have hlz : z22.length = 144 := zTo22_len 144
  have hcb : 2 ≤ 12 ∧ 12 ≤ 256 ∧ 2 ≤ 12 ∧ 12 ≤ 256 ∧ 1 ≤ 30 ∧ 30 ≤ 1000 := by omega
  refine does_ofM Tryz.func23 rfl Tryz.ntmps23 rfl ⟨by simp, .nil⟩ (fun n => ?_)
  simp only [slots]
  refine j_nil (e := 92) (size := 1) ?_
  refine z_tas
  rename_i b1
  refine c_joinL (X := Option Addr × Nat) (fun _ => True) (fun q => [(1, .pointer (some ⟨b1, 0, none⟩))]) (fun q => [.blk b1 31 [.int .i64 12, .int .i64 12, .slice q.1 z22.length q.2], .row (.slice q.1 z22.length q.2) 92 1 z22.length (ints .i16 z22)]) ?_ ?_
  · refine c_loop (X := Nat × Option Addr × Nat) (fun q => q.1 ≤ 144) (fun q => [(1, .pointer (some ⟨b1, 0, none⟩)), (2, .int .i64 q.1)])
      (fun q => [.blk b1 31 [.int .i64 12, .int .i64 12, .slice q.2.1 (zTo22 q.1).length q.2.2], .row (.slice q.2.1 (zTo22 q.1).length q.2.2) 92 1 (zTo22 q.1).length (ints .i16 (zTo22 q.1))]) (fun q => 144 - q.1) (0, none, 0) (Nat.zero_le _) ⟨rfl, rfl, trivial⟩ (by simp only [zTo22, ints, List.map_nil, List.length_nil]; exact Sub.au) ?_
    rintro ⟨i, A1, c1⟩ hi
    dsimp only at hi ⊢
    have hwl := zTo22_len i
    rcases Nat.lt_or_ge i 144 with h | h
    · have e : zTo22 (i + 1) = zTo22 i ++ [(i : Int) * (i : Int) % 311] := rfl
      have h1 := mulB 144 144 (a := (i : Int)) (b := (i : Int)) (by omega) (by omega)
      have h2 := Int.mul_nonneg (show 0 ≤ (i : Int) by omega) (show 0 ≤ (i : Int) by omega)
      refine z_tas
      rename_i A2 c2
      refine c_round (i + 1, A2, c2) h (by show 144 - (i + 1) < 144 - i; omega) ⟨rfl, by simp [look], trivial⟩ ?_
      simp only [e]
      exact Sub.au
    · obtain rfl : i = 144 := by omega
      refine z_tas
      exact c_round (A1, c1) trivial trivial ⟨rfl, trivial⟩ (by show Sub [.blk b1 31 [.int .i64 12, .int .i64 12, .slice A1 (zTo22 144).length c1], .row (.slice A1 (zTo22 144).length c1) 92 1 (zTo22 144).length (ints .i16 (zTo22 144))] _; exact Sub.au)
  rintro ⟨Af, cf⟩ -
  dsimp only
  refine z_tas
  refine lf rfl rfl rfl (S := []) (fun w hw ho => open10 12 12 30 Af cf z22 0 0 4 w ⟨Ro.row hw (Split.nil _) (by refine z_hs)⟩ hcb hlz z22_in (by decide) (by decide) (by omega)) ?_
  rintro v S' ⟨K, hys, hrm, rfl, rfl⟩
  have hF : CaF K.ys z22 K.room := by rw [hys, hrm]; exact caF_of hcb hlz z22_in (by omega)
  have hh : wY K.ys = 12 ∧ hY K.ys = 12 := by rw [hys]; decide +kernel
  have k0 : CaOk K.ys z22 K.room (newV 4) 0 := by rw [hrm]; exact newV_ok (by omega)
  have p1 := w22_h1
  have p2 := w22_h2
  have p3 := w22_h3
  have p4 := w22_C
  have p5 := w22_N 9
  have p6 := w22_b
  have g1 := w22_len
  have g2 := w22_pk
  have g3 := w22_pos
  have g4 := w22_sum
  have gd : (mkG 12 12 z22 s22 l22 0 1000).w = 5 ∧ (mkG 12 12 z22 s22 l22 0 1000).h = 5 ∧ (mkG 12 12 z22 s22 l22 0 1000).st = 256 := ⟨rfl, rfl, rfl⟩
  clear hlz
  generalize z22 = f at *
  refine z_tas
  rename_i bl
  refine c_loop (X := Nat × CaV) (fun q => q.1 ≤ 3 ∧ CaOk K.ys f K.room q.2 (4 * (q.1 : Int))) (fun q => [(3, .pointer (some ⟨K.g, 0, none⟩)), (4, .slice (some ⟨bl, 0, none⟩) 3 3), (5, .int .i64 q.1)])
    (fun q => K.HC q.2 [.row (.slice (some ⟨bl, 0, none⟩) 3 3) 73 3 3 (R22 q.1)]) (fun q => 3 - q.1) (0, newV 4) ⟨by decide, k0⟩ ⟨rfl, rfl, rfl, trivial⟩ (by show Sub (K.HC (newV 4) [.row (.slice (some ⟨bl, 0, none⟩) 3 3) 73 3 3 [.int .i64 0, .int .i64 0, .int .i64 0, .int .i64 256, .int .i64 0, .int .i64 0, .int .i64 0, .int .i64 256, .int .i64 0]]) _; exact Sub.au) ?_
  rintro ⟨i, s0⟩ ⟨hi, k0⟩
  dsimp only at hi k0 ⊢
  rcases (show i = 0 ∨ i = 1 ∨ i = 2 ∨ i = 3 by omega) with rfl | rfl | rfl | rfl
  · simp only [R22, r22]
    refine z_tas
    refine c_dvL [] (0 :: 1 :: 2 :: 3 :: 4 :: 5 :: 6 :: 7 :: 8 :: 9 :: 10 :: 11 :: 12 :: 13 :: 14 :: 15 :: 16 :: 17 :: 18 :: 19 :: 20 :: 21 :: 22 :: []) (.nil _) ?_; intro _
    refine z_gvs
    all_goals
      refine lf rfl rfl rfl (S := K.H s0) (fun w hw ho => height_t K s0 f 1536 1280 (4 * ((0 : Nat) : Int)) w ho hF k0 (by omega)) ?_
      rintro v S' ⟨s1, rfl, k1, rfl⟩
      rw [hh.1, hh.2, p1.1, p1.2]
      refine z_gvs
      refine c_round (1, s1) ⟨by show 1 ≤ 3; decide, k1.mono (by show 4 * ((0 : Nat) : Int) + 4 ≤ 4 * ((1 : Nat) : Int); decide)⟩ (by show 3 - 1 < 3 - 0; decide) ⟨rfl, rfl, by simp [look], trivial⟩ ?_
      show Sub (K.HC s1 [.row (.slice (some ⟨bl, 0, none⟩) 3 3) 73 3 3 [.int .i64 0, .int .i64 0, .int .i64 32, .int .i64 256, .int .i64 0, .int .i64 0, .int .i64 0, .int .i64 256, .int .i64 0]]) _
      exact Sub.au
  · simp only [R22, r22]
    refine z_tas
    refine c_dvL [] (0 :: 1 :: 2 :: 3 :: 4 :: 5 :: 6 :: 7 :: 8 :: 9 :: 10 :: 11 :: 12 :: 13 :: 14 :: 15 :: 16 :: 17 :: 18 :: 19 :: 20 :: 21 :: 22 :: []) (.nil _) ?_; intro _
    refine z_gvs
    all_goals
      refine lf rfl rfl rfl (S := K.H s0) (fun w hw ho => height_t K s0 f 1792 1280 (4 * ((1 : Nat) : Int)) w ho hF k0 (by omega)) ?_
      rintro v S' ⟨s1, rfl, k1, rfl⟩
      rw [hh.1, hh.2, p2.1, p2.2]
      refine z_gvs
      refine c_round (2, s1) ⟨by show 2 ≤ 3; decide, k1.mono (by show 4 * ((1 : Nat) : Int) + 4 ≤ 4 * ((2 : Nat) : Int); decide)⟩ (by show 3 - 2 < 3 - 1; decide) ⟨rfl, rfl, by simp [look], trivial⟩ ?_
      show Sub (K.HC s1 [.row (.slice (some ⟨bl, 0, none⟩) 3 3) 73 3 3 [.int .i64 0, .int .i64 0, .int .i64 32, .int .i64 256, .int .i64 0, .int .i64 2160, .int .i64 0, .int .i64 256, .int .i64 0]]) _
      exact Sub.au
  · simp only [R22, r22]
    refine z_tas
    refine c_dvL [] (0 :: 1 :: 2 :: 3 :: 4 :: 5 :: 6 :: 7 :: 8 :: 9 :: 10 :: 11 :: 12 :: 13 :: 14 :: 15 :: 16 :: 17 :: 18 :: 19 :: 20 :: 21 :: 22 :: []) (.nil _) ?_; intro _
    refine z_gvs
    all_goals
      refine lf rfl rfl rfl (S := K.H s0) (fun w hw ho => height_t K s0 f 1536 1536 (4 * ((2 : Nat) : Int)) w ho hF k0 (by omega)) ?_
      rintro v S' ⟨s1, rfl, k1, rfl⟩
      rw [hh.1, hh.2, p3.1, p3.2]
      refine z_gvs
      refine c_round (3, s1) ⟨by show 3 ≤ 3; decide, k1.mono (by show 4 * ((2 : Nat) : Int) + 4 ≤ 4 * ((3 : Nat) : Int); decide)⟩ (by show 3 - 3 < 3 - 2; decide) ⟨rfl, rfl, by simp [look], trivial⟩ ?_
      show Sub (K.HC s1 [.row (.slice (some ⟨bl, 0, none⟩) 3 3) 73 3 3 [.int .i64 0, .int .i64 0, .int .i64 32, .int .i64 256, .int .i64 0, .int .i64 2160, .int .i64 0, .int .i64 256, .int .i64 2800]]) _
      exact Sub.au
  · simp only [R22, r22]
    refine z_tas
    rename_i b6
    refine j_perm (H' := K.HC s0 [.blk b6 26 (schE s22), .row (.slice (some ⟨bl, 0, none⟩) l22.length 3) 73 3 l22.length (flat smpE l22)]) (by show Sub (K.HC s0 [.blk b6 26 [.int .i64 1280, .int .i64 1280, .int .i64 2, .int .i64 256], .row (.slice (some ⟨bl, 0, none⟩) 3 3) 73 3 3 [.int .i64 0, .int .i64 0, .int .i64 32, .int .i64 256, .int .i64 0, .int .i64 2160, .int .i64 0, .int .i64 256, .int .i64 2800]]) _; exact Sub.au) ?_
    refine lf rfl rfl rfl (S := K.H s0) (fun w hw ho => smake_t K s0 f s22 (some ⟨bl, 0, none⟩) 3 l22 0 1000 _ w ho hF k0 (by omega) ⟨Ro.row hw Split.au (by refine z_hs)⟩ (by decide) (by decide)) ?_
    rintro v S' ⟨s1, k1, h1⟩
    rw [hh.1, hh.2, p4] at h1
    rcases h1 with ⟨h1, -⟩ | ⟨-, Ag, cg, rfl, rfl⟩
    · exact absurd rfl h1
    rw [p6]
    generalize mkG 12 12 f s22 l22 0 1000 = G at *
    obtain ⟨e1, e2, e3⟩ := gd
    have iW1 := weight_cv 0 0 1
    rw [show wgtF 0 0 1 = 65536 from by decide] at iW1
    have iW2 := weight_cv 1 3 2
    rw [show wgtF 1 3 2 = 32768 from by decide] at iW2
    have iW3 := weight_cv 1 9 2
    rw [show wgtF 1 9 2 = 0 from by decide] at iW3
    refine z_tas
    refine lf rfl rfl rfl (S := []) (fun w hw ho => flat_any s22 w (by decide)) ?_
    rintro v S' (⟨-, u, rfl, Ae, ce, rfl, rfl⟩ | ⟨h, -⟩)
    rotate_left
    · exact absurd w22_side h
    obtain ⟨v1, v2⟩ := w22_ev
    generalize evS s22 = E at *
    refine z_tas
    refine lf rfl rfl rfl (S := K.H s1) (fun w hw ho => smake_t K s1 f s22 none 0 [] 0 9 _ w ho hF k1 (by omega) ⟨Ro.nil _ _ _⟩ (by decide) (by decide)) ?_
    rintro v S' ⟨s2, k2, h2⟩
    rw [hh.1, hh.2, p5] at h2
    rcases h2 with ⟨-, rfl, rfl⟩ | ⟨h2, -⟩
    rotate_left
    · cases h2
    refine z_tas
    refine lfv rfl rfl rfl (fun w hw => peak_any G Ag cg w ⟨Ro.row hw (Split.nil _) (by refine z_hs)⟩ (by omega)) ?_
    rw [g1, g2]
    refine z_tas
    rw [← g1]
    refine lfv rfl rfl rfl (fun w hw => gcheck_any G Ag cg w ⟨Ro.row hw (Split.nil _) (by refine z_hs)⟩ (by rw [e1, e2, e3]; decide) (by rw [e1, e2, g1]; rfl) g3 (by rw [g1]; exact g4.1) (by rw [g1]; exact g4.2)) ?_
    refine z_tas
    refine j_outMK (Ds := []) (S' := []) (.nil _) ?_
    refine z_rk
    exact ⟨rfl, rfl⟩
end Go.Proofs.YtemmnpgebpffbaaGreat
/- Layer 22's statements: how much a cost is believed; even seeds. -/
namespace Go.Proofs.YtemmnpgebpffbaaGreat
open Go.RowKit
attribute [local irreducible] OJ J HdJ Code.wpIn wpListIn Oper.wpIn bodyPost CallsIn Does
set_option maxRecDepth 4000
set_option maxHeartbeats 64000000 in
theorem weighs_law (best : Int) (hb : InR .i64 best) (a : Int) (ha : InR .i64 a) (b : Int) (hb2 : InR .i64 b) (times : Int) (ht : InR .i64 times) {w : World} :
    Does Tryz.prog 5 [.int .i64 best, .int .i64 a, .int .i64 b, .int .i64 times] [] w (fun v _ => v = .bool true) := by
  have iW : CV Tryz.prog 23 [] (.bool true) True := ⟨fun _ w => works22 w⟩
  have h1 := wgt_in best a times
  have h2 : best ≤ a ∧ a ≤ b → wgtF best b times ≤ wgtF best a times := fun h => wgt_mono h.1 h.2
  have h3 : 0 ≤ best ∧ best ≤ 4611686018427387904 ∧ 1 ≤ times ∧ times ≤ 65536 → wgtF best best times = 65536 := fun h => wgt_best h.1 h.2.1 h.2.2
  have i1 := weight_cv best a times
  have i2 := weight_cv best b times
  have i3 := weight_cv best best times
  have i4 := rweight_cv best a times
  have i5 := rweight_cv best b times
  generalize wgtF best a times = x at *
  generalize wgtF best b times = y at *
  generalize wgtF best best times = z at *
  refine does_of Tryz.func5 rfl Tryz.ntmps5 rfl ⟨by simp, .nil⟩ (fun n => ?_)
  simp only [slots]
  refine z_tas
  all_goals first
    | exact j_out1 rfl rfl (.nil _) rfl
    | (exfalso; omega)
    | (exfalso; have := h2 ⟨by omega, by omega⟩; omega)
    | (exfalso; have := h3 ⟨by omega, by omega, by omega, by omega⟩; omega)
set_option maxHeartbeats 64000000 in
theorem rall_nil (s : Sch) (w : World) : Does Tryz.prog 12 [.agg #[.int .i64 0, .int .i64 0, .slice none 0 0], .agg (schE s).toArray, .slice none 0 0, .int .i64 0] [] w (fun v S' => v = .slice none 0 0 ∧ S' = []) := by
  have hc : chk21 s [] ≠ 0 := by
    unfold chk21
    split
    · decide
    · rw [if_pos (.inl rfl)]; decide
  refine does_of Tryz.func12 rfl Tryz.ntmps12 rfl ⟨by simp, .nil⟩ (fun n => ?_)
  simp only [slots]
  refine z_tas
  refine lfv rfl rfl rfl (fun w hw => rcheck21_any s none 0 [] w ⟨Ro.nil _ _ _⟩ (by decide)) ?_
  generalize chk21 s [] = e at *
  refine z_tas
  exact j_out1 rfl rfl (.nil _) ⟨rfl, rfl⟩
set_option maxHeartbeats 64000000 in
theorem flat_law (s : Sch) (_ : InR .i64 s.x) (_ : InR .i64 s.y) (_ : InR .i64 s.far) (_ : InR .i64 s.step) {w : World} :
    Does Tryz.prog 7 [.agg (schE s).toArray] [] w (fun v _ => v = .bool true) := by
  have iW : CV Tryz.prog 23 [] (.bool true) True := ⟨fun _ w => works22 w⟩
  have iM : ∀ w0 W H t u a b, MS Tryz.prog w0 W H (.binOp .mul t a b u) [.int .i64 s.far, .int .i64 s.step] (.int .i64 (IntKind.i64.wrap (s.far * s.step))) True := fun _ _ _ _ _ _ _ => msW inferInstance trivial rfl
  have iX : ∀ w0 W H t u a b, MS Tryz.prog w0 W H (.binOp .sub t a b u) [.int .i64 s.x, .int .i64 (IntKind.i64.wrap (s.far * s.step))] (.int .i64 (X0 s.x s.far s.step)) True := fun _ _ _ _ _ _ _ => msW inferInstance trivial rfl
  have iY : ∀ w0 W H t u a b, MS Tryz.prog w0 W H (.binOp .sub t a b u) [.int .i64 s.y, .int .i64 (IntKind.i64.wrap (s.far * s.step))] (.int .i64 (X0 s.y s.far s.step)) True := fun _ _ _ _ _ _ _ => msW inferInstance trivial rfl
  refine does_of Tryz.func7 rfl Tryz.ntmps7 rfl ⟨by simp, .nil⟩ (fun n => ?_)
  simp only [slots]
  refine z_tas
  by_cases hb : s.far < 0 ∨ 32 < s.far
  · refine lf rfl rfl rfl (S := []) (fun w hw ho => flat_bad s w hb) ?_
    rintro v S' ⟨rfl, rfl⟩
    refine z_tas
    all_goals first
      | exact j_out1 rfl rfl (.nil _) rfl
      | (exfalso; omega)
  · refine lf rfl rfl rfl (S := []) (fun w hw ho => flat_any s w (by omega)) ?_
    rintro v S' (⟨hok, u, rfl, Ae, ce, rfl, rfl⟩ | ⟨hok, rfl, rfl⟩)
    · have hpl := evS_len (s := s) (by omega)
      obtain ⟨-, q1, q2, q3⟩ := side_le hok
      refine z_tas
      refine lf rfl rfl rfl (S := []) (fun w hw ho => revenS_any s w hok) ?_
      rintro v S' ⟨u, rfl, Ar, cr, rfl, rfl⟩
      have hsm := sameG_refl (evS s)
      generalize evS s = E at *
      refine z_tas
      refine lfv rfl rfl rfl (fun w hw => rsame14_any E E Ae Ar ce cr w ⟨Ro.row hw (Split.nil _) (by refine z_hs)⟩ ⟨Ro.row hw (Split.nil _) (by refine z_hs)⟩ (by omega)) ?_
      rw [hsm]
      refine z_tas
      refine lf rfl rfl rfl (S := []) (fun w hw ho => rall_nil s w) ?_
      rintro v S' ⟨rfl, rfl⟩
      refine z_tas
      exact j_out1 rfl rfl (.nil _) rfl
    · refine z_tas
      refine lf rfl rfl rfl (S := []) (fun w hw ho => reven_bad (2 * s.far + 1) (2 * s.far + 1) (X0 s.x s.far s.step) (X0 s.y s.far s.step) s.step w hok) ?_
      rintro v S' ⟨rfl, rfl⟩
      refine z_tas
      refine lfv rfl rfl rfl (fun w hw => rsame14_any ⟨0, 0, 0, 0, 0, []⟩ ⟨0, 0, 0, 0, 0, []⟩ none none 0 0 w ⟨Ro.nil _ _ _⟩ ⟨Ro.nil _ _ _⟩ (by decide)) ?_
      rw [sameG_refl]
      refine z_tas
      refine lf rfl rfl rfl (S := []) (fun w hw ho => rall_nil s w) ?_
      rintro v S' ⟨rfl, rfl⟩
      refine z_tas
      exact j_out1 rfl rfl (.nil _) rfl
end Go.Proofs.YtemmnpgebpffbaaGreat
/- Layer 22's statements: a made seed; the plain part. -/
namespace Go.Proofs.YtemmnpgebpffbaaGreat
open Go.RowKit
theorem mkC_ok {W H : Nat} {f : List Int} {s : Sch} {l : List Smp} {m times : Int} (h : mkC W H f s l m times = 0) : chk21 s l = 0 ∧ sidesOk (2 * s.far + 1) (2 * s.far + 1) s.step ∧ (allL W H f s l m).length ≠ 0 ∧ wsTo (evS s).p (wtS W H f s l m times) (evS s).p.length ≠ 0 := by
  unfold mkC at h
  split at h
  · rename_i h1; exact absurd h h1
  · rename_i h1
    split at h
    · cases h
    · rename_i h2
      split at h
      · cases h
      · rename_i h3
        split at h
        · cases h
        · rename_i h4
          exact ⟨Classical.not_not.1 h1, Classical.not_not.1 h2, h3, h4⟩
theorem wtTo_none {N : Nat} {far best times : Int} {L : List Stp} (h : ∀ c, wgtF best c times = 0) : ∀ i j, (wtTo N far best times L i).getD j 0 = 0
  | 0, j => by
    rw [wtTo, List.getD_eq_getElem?_getD, List.getElem?_replicate]
    split <;> rfl
  | i + 1, j => by
    have ih := wtTo_none (N := N) (far := far) (L := L) h i j
    rw [wtTo, List.getD_eq_getElem?_getD, List.getElem?_set, h]
    rw [List.getD_eq_getElem?_getD] at ih
    split
    · split <;> rfl
    · exact ih
/-- A made grid is a right one, and nowhere stands more than at the best step. -/
theorem mk_top {W H : Nat} {f : List Int} {s : Sch} {l : List Smp} {m times : Int} (h : mkC W H f s l m times = 0) :
    let G := mkG W H f s l m times
    let b := cbTo (allL W H f s l m) (allL W H f s l m).length
    (0 ≤ s.far ∧ s.far ≤ 31) ∧ (G.w = 2 * s.far + 1 ∧ G.h = 2 * s.far + 1 ∧ G.st = s.step) ∧ sidesOk G.w G.h G.st ∧ (G.p.length : Int) = G.w * G.h ∧ G.p.length ≤ 4096 ∧ Pos30 G.p ∧ (1073741824 - (G.p.length : Int) ≤ sumL G.p G.p.length ∧ sumL G.p G.p.length ≤ 1073741824) ∧
      (-s.far ≤ b.i ∧ b.i ≤ s.far) ∧ (-s.far ≤ b.k ∧ b.k ≤ s.far) ∧ ixS s.far b.i b.k < G.p.length ∧ ((ixS s.far b.i b.k : Nat) : Int) = (b.k + s.far) * G.w + b.i + s.far ∧ ∀ i, i < G.p.length → G.p.getD i 0 ≤ G.p.getD (ixS s.far b.i b.k) 0 := by
  intro G b
  obtain ⟨hc, hok, hn, hz⟩ := mkC_ok h
  obtain ⟨q0, q1, q2, q3⟩ := side_le hok
  obtain ⟨hp, hpc⟩ := evS_pos q0 q2
  have hpl := evS_len (s := s) q0
  have hall := fun i hi => allL_in (W := W) (H := H) (f := f) (s := s) (l := l) (m := m) (i := i) hi
  have hwl : (wtS W H f s l m times).length = (evS s).p.length := by rw [hpl]; exact wtTo_len _
  have hww : Wt (wtS W H f s l m times) := wtTo_in _
  have hz1 := (ws_in hp hww hwl (evS s).p.length (Nat.le_refl _)).1
  obtain ⟨w1, w2, w3⟩ := wgh_ok hp hww hwl (by omega)
  have hGp : G.p = wghL (evS s).p (wtS W H f s l m times) := rfl
  have hGl : G.p.length = (evS s).p.length := by rw [hGp]; unfold wghL; exact tab_len _ _
  have hside : ((sideN s.far : Nat) : Int) = 2 * s.far + 1 := by unfold sideN; omega
  obtain ⟨k, hbk⟩ : ∃ k, bstTo (allL W H f s l m) (allL W H f s l m).length = some k := by
    cases hb : bstTo (allL W H f s l m) (allL W H f s l m).length with
    | none => exact absurd (bstTo_none.1 hb) hn
    | some k => exact ⟨k, rfl⟩
  have hkl := bstTo_lt hbk
  have hcb : b = (allL W H f s l m).getD k default := (cb_bst (fun i hi => (hall i hi).2.2.1.1) (Nat.le_refl _)).2 k hbk
  have hb := hall k hkl
  dsimp only at hb
  rw [← hcb] at hb
  obtain ⟨-, x2, x3⟩ := ixS_ok (far := s.far) (i := b.i) (k := b.k) ⟨hb.2.2.2.1, hb.2.2.2.2⟩
  refine ⟨⟨q0, q1⟩, ⟨rfl, rfl, rfl⟩, hok, ?_, by rw [hGl, hpl]; exact q2, ?_, ?_, hb.2.2.2.1, hb.2.2.2.2, by rw [hGl, hpl]; exact x2, x3, ?_⟩
  · rw [hGl, hpl]
    show ((sideN s.far * sideN s.far : Nat) : Int) = (2 * s.far + 1) * (2 * s.far + 1)
    rw [← hside]
    push_cast
    rfl
  · intro i hi
    rw [hGp]
    exact w1 i (by omega)
  · rw [hGl, hGp]
    exact ⟨w2, w3⟩
  · intro i hi
    rw [hGp]
    unfold wghL
    rw [tab_get _ (by omega), tab_get _ (by rw [hpl]; exact x2)]
    refine wgh_most (c := 1073741824 / ((sideN s.far * sideN s.far : Nat) : Int)) (by omega) (Int.le_of_lt (even_pos ⟨q3, q2⟩).1) hpc (by omega) (by rw [hpl]; exact x2) ?_
    have e1 : (wtS W H f s l m times).getD (ixS s.far b.i b.k) 0 = wgtF b.cost b.cost times := by
      have := wtTo_at (N := sideN s.far * sideN s.far) (far := s.far) (best := b.cost) (times := times) (L := allL W H f s l m) (fun a c ha hc he => all_same q0 ha hc he) (fun a ha => (ixS_ok ⟨(hall a ha).2.2.2.1, (hall a ha).2.2.2.2⟩).2.1) (allL W H f s l m).length (Nat.le_refl _) k hkl
      rw [← hcb] at this
      exact this
    rw [e1]
    by_cases ht : 1 ≤ times ∧ times ≤ 65536
    · rw [wgt_best hb.2.2.1.1 hb.2.2.1.2 ht]
      exact (hww i (by omega)).2
    · exfalso
      refine hz (ws_zero (fun j => wtTo_none (fun c => ?_) _ j) _)
      unfold wgtF
      rw [if_pos (by omega)]
def small22 (s : Sch) : Sch := { s with far := if 3 < s.far ∧ s.far ≤ 32 then s.far % 4 else s.far }
attribute [local irreducible] OJ J HdJ Code.wpIn wpListIn Oper.wpIn bodyPost CallsIn Does
set_option maxRecDepth 4000
set_option maxHeartbeats 64000000 in
theorem small22_any (s : Sch) (w : World) : Does Tryz.prog 24 [.agg (schE s).toArray] [] w (fun v S' => v = .agg (schE (small22 s)).toArray ∧ S' = []) := by
  refine does_of Tryz.func24 rfl Tryz.ntmps24 rfl ⟨by simp, .nil⟩ (fun _ => ?_)
  simp only [slots]
  unfold small22
  refine z_tas
  · rw [if_pos (by omega)]
    refine z_ro
    exact ⟨rfl, rfl⟩
  · rw [if_neg (by omega)]
    refine z_ro
    exact ⟨rfl, rfl⟩
  · rw [if_neg (by omega)]
    refine z_ro
    exact ⟨rfl, rfl⟩
end Go.Proofs.YtemmnpgebpffbaaGreat
/- Layer 22's statements: a made seed. -/
namespace Go.Proofs.YtemmnpgebpffbaaGreat
open Go.RowKit
attribute [local irreducible] OJ J HdJ Code.wpIn wpListIn Oper.wpIn bodyPost CallsIn Does
set_option maxRecDepth 4000
set_option maxHeartbeats 128000000 in
theorem makes_law (a : Int) (ha : InR .u8 a) (b : Int) (hb : InR .u8 b) (A : Option Addr) (c : Nat) (z : List Int) {w : World} (hr : RoA w (blocks []) A z.length c 1 (ints .i16 z)) (hz : ∀ x ∈ z, InR .i16 x) (s : Sch) (_ : InR .i64 s.x) (_ : InR .i64 s.y) (_ : InR .i64 s.far) (_ : InR .i64 s.step) (Al : Option Addr) (cl : Nat) (l : List Smp) (hrl : RoA w (blocks []) Al l.length cl 3 (flat smpE l)) (_ : ∀ p ∈ l, p.ok) (m : Int) (hm : InR .i64 m) (times : Int) (ht : InR .i64 times) :
    Does Tryz.prog 6 [.int .u8 a, .int .u8 b, .slice A z.length c, .agg (schE s).toArray, .slice Al l.length cl, .int .i64 m, .int .i64 times] [] w (fun v _ => v = .bool true) := by
  have ha1 : 0 ≤ a ∧ a ≤ 255 := ha
  have hb1 : 0 ≤ b ∧ b ≤ 255 := hb
  obtain ⟨W, hW, hW1⟩ : ∃ x : Nat, 2 + a % 39 = (x : Int) ∧ 2 ≤ x ∧ x ≤ 40 := ⟨(2 + a % 39).toNat, by omega, by omega⟩
  obtain ⟨H, hH, hH1⟩ : ∃ x : Nat, 2 + b % 39 = (x : Int) ∧ 2 ≤ x ∧ x ≤ 40 := ⟨(2 + b % 39).toNat, by omega, by omega⟩
  have iW : CV Tryz.prog 23 [] (.bool true) True := ⟨fun _ w => works22 w⟩
  refine does_of Tryz.func6 rfl Tryz.ntmps6 rfl ⟨by simp, .nil⟩ (fun _ => ?_)
  simp only [slots]
  refine z_tas
  · exact j_out1 rfl rfl (.nil _) rfl
  · exact j_out1 rfl rfl (.nil _) rfl
  refine lfv rfl rfl rfl (fun w hw => small22_any s w) ?_
  generalize small22 s = s at *
  refine z_tas
  refine lf rfl rfl rfl (S := []) (fun w hw ho => made_any a b ha hb W H hW hH A c z 30 (by decide) 0 0 w ⟨hr.h.go hw (Split.nil _)⟩ (by omega)) ?_
  rintro v S' ⟨Af, cf, rfl, rfl⟩
  have hfl := fieldF_len z (W * H)
  have hfi := field_in16 hz (W * H)
  generalize fieldF z (W * H) = f at *
  rw [show (1 + 30 % 1000 : Int) = ((31 : Nat) : Int) by decide]
  have hcb : 2 ≤ W ∧ W ≤ 256 ∧ 2 ≤ H ∧ H ≤ 256 ∧ 1 ≤ 31 ∧ 31 ≤ 1000 := by omega
  have hF := caF_of (ox := 0) (oy := 0) hcb hfl hfi (by omega : 1 ≤ 4 ∧ 4 ≤ 32)
  obtain ⟨-, h2, h3, -, -, -⟩ := chart_hdr (ox := 0) (oy := 0) (z := f) (W := W) (H := H) (cell := 31) (by omega)
  refine z_tas
  refine lf rfl rfl rfl (S := []) (fun w hw ho => open10 W H 31 Af cf f 0 0 4 w ⟨Ro.row hw (Split.nil _) (by refine z_hs)⟩ hcb hfl hfi (by decide) (by decide) (by omega)) ?_
  rintro v S' ⟨K, hys, hrm, rfl, rfl⟩
  rw [← hys, ← hrm] at hF
  rw [← hys] at h2 h3
  have k0 : CaOk K.ys f K.room (newV 4) 0 := by rw [hrm]; exact newV_ok (by omega)
  refine z_tas
  refine lf rfl rfl rfl (S := K.H (newV 4)) (fun w hw ho => smake_t K (newV 4) f s Al cl l m times 0 w ho hF k0 (by omega) ⟨hrl.h.go hw Split.au⟩ (by omega) ht) ?_
  rintro v S' ⟨s1, k1, h5⟩
  rw [h2, h3] at h5
  rcases h5 with ⟨h5, rfl, rfl⟩ | ⟨h5, Ag, cg, rfl, rfl⟩
  · refine z_tas
    refine lf rfl rfl rfl (S := []) (fun w hw ho => rmake_any W H Af cf f s Al cl l m times w ⟨Ro.row hw (Split.nil _) (by refine z_hs)⟩ (by omega) hfl hfi ⟨hrl.h.go hw (Split.nil _)⟩ (by omega) ht) ?_
    rintro v S' (⟨-, rfl, rfl⟩ | ⟨h6, -⟩)
    rotate_left
    · exact absurd h6 h5
    generalize mkC W H f s l m times = e at *
    refine z_tas
    refine lfv rfl rfl rfl (fun w hw => rsame14_any ⟨0, 0, 0, 0, 0, []⟩ ⟨0, 0, 0, 0, 0, []⟩ none none 0 0 w ⟨Ro.nil _ _ _⟩ ⟨Ro.nil _ _ _⟩ (by decide)) ?_
    rw [sameG_refl]
    refine z_tas
    exact j_out1 rfl rfl (.nil _) rfl
  · refine z_tas
    refine lf rfl rfl rfl (S := []) (fun w hw ho => rmake_any W H Af cf f s Al cl l m times w ⟨Ro.row hw (Split.nil _) (by refine z_hs)⟩ (by omega) hfl hfi ⟨hrl.h.go hw (Split.nil _)⟩ (by omega) ht) ?_
    rintro v S' (⟨h6, -⟩ | ⟨-, u, rfl, Ar, cr, rfl, rfl⟩)
    · exact absurd h5 h6
    obtain ⟨q0, ⟨g1, g2, g3⟩, hok, hgl, hgm, hgp, ⟨s1, s2⟩, b1, b2, bx, bi, htop⟩ := mk_top h5
    generalize hG : mkG W H f s l m times = G at *
    generalize cbTo (allL W H f s l m) (allL W H f s l m).length = bs at *
    refine z_tas
    refine lfv rfl rfl rfl (fun w hw => rsame14_any G G Ag Ar cg cr w ⟨Ro.row hw (Split.nil _) (by refine z_hs)⟩ ⟨Ro.row hw (Split.nil _) (by refine z_hs)⟩ (by omega)) ?_
    rw [sameG_refl]
    generalize ixS s.far bs.i bs.k = ix at *
    have hmb := mulB 64 65 (a := bs.k + s.far) (b := G.w) (by omega) (by omega)
    refine z_tas
    all_goals first
      | (exfalso; omega)
      | skip
    rename_i bSch bCh bG bB bR hx1 hx2
    refine c_loop (X := Nat) (fun i => i ≤ G.p.length) (fun i => [(17, .pointer (some ⟨bG, 0, none⟩)), (22, .int .i64 ix), (23, .int .i64 i)])
      (fun i => [.blk bG 60 (grE G Ag cg), .row (.slice Ag G.p.length cg) 2 1 G.p.length (ints .i64 G.p)]) (fun i => G.p.length - i) 0 (Nat.zero_le _) ⟨rfl, by rw [bi]; rfl, rfl, trivial⟩ Sub.au ?_
    intro i hi
    rcases Nat.lt_or_ge i G.p.length with h | h
    · have ht := htop i h
      refine z_tas
      refine c_dvL [.blk bG 60 (grE G Ag cg), .row (.slice Ag G.p.length cg) 2 1 G.p.length (ints .i64 G.p)] (0 :: 1 :: 2 :: 3 :: 4 :: 5 :: 6 :: 7 :: 8 :: 9 :: 10 :: []) Sub.au ?_
      intro _
      refine z_gvs
      all_goals first
        | exact c_round (i + 1) h (by show G.p.length - (i + 1) < G.p.length - i; omega) ⟨rfl, rfl, by simp [look], trivial⟩ Sub.au
        | (exfalso; omega)
    · obtain rfl : i = G.p.length := by omega
      refine z_tas
      refine lfv rfl rfl rfl (fun w hw => gcheck_any G Ag cg w ⟨Ro.row hw (Split.nil _) (by refine z_hs)⟩ hok hgl hgp s1 s2) ?_
      refine z_tas
      exact j_out1 rfl rfl (.nil _) rfl
end Go.Proofs.YtemmnpgebpffbaaGreat
