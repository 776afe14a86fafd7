
import Derived.Test.YtemmnpgebpffbaaGreatMG21
set_option linter.unusedVariables false
set_option linter.unusedSimpArgs false
/- Layer 22: what the statements' own check reckons. -/
namespace Go.Proofs.YtemmnpgebpffbaaGreat
open Go.RowKit
instance (priority := 60) {P : Program} {w0 : World} {W : Nat → Prop} {H : List HE} (x y : Operand) (t e b q m c sz bs j r r' : Nat) (a : Int) (z : Value) (k : IntKind) [hu : Und P t (.slice e)] [hI : Inf P e sz bs z] [ha : LitI a j] [hm : NMul j sz r] [hr : NAdd q r r'] : MS P w0 W H (.indexAddr t x y) [.slice (some ⟨b, q, none⟩) m c, .int k a] (.pointer (some ⟨b, r', none⟩)) (j < m) := by
  have h0 : MS P w0 W H (.indexAddr t x y) [.slice (some ⟨b, q, none⟩) m c, .int k (j : Int)] (.pointer (some ⟨b, r', none⟩)) (j < m) := inferInstance
  rw [ha.h]
  exact h0
instance (b : Nat) : NMul 1 b b := ⟨Nat.one_mul b⟩
/-- The profile's cells, behind the first so many heights. -/
def r22 (a b c : Int) : List Value := [.int .i64 0, .int .i64 0, .int .i64 a, .int .i64 256, .int .i64 0, .int .i64 b, .int .i64 0, .int .i64 256, .int .i64 c]
def R22 : Nat → List Value
  | 0 => r22 0 0 0
  | 1 => r22 32 0 0
  | 2 => r22 32 2160 0
  | _ => r22 32 2160 2800
attribute [local irreducible] OJ J HdJ Code.wpIn wpListIn Oper.wpIn bodyPost CallsIn Does
set_option maxRecDepth 4000
set_option maxHeartbeats 128000000 in
theorem works22 (w : World) : Does Tryz.prog 23 [] [] w (fun v S' => v = .bool true ∧ S' = []) := by
  have hlz : z22.length = 144 := zTo22_len 144
  have hcb : 2 ≤ 12 ∧ 12 ≤ 256 ∧ 2 ≤ 12 ∧ 12 ≤ 256 ∧ 1 ≤ 30 ∧ 30 ≤ 1000 := by omega
  refine does_ofM Tryz.func23 rfl Tryz.ntmps23 rfl ⟨by simp, .nil⟩ (fun n => ?_)
  simp only [slots]
  refine j_nil (e := 92) (size := 1) ?_
  refine z_tas
  rename_i b1
  refine c_joinL (X := Option Addr × Nat) (fun _ => True) (fun q => [(1, .pointer (some ⟨b1, 0, none⟩))]) (fun q => [.blk b1 31 [.int .i64 12, .int .i64 12, .slice q.1 z22.length q.2], .row (.slice q.1 z22.length q.2) 92 1 z22.length (ints .i16 z22)]) ?_ ?_
  · refine c_loop (X := Nat × Option Addr × Nat) (fun q => q.1 ≤ 144) (fun q => [(1, .pointer (some ⟨b1, 0, none⟩)), (2, .int .i64 q.1)])
      (fun q => [.blk b1 31 [.int .i64 12, .int .i64 12, .slice q.2.1 (zTo22 q.1).length q.2.2], .row (.slice q.2.1 (zTo22 q.1).length q.2.2) 92 1 (zTo22 q.1).length (ints .i16 (zTo22 q.1))]) (fun q => 144 - q.1) (0, none, 0) (Nat.zero_le _) ⟨rfl, rfl, trivial⟩ (by simp only [zTo22, ints, List.map_nil, List.length_nil]; exact Sub.au) ?_
    rintro ⟨i, A1, c1⟩ hi
    dsimp only at hi ⊢
    have hwl := zTo22_len i
    rcases Nat.lt_or_ge i 144 with h | h
    · have e : zTo22 (i + 1) = zTo22 i ++ [(i : Int) * (i : Int) % 311] := rfl
      have h1 := mulB 144 144 (a := (i : Int)) (b := (i : Int)) (by omega) (by omega)
      have h2 := Int.mul_nonneg (show 0 ≤ (i : Int) by omega) (show 0 ≤ (i : Int) by omega)
      refine z_tas
      rename_i A2 c2
      refine c_round (i + 1, A2, c2) h (by show 144 - (i + 1) < 144 - i; omega) ⟨rfl, by simp [look], trivial⟩ ?_
      simp only [e]
      exact Sub.au
    · obtain rfl : i = 144 := by omega
      refine z_tas
      exact c_round (A1, c1) trivial trivial ⟨rfl, trivial⟩ (by show Sub [.blk b1 31 [.int .i64 12, .int .i64 12, .slice A1 (zTo22 144).length c1], .row (.slice A1 (zTo22 144).length c1) 92 1 (zTo22 144).length (ints .i16 (zTo22 144))] _; exact Sub.au)
  rintro ⟨Af, cf⟩ -
  dsimp only
  refine z_tas
  refine lf rfl rfl rfl (S := []) (fun w hw ho => open10 12 12 30 Af cf z22 0 0 4 w ⟨Ro.row hw (Split.nil _) (by refine z_hs)⟩ hcb hlz z22_in (by decide) (by decide) (by omega)) ?_
  rintro v S' ⟨K, hys, hrm, rfl, rfl⟩
  have hF : CaF K.ys z22 K.room := by rw [hys, hrm]; exact caF_of hcb hlz z22_in (by omega)
  have hh : wY K.ys = 12 ∧ hY K.ys = 12 := by rw [hys]; decide +kernel
  have k0 : CaOk K.ys z22 K.room (newV 4) 0 := by rw [hrm]; exact newV_ok (by omega)
  have p1 := w22_h1
  have p2 := w22_h2
  have p3 := w22_h3
  have p4 := w22_C
  have p5 := w22_N 9
  have p6 := w22_b
  have g1 := w22_len
  have g2 := w22_pk
  have g3 := w22_pos
  have g4 := w22_sum
  have gd : (mkG 12 12 z22 s22 l22 0 1000).w = 5 ∧ (mkG 12 12 z22 s22 l22 0 1000).h = 5 ∧ (mkG 12 12 z22 s22 l22 0 1000).st = 256 := ⟨rfl, rfl, rfl⟩
  clear hlz
  generalize z22 = f at *
  refine z_tas
  rename_i bl
  refine c_loop (X := Nat × CaV) (fun q => q.1 ≤ 3 ∧ CaOk K.ys f K.room q.2 (4 * (q.1 : Int))) (fun q => [(3, .pointer (some ⟨K.g, 0, none⟩)), (4, .slice (some ⟨bl, 0, none⟩) 3 3), (5, .int .i64 q.1)])
    (fun q => K.HC q.2 [.row (.slice (some ⟨bl, 0, none⟩) 3 3) 73 3 3 (R22 q.1)]) (fun q => 3 - q.1) (0, newV 4) ⟨by decide, k0⟩ ⟨rfl, rfl, rfl, trivial⟩ (by show Sub (K.HC (newV 4) [.row (.slice (some ⟨bl, 0, none⟩) 3 3) 73 3 3 [.int .i64 0, .int .i64 0, .int .i64 0, .int .i64 256, .int .i64 0, .int .i64 0, .int .i64 0, .int .i64 256, .int .i64 0]]) _; exact Sub.au) ?_
  rintro ⟨i, s0⟩ ⟨hi, k0⟩
  dsimp only at hi k0 ⊢
  rcases (show i = 0 ∨ i = 1 ∨ i = 2 ∨ i = 3 by omega) with rfl | rfl | rfl | rfl
  · simp only [R22, r22]
    refine z_tas
    refine c_dvL [] (0 :: 1 :: 2 :: 3 :: 4 :: 5 :: 6 :: 7 :: 8 :: 9 :: 10 :: 11 :: 12 :: 13 :: 14 :: 15 :: 16 :: 17 :: 18 :: 19 :: 20 :: 21 :: 22 :: []) (.nil _) ?_; intro _
    refine z_gvs
    all_goals
      refine lf rfl rfl rfl (S := K.H s0) (fun w hw ho => height_t K s0 f 1536 1280 (4 * ((0 : Nat) : Int)) w ho hF k0 (by omega)) ?_
      rintro v S' ⟨s1, rfl, k1, rfl⟩
      rw [hh.1, hh.2, p1.1, p1.2]
      refine z_gvs
      refine c_round (1, s1) ⟨by show 1 ≤ 3; decide, k1.mono (by show 4 * ((0 : Nat) : Int) + 4 ≤ 4 * ((1 : Nat) : Int); decide)⟩ (by show 3 - 1 < 3 - 0; decide) ⟨rfl, rfl, by simp [look], trivial⟩ ?_
      show Sub (K.HC s1 [.row (.slice (some ⟨bl, 0, none⟩) 3 3) 73 3 3 [.int .i64 0, .int .i64 0, .int .i64 32, .int .i64 256, .int .i64 0, .int .i64 0, .int .i64 0, .int .i64 256, .int .i64 0]]) _
      exact Sub.au
  · simp only [R22, r22]
    refine z_tas
    refine c_dvL [] (0 :: 1 :: 2 :: 3 :: 4 :: 5 :: 6 :: 7 :: 8 :: 9 :: 10 :: 11 :: 12 :: 13 :: 14 :: 15 :: 16 :: 17 :: 18 :: 19 :: 20 :: 21 :: 22 :: []) (.nil _) ?_; intro _
    refine z_gvs
    all_goals
      refine lf rfl rfl rfl (S := K.H s0) (fun w hw ho => height_t K s0 f 1792 1280 (4 * ((1 : Nat) : Int)) w ho hF k0 (by omega)) ?_
      rintro v S' ⟨s1, rfl, k1, rfl⟩
      rw [hh.1, hh.2, p2.1, p2.2]
      refine z_gvs
      refine c_round (2, s1) ⟨by show 2 ≤ 3; decide, k1.mono (by show 4 * ((1 : Nat) : Int) + 4 ≤ 4 * ((2 : Nat) : Int); decide)⟩ (by show 3 - 2 < 3 - 1; decide) ⟨rfl, rfl, by simp [look], trivial⟩ ?_
      show Sub (K.HC s1 [.row (.slice (some ⟨bl, 0, none⟩) 3 3) 73 3 3 [.int .i64 0, .int .i64 0, .int .i64 32, .int .i64 256, .int .i64 0, .int .i64 2160, .int .i64 0, .int .i64 256, .int .i64 0]]) _
      exact Sub.au
  · simp only [R22, r22]
    refine z_tas
    refine c_dvL [] (0 :: 1 :: 2 :: 3 :: 4 :: 5 :: 6 :: 7 :: 8 :: 9 :: 10 :: 11 :: 12 :: 13 :: 14 :: 15 :: 16 :: 17 :: 18 :: 19 :: 20 :: 21 :: 22 :: []) (.nil _) ?_; intro _
    refine z_gvs
    all_goals
      refine lf rfl rfl rfl (S := K.H s0) (fun w hw ho => height_t K s0 f 1536 1536 (4 * ((2 : Nat) : Int)) w ho hF k0 (by omega)) ?_
      rintro v S' ⟨s1, rfl, k1, rfl⟩
      rw [hh.1, hh.2, p3.1, p3.2]
      refine z_gvs
      refine c_round (3, s1) ⟨by show 3 ≤ 3; decide, k1.mono (by show 4 * ((2 : Nat) : Int) + 4 ≤ 4 * ((3 : Nat) : Int); decide)⟩ (by show 3 - 3 < 3 - 2; decide) ⟨rfl, rfl, by simp [look], trivial⟩ ?_
      show Sub (K.HC s1 [.row (.slice (some ⟨bl, 0, none⟩) 3 3) 73 3 3 [.int .i64 0, .int .i64 0, .int .i64 32, .int .i64 256, .int .i64 0, .int .i64 2160, .int .i64 0, .int .i64 256, .int .i64 2800]]) _
      exact Sub.au
  · simp only [R22, r22]
    refine z_tas
    rename_i b6
    refine j_perm (H' := K.HC s0 [.blk b6 26 (schE s22), .row (.slice (some ⟨bl, 0, none⟩) l22.length 3) 73 3 l22.length (flat smpE l22)]) (by show Sub (K.HC s0 [.blk b6 26 [.int .i64 1280, .int .i64 1280, .int .i64 2, .int .i64 256], .row (.slice (some ⟨bl, 0, none⟩) 3 3) 73 3 3 [.int .i64 0, .int .i64 0, .int .i64 32, .int .i64 256, .int .i64 0, .int .i64 2160, .int .i64 0, .int .i64 256, .int .i64 2800]]) _; exact Sub.au) ?_
    refine lf rfl rfl rfl (S := K.H s0) (fun w hw ho => smake_t K s0 f s22 (some ⟨bl, 0, none⟩) 3 l22 0 1000 _ w ho hF k0 (by omega) ⟨Ro.row hw Split.au (by refine z_hs)⟩ (by decide) (by decide)) ?_
    rintro v S' ⟨s1, k1, h1⟩
    rw [hh.1, hh.2, p4] at h1
    rcases h1 with ⟨h1, -⟩ | ⟨-, Ag, cg, rfl, rfl⟩
    · exact absurd rfl h1
    rw [p6]
    generalize mkG 12 12 f s22 l22 0 1000 = G at *
    obtain ⟨e1, e2, e3⟩ := gd
    have iW1 := weight_cv 0 0 1
    rw [show wgtF 0 0 1 = 65536 from by decide] at iW1
    have iW2 := weight_cv 1 3 2
    rw [show wgtF 1 3 2 = 32768 from by decide] at iW2
    have iW3 := weight_cv 1 9 2
    rw [show wgtF 1 9 2 = 0 from by decide] at iW3
    refine z_tas
    refine lf rfl rfl rfl (S := []) (fun w hw ho => flat_any s22 w (by decide)) ?_
    rintro v S' (⟨-, u, rfl, Ae, ce, rfl, rfl⟩ | ⟨h, -⟩)
    rotate_left
    · exact absurd w22_side h
    obtain ⟨v1, v2⟩ := w22_ev
    generalize evS s22 = E at *
    refine z_tas
    refine lf rfl rfl rfl (S := K.H s1) (fun w hw ho => smake_t K s1 f s22 none 0 [] 0 9 _ w ho hF k1 (by omega) ⟨Ro.nil _ _ _⟩ (by decide) (by decide)) ?_
    rintro v S' ⟨s2, k2, h2⟩
    rw [hh.1, hh.2, p5] at h2
    rcases h2 with ⟨-, rfl, rfl⟩ | ⟨h2, -⟩
    rotate_left
    · cases h2
    refine z_tas
    refine lfv rfl rfl rfl (fun w hw => peak_any G Ag cg w ⟨Ro.row hw (Split.nil _) (by refine z_hs)⟩ (by omega)) ?_
    rw [g1, g2]
    refine z_tas
    rw [← g1]
    refine lfv rfl rfl rfl (fun w hw => gcheck_any G Ag cg w ⟨Ro.row hw (Split.nil _) (by refine z_hs)⟩ (by rw [e1, e2, e3]; decide) (by rw [e1, e2, g1]; rfl) g3 (by rw [g1]; exact g4.1) (by rw [g1]; exact g4.2)) ?_
    refine z_tas
    refine j_outMK (Ds := []) (S' := []) (.nil _) ?_
    refine z_rk
    exact ⟨rfl, rfl⟩
end Go.Proofs.YtemmnpgebpffbaaGreat
/- Layer 22's statements: how much a cost is believed; even seeds. -/
namespace Go.Proofs.YtemmnpgebpffbaaGreat
open Go.RowKit
attribute [local irreducible] OJ J HdJ Code.wpIn wpListIn Oper.wpIn bodyPost CallsIn Does
set_option maxRecDepth 4000
set_option maxHeartbeats 64000000 in
theorem weighs_law (best : Int) (hb : InR .i64 best) (a : Int) (ha : InR .i64 a) (b : Int) (hb2 : InR .i64 b) (times : Int) (ht : InR .i64 times) {w : World} :
    Does Tryz.prog 5 [.int .i64 best, .int .i64 a, .int .i64 b, .int .i64 times] [] w (fun v _ => v = .bool true) := by
  have iW : CV Tryz.prog 23 [] (.bool true) True := ⟨fun _ w => works22 w⟩
  have h1 := wgt_in best a times
  have h2 : best ≤ a ∧ a ≤ b → wgtF best b times ≤ wgtF best a times := fun h => wgt_mono h.1 h.2
  have h3 : 0 ≤ best ∧ best ≤ 4611686018427387904 ∧ 1 ≤ times ∧ times ≤ 65536 → wgtF best best times = 65536 := fun h => wgt_best h.1 h.2.1 h.2.2
  have i1 := weight_cv best a times
  have i2 := weight_cv best b times
  have i3 := weight_cv best best times
  have i4 := rweight_cv best a times
  have i5 := rweight_cv best b times
  generalize wgtF best a times = x at *
  generalize wgtF best b times = y at *
  generalize wgtF best best times = z at *
  refine does_of Tryz.func5 rfl Tryz.ntmps5 rfl ⟨by simp, .nil⟩ (fun n => ?_)
  simp only [slots]
  refine z_tas
  all_goals first
    | exact j_out1 rfl rfl (.nil _) rfl
    | (exfalso; omega)
    | (exfalso; have := h2 ⟨by omega, by omega⟩; omega)
    | (exfalso; have := h3 ⟨by omega, by omega, by omega, by omega⟩; omega)
set_option maxHeartbeats 64000000 in
theorem rall_nil (s : Sch) (w : World) : Does Tryz.prog 12 [.agg #[.int .i64 0, .int .i64 0, .slice none 0 0], .agg (schE s).toArray, .slice none 0 0, .int .i64 0] [] w (fun v S' => v = .slice none 0 0 ∧ S' = []) := by
  have hc : chk21 s [] ≠ 0 := by
    unfold chk21
    split
    · decide
    · rw [if_pos (.inl rfl)]; decide
  refine does_of Tryz.func12 rfl Tryz.ntmps12 rfl ⟨by simp, .nil⟩ (fun n => ?_)
  simp only [slots]
  refine z_tas
  refine lfv rfl rfl rfl (fun w hw => rcheck21_any s none 0 [] w ⟨Ro.nil _ _ _⟩ (by decide)) ?_
  generalize chk21 s [] = e at *
  refine z_tas
  exact j_out1 rfl rfl (.nil _) ⟨rfl, rfl⟩
set_option maxHeartbeats 64000000 in
theorem flat_law (s : Sch) (_ : InR .i64 s.x) (_ : InR .i64 s.y) (_ : InR .i64 s.far) (_ : InR .i64 s.step) {w : World} :
    Does Tryz.prog 7 [.agg (schE s).toArray] [] w (fun v _ => v = .bool true) := by
  have iW : CV Tryz.prog 23 [] (.bool true) True := ⟨fun _ w => works22 w⟩
  have iM : ∀ w0 W H t u a b, MS Tryz.prog w0 W H (.binOp .mul t a b u) [.int .i64 s.far, .int .i64 s.step] (.int .i64 (IntKind.i64.wrap (s.far * s.step))) True := fun _ _ _ _ _ _ _ => msW inferInstance trivial rfl
  have iX : ∀ w0 W H t u a b, MS Tryz.prog w0 W H (.binOp .sub t a b u) [.int .i64 s.x, .int .i64 (IntKind.i64.wrap (s.far * s.step))] (.int .i64 (X0 s.x s.far s.step)) True := fun _ _ _ _ _ _ _ => msW inferInstance trivial rfl
  have iY : ∀ w0 W H t u a b, MS Tryz.prog w0 W H (.binOp .sub t a b u) [.int .i64 s.y, .int .i64 (IntKind.i64.wrap (s.far * s.step))] (.int .i64 (X0 s.y s.far s.step)) True := fun _ _ _ _ _ _ _ => msW inferInstance trivial rfl
  refine does_of Tryz.func7 rfl Tryz.ntmps7 rfl ⟨by simp, .nil⟩ (fun n => ?_)
  simp only [slots]
  refine z_tas
  by_cases hb : s.far < 0 ∨ 32 < s.far
  · refine lf rfl rfl rfl (S := []) (fun w hw ho => flat_bad s w hb) ?_
    rintro v S' ⟨rfl, rfl⟩
    refine z_tas
    all_goals first
      | exact j_out1 rfl rfl (.nil _) rfl
      | (exfalso; omega)
  · refine lf rfl rfl rfl (S := []) (fun w hw ho => flat_any s w (by omega)) ?_
    rintro v S' (⟨hok, u, rfl, Ae, ce, rfl, rfl⟩ | ⟨hok, rfl, rfl⟩)
    · have hpl := evS_len (s := s) (by omega)
      obtain ⟨-, q1, q2, q3⟩ := side_le hok
      refine z_tas
      refine lf rfl rfl rfl (S := []) (fun w hw ho => revenS_any s w hok) ?_
      rintro v S' ⟨u, rfl, Ar, cr, rfl, rfl⟩
      have hsm := sameG_refl (evS s)
      generalize evS s = E at *
      refine z_tas
      refine lfv rfl rfl rfl (fun w hw => rsame14_any E E Ae Ar ce cr w ⟨Ro.row hw (Split.nil _) (by refine z_hs)⟩ ⟨Ro.row hw (Split.nil _) (by refine z_hs)⟩ (by omega)) ?_
      rw [hsm]
      refine z_tas
      refine lf rfl rfl rfl (S := []) (fun w hw ho => rall_nil s w) ?_
      rintro v S' ⟨rfl, rfl⟩
      refine z_tas
      exact j_out1 rfl rfl (.nil _) rfl
    · refine z_tas
      refine lf rfl rfl rfl (S := []) (fun w hw ho => reven_bad (2 * s.far + 1) (2 * s.far + 1) (X0 s.x s.far s.step) (X0 s.y s.far s.step) s.step w hok) ?_
      rintro v S' ⟨rfl, rfl⟩
      refine z_tas
      refine lfv rfl rfl rfl (fun w hw => rsame14_any ⟨0, 0, 0, 0, 0, []⟩ ⟨0, 0, 0, 0, 0, []⟩ none none 0 0 w ⟨Ro.nil _ _ _⟩ ⟨Ro.nil _ _ _⟩ (by decide)) ?_
      rw [sameG_refl]
      refine z_tas
      refine lf rfl rfl rfl (S := []) (fun w hw ho => rall_nil s w) ?_
      rintro v S' ⟨rfl, rfl⟩
      refine z_tas
      exact j_out1 rfl rfl (.nil _) rfl
end Go.Proofs.YtemmnpgebpffbaaGreat
