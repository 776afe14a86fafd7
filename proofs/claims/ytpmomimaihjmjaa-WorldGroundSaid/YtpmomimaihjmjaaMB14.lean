
import Derived.Test.YtpmomimaihjmjaaMB13
set_option linter.unusedVariables false
set_option linter.unusedSimpArgs false
/- Package world: New, Start; the reference of layer 45. -/
namespace Go.Proofs.Ytpmomimaihjmjaa
open Go.RowKit
instance (f : Fn) (xs ys : Array Value) : ZC (.func f xs ys) [.func f xs ys] := ⟨rfl⟩
instance : ZC .nilFunc [.nilFunc] := ⟨rfl⟩
@[reducible] def wV0 (x y high off : Int) : Wv := ⟨x, y, high, off, 0, 0, 0, 0⟩
/-- What is wrong with a place and a height, or 0. -/
def wchk (x y high off : Int) : Int :=
  if ¬((-1048576 ≤ x ∧ x ≤ 1048576) ∧ (-1048576 ≤ y ∧ y ≤ 1048576)) then 9 else
  if ¬((-1048576 ≤ high ∧ high ≤ 1048576) ∧ (-1048576 ≤ off ∧ off ≤ 1048576)) then 2 else 0
theorem wchk_nn (x y high off : Int) : wchk x y high off = 0 ∨ wchk x y high off = 2 ∨ wchk x y high off = 9 := by
  unfold wchk
  split
  · exact .inr (.inr rfl)
  split
  · exact .inr (.inl rfl)
  · exact .inl rfl
theorem wchk_ok {x y high off : Int} (h : wchk x y high off = 0) : (wV0 x y high off).ok 0 := by
  unfold wchk at h
  split at h
  · exact absurd h (by decide)
  split at h
  · exact absurd h (by decide)
  rename_i h1 h2
  have h1 := Decidable.not_not.1 h1
  have h2 := Decidable.not_not.1 h2
  exact ⟨h1.1, h1.2, h2.1, h2.2, by simp [wV0], by simp [wV0], by simp [wV0], by simp [wV0]⟩
def WNewR (ys : List Int) (x y high off : Int) (r : Value) (S' : List HE) : Prop :=
  (∃ code : Int, code ≠ 0 ∧ r = .tuple #[.pointer none, .int .i64 code] ∧ S' = [] ∧ GetC ys code) ∨
  (GetC ys 0 ∧ wchk x y high off ≠ 0 ∧ r = .tuple #[.pointer none, .int .i64 (wchk x y high off)] ∧ S' = []) ∨
  (GetC ys 0 ∧ wchk x y high off = 0 ∧ ∃ (K : CaT) (b t : Nat), K.ys = ys ∧ K.room = 8 ∧ r = .tuple #[.pointer (some ⟨b, 0, none⟩), .int .i64 0] ∧ S' = K.W (newV 8) b t (wV0 x y high off))
attribute [local irreducible] OJ J HdJ Code.wpIn wpListIn Oper.wpIn bodyPost CallsIn Does
set_option maxRecDepth 4000
set_option maxHeartbeats 64000000 in
theorem wnew_c (A : Option Addr) (c : Nat) (ys : List Int) (x y high off : Int) (w : World) (hr : RoA w (blocks []) A ys.length c 1 (ints .u8 ys)) (hu : U8s ys) (hm : ys.length < 100000000) :
    Does Try.prog 29 [.slice A ys.length c, .agg #[.int .i64 x, .int .i64 y], .int .i64 high, .int .i64 off] [] w (WNewR ys x y high off) := by
  refine does_of Try.func29 rfl Try.ntmps29 rfl ⟨by simp, .nil⟩ (fun n => ?_)
  simp only [slots]
  refine z_tas
  refine lf rfl rfl rfl (S := []) (fun w hw ho => new_c A c ys 8 w ⟨hr.h.go hw (Split.nil _)⟩ hu hm (by decide)) ?_
  rintro v S' (⟨code, hne, rfl, rfl, ⟨h, -⟩ | ⟨-, h⟩⟩ | ⟨-, h, K, hys, hrm, rfl, rfl⟩)
  · exfalso; omega
  · refine z_tas
    all_goals first
      | exact j_out2 rfl rfl rfl (.nil _) (.inl ⟨code, hne, rfl, rfl, h⟩)
      | (exfalso; omega)
  · have hrm : K.room = 8 := by omega
    rw [hrm]
    by_cases g1 : (-1048576 ≤ x ∧ x ≤ 1048576) ∧ (-1048576 ≤ y ∧ y ≤ 1048576)
    · by_cases g2 : (-1048576 ≤ high ∧ high ≤ 1048576) ∧ (-1048576 ≤ off ∧ off ≤ 1048576)
      · have e : wchk x y high off = 0 := by unfold wchk; rw [if_neg (Decidable.not_not.2 g1), if_neg (Decidable.not_not.2 g2)]
        refine z_tas
        all_goals try (exfalso; omega)
        rename_i bw bt
        exact j_out2 (S' := K.W (newV 8) bw bt (wV0 x y high off)) rfl rfl rfl (by show Sub (K.HC (newV 8) [.blk bw 156 (worldE K.g (wV0 x y high off) bt), .row (.slice (some ⟨bt, 0, none⟩) 3 3) 159 2 3 [.int .i64 1, .func (.func 74) #[.pointer (some ⟨bw, 0, none⟩)] #[], .int .i64 3, .func (.func 75) #[.pointer (some ⟨bw, 0, none⟩)] #[], .int .i64 2, .func (.func 76) #[.pointer (some ⟨bw, 0, none⟩)] #[]]]) _; exact Sub.au) (.inr (.inr ⟨h, e, K, bw, bt, hys, hrm, rfl, rfl⟩))
      · have e : wchk x y high off = 2 := by unfold wchk; rw [if_neg (Decidable.not_not.2 g1), if_pos g2]
        refine z_tas
        all_goals first
          | exact j_out2 rfl rfl rfl (.nil _) (.inr (.inl ⟨h, by rw [e]; decide, by rw [e], rfl⟩))
          | (exfalso; omega)
    · have e : wchk x y high off = 9 := by unfold wchk; rw [if_pos g1]
      refine z_tas
      all_goals first
        | exact j_out2 rfl rfl rfl (.nil _) (.inr (.inl ⟨h, by rw [e]; decide, by rw [e], rfl⟩))
        | (exfalso; omega)
set_option maxHeartbeats 64000000 in
theorem wstart_c (K : CaT) (s : CaV) (b t : Nat) (v : Wv) (bb : Int) (q : Bool) (hv : v.ok bb) (hb : bb ≤ 1000000) (w : World) (hown : Own (K.W s b t v) w) :
    Does Try.prog 39 [.pointer (some ⟨b, 0, none⟩), .bool q] (K.W s b t v) w (fun r S' => r = .agg (frmE (frW v 5 (if q = true then 1 else 0) 0)).toArray ∧ S' = K.W s b t { v with told := v.told + 1 }) := by
  refine does_of Try.func39 rfl Try.ntmps39 rfl hown (fun n => ?_)
  simp only [slots]
  cases q
  · refine z_tas
    refine lf rfl rfl rfl (S := K.W s b t v) (fun w hw ho => frame_c K s b t v bb 5 0 0 hv hb (by decide) (by decide) w ho) ?_
    rintro r S' ⟨rfl, rfl⟩
    refine z_tas
    refine j_outK (S' := K.W s b t { v with told := v.told + 1 }) Sub.au ?_
    refine z_rk
    exact ⟨rfl, rfl⟩
  · refine z_tas
    refine lf rfl rfl rfl (S := K.W s b t v) (fun w hw ho => frame_c K s b t v bb 5 1 0 hv hb (by decide) (by decide) w ho) ?_
    rintro r S' ⟨rfl, rfl⟩
    refine z_tas
    refine j_outK (S' := K.W s b t { v with told := v.told + 1 }) Sub.au ?_
    refine z_rk
    exact ⟨rfl, rfl⟩
set_option maxHeartbeats 64000000 in
theorem bytes27_c (W H cell : Nat) (A : Option Addr) (c : Nat) (z : List Int) (ox oy : Int) (w : World) (hr : RoA w (blocks []) A z.length c 1 (ints .i16 z)) (hW : 2 ≤ W ∧ W ≤ 256 ∧ 2 ≤ H ∧ H ≤ 256 ∧ 1 ≤ cell ∧ cell ≤ 1000) (hz : z.length = W * H) (hin : In16 z) (hox : InR .i32 ox) (hoy : InR .i32 oy) :
    Does Try.prog 30 [.agg #[.int .i64 W, .int .i64 H, .slice A z.length c, .int .i64 cell, .int .i32 ox, .int .i32 oy]] [] w (fun v S' => ∃ A' c', v = .slice A' (chartB W H cell ox oy z).length c' ∧ S' = [.row (.slice A' (chartB W H cell ox oy z).length c') 5 1 (chartB W H cell ox oy z).length (ints .u8 (chartB W H cell ox oy z))]) := by
  refine does_of Try.func30 rfl Try.ntmps30 rfl ⟨by simp, .nil⟩ (fun n => ?_)
  simp only [slots]
  refine z_tas
  refine lf rfl rfl rfl (S := []) (fun w hw ho => cput_ok W H cell A c z ox oy w ⟨hr.h.go hw (Split.nil _)⟩ hW hz hin hox hoy) ?_
  rintro v S' ⟨Ab, cb, rfl, rfl⟩
  refine z_tas
  exact j_out1 rfl rfl Sub.au ⟨Ab, cb, rfl, rfl⟩
/-- One who flies, as the reference has it. -/
@[reducible] def refE (v : Wv) : List Value := [.int .i64 v.x, .int .i64 v.y, .int .i64 v.high, .int .i64 v.off, .int .u32 v.time, .int .i64 v.told]
set_option maxHeartbeats 16000000 in
theorem rin_any (x far : Int) (hf : 0 ≤ far ∧ far < 4294967296) (w : World) : Does Try.prog 77 [.int .i64 x, .int .i64 far] [] w (fun v S' => v = .bool (inB x far) ∧ S' = []) := by
  refine does_of Try.func77 rfl Try.ntmps77 rfl ⟨by simp, .nil⟩ (fun n => ?_)
  simp only [slots]
  refine z_tas
  all_goals exact j_out1 rfl rfl (.nil _) ⟨congrArg Value.bool (by unfold inB; rw [Bool.eq_iff_iff]; simp only [decide_eq_true_eq, Bool.and_eq_true, Bool.false_eq_true, false_iff, true_iff]; omega), rfl⟩
instance rin_cv (x far : Int) : CV Try.prog 77 [.int .i64 x, .int .i64 far] (.bool (inB x far)) (0 ≤ far ∧ far < 4294967296) := ⟨fun h w => rin_any x far h w⟩
set_option maxHeartbeats 64000000 in
theorem rcheck_c (x y high off time told : Int) (w : World) : Does Try.prog 31 [.agg #[.int .i64 x, .int .i64 y, .int .i64 high, .int .i64 off, .int .u32 time, .int .i64 told]] [] w (fun v S' => v = .int .i64 (wchk x y high off) ∧ S' = []) := by
  refine does_of Try.func31 rfl Try.ntmps31 rfl ⟨by simp, .nil⟩ (fun n => ?_)
  simp only [slots]
  by_cases g1 : (-1048576 ≤ x ∧ x ≤ 1048576) ∧ (-1048576 ≤ y ∧ y ≤ 1048576)
  · by_cases g2 : (-1048576 ≤ high ∧ high ≤ 1048576) ∧ (-1048576 ≤ off ∧ off ≤ 1048576)
    · rw [show wchk x y high off = 0 by unfold wchk; rw [if_neg (Decidable.not_not.2 g1), if_neg (Decidable.not_not.2 g2)]]
      refine z_tas
      all_goals first
        | exact j_out1 rfl rfl (.nil _) ⟨rfl, rfl⟩
        | (exfalso; omega)
    · rw [show wchk x y high off = 2 by unfold wchk; rw [if_neg (Decidable.not_not.2 g1), if_pos g2]]
      refine z_tas
      all_goals first
        | exact j_out1 rfl rfl (.nil _) ⟨rfl, rfl⟩
        | (exfalso; omega)
  · rw [show wchk x y high off = 9 by unfold wchk; rw [if_pos g1]]
    refine z_tas
    all_goals first
      | exact j_out1 rfl rfl (.nil _) ⟨rfl, rfl⟩
      | (exfalso; omega)
set_option maxHeartbeats 64000000 in
theorem rnext_c (x y high off time told kind a b : Int) (ht : 0 ≤ told ∧ told ≤ 1000000) (ha1 : -2147483648 ≤ a ∧ a ≤ 2147483647) (hb1 : -2147483648 ≤ b ∧ b ≤ 2147483647) (w : World) : Does Try.prog 79 [.agg #[.int .i64 x, .int .i64 y, .int .i64 high, .int .i64 off, .int .u32 time, .int .i64 told], .int .i64 kind, .int .i64 a, .int .i64 b] [] w (fun r S' => r = .tuple #[.agg #[.int .i64 x, .int .i64 y, .int .i64 high, .int .i64 off, .int .u32 time, .int .i64 (told + 1)], .agg #[.int .i64 kind, .int .u16 ((told + 1) % 65536), .int .u32 time, .int .i32 a, .int .i32 b, .int .i32 0]] ∧ S' = []) := by
  refine does_of Try.func79 rfl Try.ntmps79 rfl ⟨by simp, .nil⟩ (fun n => ?_)
  simp only [slots]
  refine z_tas
  rename_i b4 b8 b9 b10
  refine c_dvL [.blk b4 69 [.int .i64 x, .int .i64 y, .int .i64 high, .int .i64 off, .int .u32 time, .int .i64 told], .blk b10 69 [.int .i64 x, .int .i64 y, .int .i64 high, .int .i64 off, .int .u32 time, .int .i64 (told + 1)]] (0 :: 1 :: 2 :: 3 :: 4 :: 5 :: 6 :: 7 :: 8 :: 9 :: 10 :: 11 :: 12 :: 13 :: 14 :: []) Sub.au ?_
  intro _
  refine z_govG
  all_goals try (refine t_next Sub.au (t_nrm (rest' := [12, 14]) (by decide) ?_); refine z_govG)
  all_goals
    refine j_outK (S' := []) (.nil _) ?_
    refine z_rk
    exact ⟨rfl, rfl⟩
set_option maxHeartbeats 64000000 in
theorem rgo_c (W H : Nat) (A : Option Addr) (c : Nat) (f : List Int) (v : Wv) (bb dx dy up ms : Int) (hv : v.ok bb) (hb : bb ≤ 100000) (hdx : InR .i64 dx) (hdy : InR .i64 dy) (hup : InR .i64 up) (hms : InR .u32 ms) (w : World) (hr : RoA w (blocks []) A f.length c 1 (ints .i16 f)) (hW : 1 ≤ W ∧ W ≤ 256 ∧ 1 ≤ H ∧ H ≤ 256) (hz : f.length = W * H) (hf : In16 f) :
    Does Try.prog 33 [.agg #[.int .i64 W, .int .i64 H, .slice A f.length c], .agg (refE v).toArray, .int .i64 dx, .int .i64 dy, .int .i64 up, .int .u32 ms] [] w
      (fun r S' => ∃ A' c', r = .tuple #[.agg (refE (goF W H f v dx dy up ms).1).toArray, .slice A' (goF W H f v dx dy up ms).2.1.length c', .int .i64 (goF W H f v dx dy up ms).2.2] ∧
        S' = [.row (.slice A' (goF W H f v dx dy up ms).2.1.length c') 83 6 (goF W H f v dx dy up ms).2.1.length (flat frmE (goF W H f v dx dy up ms).2.1)]) := by
  have hms1 : 0 ≤ ms ∧ ms ≤ 4294967295 := hms
  have h1 := hv.x
  have h2 := hv.y
  have h3 := hv.high
  have h4 := hv.time
  have h5 := hv.told
  refine does_of Try.func33 rfl Try.ntmps33 rfl ⟨by simp, .nil⟩ (fun n => ?_)
  simp only [slots]
  refine j_nil (e := 83) (size := 6) ?_
  show J _ _ _ _ _ [.row (.slice none 0 0) 83 6 ([] : List Frm).length (flat frmE [])] _
  by_cases g1 : (-65536 ≤ dx ∧ dx ≤ 65536) ∧ (-65536 ≤ dy ∧ dy ≤ 65536) ∧ (-65536 ≤ up ∧ up ≤ 65536) ∧ ms ≤ 60000
  · by_cases g2 : (-1048576 ≤ v.x + dx ∧ v.x + dx ≤ 1048576) ∧ (-1048576 ≤ v.y + dy ∧ v.y + dy ≤ 1048576) ∧ (-1048576 ≤ v.high + up ∧ v.high + up ≤ 1048576)
    · have hc : goC v dx dy up ms = 0 := by unfold goC; rw [if_neg (Decidable.not_not.2 g1), if_neg (Decidable.not_not.2 g2)]
      have hg := goV_ok hv hc
      have e : goF W H f v dx dy up ms = _ := if_pos hc
      rw [e]
      have hz1 := heightT_in hf (W := W) (H := H) (v.x + dx) (v.y + dy)
      refine z_tas
      all_goals try (exfalso; omega)
      have hg1 := hv.off
      have ew : IntKind.u32.wrap (v.time + ms) = (v.time + ms) % 4294967296 := by simp [IntKind.wrap, IntKind.bits, IntKind.signed]
      have hl1 : ([] ++ [(⟨1, (v.told + 1) % 65536, (v.time + ms) % 4294967296, dx, dy, 0⟩ : Frm)]).length = 1 := rfl
      have hl2 : ([] ++ [(⟨1, (v.told + 1) % 65536, (v.time + ms) % 4294967296, dx, dy, 0⟩ : Frm)] ++ [(⟨3, (v.told + 2) % 65536, (v.time + ms) % 4294967296, v.high + up + v.off, 0, 0⟩ : Frm)]).length = 2 := rfl
      rw [ew]
      refine lfv rfl rfl rfl (fun w _ => rnext_c (v.x + dx) (v.y + dy) (v.high + up) v.off ((v.time + ms) % 4294967296) v.told 1 dx dy (by omega) (by omega) (by omega) w) ?_
      refine z_tas
      refine lfv rfl rfl rfl (fun w _ => rnext_c (v.x + dx) (v.y + dy) (v.high + up) v.off ((v.time + ms) % 4294967296) (v.told + 1) 3 (v.high + up + v.off) 0 (by omega) (by omega) (by omega) w) ?_
      rw [show v.told + 1 + 1 = v.told + 2 by omega]
      refine z_tas
      refine lfv rfl rfl rfl (fun w hw => rheight11_any W H A c f (v.x + dx) (v.y + dy) w ⟨hr.h.go hw (Split.nil _)⟩ hW hz hf) ?_
      generalize heightT W H f (v.x + dx) (v.y + dy) = z at *
      generalize codeF W H f (v.x + dx) (v.y + dy) = e0 at *
      rcases hrb : radB (goV v dx dy up ms) z e0 with _ | _
      · have hrb' : ¬(e0 = 0 ∧ z ≤ v.high + up ∧ v.high + up - z ≤ 1048576) := by simpa [radB] using hrb
        have eT : goT (goV v dx dy up ms) z e0 = ({ goV v dx dy up ms with told := v.told + 2 }, [⟨1, (v.told + 1) % 65536, (v.time + ms) % 4294967296, dx, dy, 0⟩, ⟨3, (v.told + 2) % 65536, (v.time + ms) % 4294967296, v.high + up + v.off, 0, 0⟩]) := by
          unfold goT goL
          rw [hrb]
          simp only [Bool.false_eq_true, if_false, frW, List.length_cons, List.length_nil]
          simp only [show v.told + 1 + 1 = v.told + 2 by omega]
          rfl
        rw [eT]
        refine z_tas
        all_goals try (exfalso; omega)
        all_goals
          rename Option Addr => A2
          rename Nat => c2
          refine j_outK (S' := [.row (.slice A2 ([] ++ [(⟨1, (v.told + 1) % 65536, (v.time + ms) % 4294967296, dx, dy, 0⟩ : Frm)] ++ [(⟨3, (v.told + 2) % 65536, (v.time + ms) % 4294967296, v.high + up + v.off, 0, 0⟩ : Frm)]).length c2) 83 6 ([] ++ [(⟨1, (v.told + 1) % 65536, (v.time + ms) % 4294967296, dx, dy, 0⟩ : Frm)] ++ [(⟨3, (v.told + 2) % 65536, (v.time + ms) % 4294967296, v.high + up + v.off, 0, 0⟩ : Frm)]).length (flat frmE ([] ++ [(⟨1, (v.told + 1) % 65536, (v.time + ms) % 4294967296, dx, dy, 0⟩ : Frm)] ++ [(⟨3, (v.told + 2) % 65536, (v.time + ms) % 4294967296, v.high + up + v.off, 0, 0⟩ : Frm)]))]) Sub.au ?_
          refine z_rk
          exact ⟨A2, c2, rfl, rfl⟩
      · have hrb' : e0 = 0 ∧ z ≤ v.high + up ∧ v.high + up - z ≤ 1048576 := by simpa [radB] using hrb
        have eT : goT (goV v dx dy up ms) z e0 = ({ goV v dx dy up ms with told := v.told + 3 }, [⟨1, (v.told + 1) % 65536, (v.time + ms) % 4294967296, dx, dy, 0⟩, ⟨3, (v.told + 2) % 65536, (v.time + ms) % 4294967296, v.high + up + v.off, 0, 0⟩, ⟨2, (v.told + 3) % 65536, (v.time + ms) % 4294967296, v.high + up - z, 0, 0⟩]) := by
          unfold goT goL
          rw [hrb]
          simp only [if_true, frW, List.length_cons, List.length_nil]
          simp only [show v.told + 1 + 1 = v.told + 2 by omega, show v.told + 2 + 1 = v.told + 3 by omega]
          rfl
        rw [eT]
        refine z_tas
        all_goals try (exfalso; omega)
        refine lfv rfl rfl rfl (fun w _ => rnext_c (v.x + dx) (v.y + dy) (v.high + up) v.off ((v.time + ms) % 4294967296) (v.told + 2) 2 (v.high + up - z) 0 (by omega) (by omega) (by omega) w) ?_
        rw [show v.told + 2 + 1 = v.told + 3 by omega]
        refine z_tas
        rename Option Addr => A2
        rename Nat => c2
        refine j_outK (S' := [.row (.slice A2 ([] ++ [(⟨1, (v.told + 1) % 65536, (v.time + ms) % 4294967296, dx, dy, 0⟩ : Frm)] ++ [(⟨3, (v.told + 2) % 65536, (v.time + ms) % 4294967296, v.high + up + v.off, 0, 0⟩ : Frm)] ++ [(⟨2, (v.told + 3) % 65536, (v.time + ms) % 4294967296, v.high + up - z, 0, 0⟩ : Frm)]).length c2) 83 6 ([] ++ [(⟨1, (v.told + 1) % 65536, (v.time + ms) % 4294967296, dx, dy, 0⟩ : Frm)] ++ [(⟨3, (v.told + 2) % 65536, (v.time + ms) % 4294967296, v.high + up + v.off, 0, 0⟩ : Frm)] ++ [(⟨2, (v.told + 3) % 65536, (v.time + ms) % 4294967296, v.high + up - z, 0, 0⟩ : Frm)]).length (flat frmE ([] ++ [(⟨1, (v.told + 1) % 65536, (v.time + ms) % 4294967296, dx, dy, 0⟩ : Frm)] ++ [(⟨3, (v.told + 2) % 65536, (v.time + ms) % 4294967296, v.high + up + v.off, 0, 0⟩ : Frm)] ++ [(⟨2, (v.told + 3) % 65536, (v.time + ms) % 4294967296, v.high + up - z, 0, 0⟩ : Frm)]))]) Sub.au ?_
        refine z_rk
        exact ⟨A2, c2, rfl, rfl⟩
    · have hc : goC v dx dy up ms = 9 := by unfold goC; rw [if_neg (Decidable.not_not.2 g1), if_pos g2]
      have e : goF W H f v dx dy up ms = (v, [], 9) := by rw [← hc]; exact if_neg (by rw [hc]; decide)
      rw [e]
      refine z_tas
      all_goals try (exfalso; omega)
      all_goals
        refine j_outK (S' := [.row (.slice none 0 0) 83 6 ([] : List Frm).length (flat frmE [])]) Sub.au ?_
        refine z_rk
        exact ⟨none, 0, rfl, rfl⟩
  · have hc : goC v dx dy up ms = 2 := if_pos g1
    have e : goF W H f v dx dy up ms = (v, [], 2) := by rw [← hc]; exact if_neg (by rw [hc]; decide)
    rw [e]
    refine z_tas
    all_goals try (exfalso; omega)
    all_goals
      refine j_outK (S' := [.row (.slice none 0 0) 83 6 ([] : List Frm).length (flat frmE [])]) Sub.au ?_
      refine z_rk
      exact ⟨none, 0, rfl, rfl⟩
end Go.Proofs.Ytpmomimaihjmjaa
/- Frames and places held against each other. -/
namespace Go.Proofs.Ytpmomimaihjmjaa
open Go.RowKit
theorem pv_frm (neg : Bool) (t u : TypeId) (x y : Operand) (a b c d e f a' b' c' d' e' f' : Int) (ht : t = 83) : PV Try.prog (.binOp (if neg then .neq else .eql) t x y u) [.agg #[.int .i64 a, .int .u16 b, .int .u32 c, .int .i32 d, .int .i32 e, .int .i32 f], .agg #[.int .i64 a', .int .u16 b', .int .u32 c', .int .i32 d', .int .i32 e', .int .i32 f']] (.bool (neg != (a == a' && b == b' && c == c' && d == d' && e == e' && f == f'))) True := ⟨by
  subst ht
  rintro _ ρ ⟨dst, op', ty, pos, aft, gd⟩ rfl h w
  obtain ⟨h1, h2⟩ := map2 h
  have u1 := Try.underlying3
  have a1 := Try.isAgg3
  have z1 := Try.sizeOf3
  have u2 := Try.underlying30
  have a2 := Try.isAgg30
  have z2 := Try.sizeOf30
  have u3 := Try.underlying67
  have a3 := Try.isAgg67
  have z3 := Try.sizeOf67
  have u4 := Try.underlying21
  have a4 := Try.isAgg21
  have z4 := Try.sizeOf21
  have hS : Try.prog.underlying 83 = some (.struct (Try.prog.fieldsOf 83)) := by kernel_rfl
  have hp : Try.prog.stoodInHeld 83 = false := by kernel_rfl
  have hm : Try.prog.eqGuardType Try.prog.depth 83 = false := by kernel_rfl
  have key : ∀ xs ys : Array Value, xs = #[.int .i64 a, .int .u16 b, .int .u32 c, .int .i32 d, .int .i32 e, .int .i32 f] → ys = #[.int .i64 a', .int .u16 b', .int .u32 c', .int .i32 d', .int .i32 e', .int .i32 f'] → (Op.equalIn 10000 83 (.agg xs) (.agg ys)).run Try.prog w = .ok (a == a' && b == b' && c == c' && d == d' && e == e' && f == f') w := by
    rintro _ _ rfl rfl
    rw [show (10000 : Nat) = 9999 + 1 from rfl, run_equalIn_agg w 9999 83 _ _ hS hp]
    simp only [Program.fieldsOf, Try.underlying83]
    go_simp
    by_cases h1 : a = a' <;> by_cases h2 : b = b' <;> by_cases h3 : c = c' <;> by_cases h4 : d = d' <;> by_cases h5 : e = e' <;> by_cases h6 : f = f' <;> simp [h1, h2, h3, h4, h5, h6]
  cases neg
  · simp only [Bool.false_eq_true, if_false, execOp, h1, h2, Sem.run_bind, run_eqGuard_agg w _ _ _ _ _ _ hm, Result.andThen_ok]
    rw [run_eql_struct, key _ _ rfl rfl]
    simp
  · simp only [if_true, execOp, h1, h2, Sem.run_bind, run_eqGuard_agg w _ _ _ _ _ _ hm, Result.andThen_ok]
    rw [run_neq_struct, key _ _ rfl rfl]
    simp⟩
theorem ms_bin {P : Program} {w0 : World} {W : Nat → Prop} {H : List HE} {o : BinOp} {t u : TypeId} {x y : Operand} {vs : List Value} {v : Value} (hp : PV P (.binOp o t x y u) vs v True) : MS P w0 W H (.binOp o t x y u) vs v True := ⟨by
  intro _ F n N ds σ dd ty pos aft gd K Q _ hv hdN h
  haveI := hp
  exact o_val (by simp) rfl hdN (fun a w ha _ => pq_of (o := ⟨some dd, _, ty, pos, aft, gd⟩) hv trivial a.eval (fun x _ u hu => ha.eval hu) w) h⟩
instance pv_frmE (u : TypeId) (x y : Operand) (a b c d e f a' b' c' d' e' f' : Int) : PV Try.prog (.binOp .eql 83 x y u) [.agg #[.int .i64 a, .int .u16 b, .int .u32 c, .int .i32 d, .int .i32 e, .int .i32 f], .agg #[.int .i64 a', .int .u16 b', .int .u32 c', .int .i32 d', .int .i32 e', .int .i32 f']] (.bool (a == a' && b == b' && c == c' && d == d' && e == e' && f == f')) True := by
  have hp := pv_frm false 83 u x y a b c d e f a' b' c' d' e' f' rfl
  simp only [Bool.false_bne, Bool.false_eq_true, if_false] at hp
  exact hp
instance (priority := 2000) pv_frmT (u : TypeId) (x y : Operand) (a b c d e f : Int) : PV Try.prog (.binOp .eql 83 x y u) [.agg #[.int .i64 a, .int .u16 b, .int .u32 c, .int .i32 d, .int .i32 e, .int .i32 f], .agg #[.int .i64 a, .int .u16 b, .int .u32 c, .int .i32 d, .int .i32 e, .int .i32 f]] (.bool true) True := by
  have hp := pv_frmE u x y a b c d e f a b c d e f
  simp only [beq_self_eq_true, Bool.and_self] at hp
  exact hp
instance (priority := 2000) pv_frmN (u : TypeId) (x y : Operand) (a b c d e f : Int) : PV Try.prog (.binOp .neq 83 x y u) [.agg #[.int .i64 a, .int .u16 b, .int .u32 c, .int .i32 d, .int .i32 e, .int .i32 f], .agg #[.int .i64 a, .int .u16 b, .int .u32 c, .int .i32 d, .int .i32 e, .int .i32 f]] (.bool false) True := by
  have hp := pv_frm true 83 u x y a b c d e f a b c d e f rfl
  simp only [beq_self_eq_true, Bool.and_self, if_true, bne_self_eq_false] at hp
  exact hp
instance {w0 : World} {W : Nat → Prop} {H : List HE} (u : TypeId) (x y : Operand) (a b c d e f a' b' c' d' e' f' : Int) : MS Try.prog w0 W H (.binOp .eql 83 x y u) [.agg #[.int .i64 a, .int .u16 b, .int .u32 c, .int .i32 d, .int .i32 e, .int .i32 f], .agg #[.int .i64 a', .int .u16 b', .int .u32 c', .int .i32 d', .int .i32 e', .int .i32 f']] (.bool (a == a' && b == b' && c == c' && d == d' && e == e' && f == f')) True := ms_bin (pv_frmE u x y a b c d e f a' b' c' d' e' f')
instance (priority := 2000) {w0 : World} {W : Nat → Prop} {H : List HE} (u : TypeId) (x y : Operand) (a b c d e f : Int) : MS Try.prog w0 W H (.binOp .eql 83 x y u) [.agg #[.int .i64 a, .int .u16 b, .int .u32 c, .int .i32 d, .int .i32 e, .int .i32 f], .agg #[.int .i64 a, .int .u16 b, .int .u32 c, .int .i32 d, .int .i32 e, .int .i32 f]] (.bool true) True := ms_bin (pv_frmT u x y a b c d e f)
instance (priority := 2000) {w0 : World} {W : Nat → Prop} {H : List HE} (u : TypeId) (x y : Operand) (a b c d e f : Int) : MS Try.prog w0 W H (.binOp .neq 83 x y u) [.agg #[.int .i64 a, .int .u16 b, .int .u32 c, .int .i32 d, .int .i32 e, .int .i32 f], .agg #[.int .i64 a, .int .u16 b, .int .u32 c, .int .i32 d, .int .i32 e, .int .i32 f]] (.bool false) True := ms_bin (pv_frmN u x y a b c d e f)
theorem pv_spotN (t u : TypeId) (x y : Operand) (a b : Int) (ht : t = 61) : PV Try.prog (.binOp .neq t x y u) [.agg #[.int .i64 a, .int .i64 b], .agg #[.int .i64 a, .int .i64 b]] (.bool false) True := ⟨by
  subst ht
  rintro _ ρ ⟨dst, op', ty, pos, aft, gd⟩ rfl h w
  obtain ⟨h1, h2⟩ := map2 h
  have u2 := Try.underlying2
  have a2 := Try.isAgg2
  have z2 := Try.sizeOf2
  have hS : Try.prog.underlying 61 = some (.struct (Try.prog.fieldsOf 61)) := by kernel_rfl
  have hp : Try.prog.stoodInHeld 61 = false := by kernel_rfl
  have hm : Try.prog.eqGuardType Try.prog.depth 61 = false := by kernel_rfl
  simp only [execOp, h1, h2, Sem.run_bind, run_eqGuard_agg w _ _ _ _ _ _ hm, Result.andThen_ok]
  rw [run_neq_struct, show (10000 : Nat) = 9999 + 1 from rfl, run_equalIn_agg w 9999 61 _ _ hS hp]
  simp only [Program.fieldsOf, Try.underlying61]
  go_simp⟩
instance (priority := 2000) (u : TypeId) (x y : Operand) (a b : Int) : PV Try.prog (.binOp .neq 61 x y u) [.agg #[.int .i64 a, .int .i64 b], .agg #[.int .i64 a, .int .i64 b]] (.bool false) True := pv_spotN 61 u x y a b rfl
instance (priority := 2000) {w0 : World} {W : Nat → Prop} {H : List HE} (u : TypeId) (x y : Operand) (a b : Int) : MS Try.prog w0 W H (.binOp .neq 61 x y u) [.agg #[.int .i64 a, .int .i64 b], .agg #[.int .i64 a, .int .i64 b]] (.bool false) True := ms_bin (pv_spotN 61 u x y a b rfl)
instance (priority := 2000) pv_spotT (u : TypeId) (x y : Operand) (a b : Int) : PV Try.prog (.binOp .eql 61 x y u) [.agg #[.int .i64 a, .int .i64 b], .agg #[.int .i64 a, .int .i64 b]] (.bool true) True := by
  have hp := run_eqSpot 61 u x y a b a b rfl
  simp only [beq_self_eq_true, Bool.and_self] at hp
  exact hp
instance (priority := 2000) {w0 : World} {W : Nat → Prop} {H : List HE} (u : TypeId) (x y : Operand) (a b : Int) : MS Try.prog w0 W H (.binOp .eql 61 x y u) [.agg #[.int .i64 a, .int .i64 b], .agg #[.int .i64 a, .int .i64 b]] (.bool true) True := ms_bin (pv_spotT u x y a b)
attribute [local irreducible] OJ J HdJ Code.wpIn wpListIn Oper.wpIn bodyPost CallsIn Does
set_option maxRecDepth 4000
def wZ45 : List Int := [0, 10, 20, 30, 40, 50, 60, 70, 80, 90, 100, 110, 120, 130, 140, 150]
def wTo : Nat → List Int
  | 0 => []
  | n + 1 => wTo n ++ [10 * (n : Int)]
theorem wTo_16 : wTo 16 = wZ45 := by decide +kernel
theorem wTo_len : ∀ n, (wTo n).length = n
  | 0 => rfl
  | n + 1 => by rw [wTo, List.length_append, wTo_len n]; rfl
def wV1 : Wv := ⟨256, 0, 1000, 7, 0, 0, 0, 1⟩
def wV2 : Wv := ⟨512, 0, 1024, 7, 256, 0, 50, 4⟩
def wV3 : Wv := ⟨512, -256, 1024, 7, 0, -256, 100, 6⟩
def wL1 : List Frm := [⟨1, 2, 50, 256, 0, 0⟩, ⟨3, 3, 50, 1031, 0, 0⟩, ⟨2, 4, 50, 704, 0, 0⟩]
def wL2 : List Frm := [⟨1, 5, 100, 0, -256, 0⟩, ⟨3, 6, 100, 1031, 0, 0⟩]
theorem w45_go1 : goF 4 4 wZ45 wV1 256 0 24 50 = (wV2, wL1, 0) := by kernel_rfl
theorem w45_go2 : goF 4 4 wZ45 wV2 0 (-256) 0 50 = (wV3, wL2, 0) := by kernel_rfl
theorem w45_go3 : goF 4 4 wZ45 wV3 131072 0 0 0 = (wV3, [], 2) := by kernel_rfl
theorem w45_p1 : (goF 4 4 wZ45 wV1 256 0 24 50).1 = wV2 ∧ (goF 4 4 wZ45 wV1 256 0 24 50).2.1 = wL1 ∧ (goF 4 4 wZ45 wV1 256 0 24 50).2.2 = 0 := by rw [w45_go1]; exact ⟨rfl, rfl, rfl⟩
theorem w45_p2 : (goF 4 4 wZ45 wV2 0 (-256) 0 50).1 = wV3 ∧ (goF 4 4 wZ45 wV2 0 (-256) 0 50).2.1 = wL2 ∧ (goF 4 4 wZ45 wV2 0 (-256) 0 50).2.2 = 0 := by rw [w45_go2]; exact ⟨rfl, rfl, rfl⟩
theorem w45_p3 : (goF 4 4 wZ45 wV3 131072 0 0 0).1 = wV3 ∧ (goF 4 4 wZ45 wV3 131072 0 0 0).2.1 = [] ∧ (goF 4 4 wZ45 wV3 131072 0 0 0).2.2 = 2 := by rw [w45_go3]; exact ⟨rfl, rfl, rfl⟩
theorem w45_gr : heightT 4 4 wZ45 512 (-256) = 0 ∧ codeF 4 4 wZ45 512 (-256) = 9 := by decide +kernel
theorem getC_nil : GetC [] 5 := .inl ⟨by decide, by decide +kernel⟩
set_option maxHeartbeats 64000000 in
theorem works45 (w : World) : Does Try.prog 28 [] [] w (fun v S' => v = .bool true ∧ S' = []) := by
  refine does_of Try.func28 rfl Try.ntmps28 rfl ⟨by simp, .nil⟩ (fun n => ?_)
  simp only [slots]
  refine j_nil (e := 34) (size := 1) ?_
  refine z_tas
  rename_i b1
  refine c_loop (X := Nat × Option Addr × Nat) (fun q => q.1 ≤ 16) (fun q => [(1, .pointer (some ⟨b1, 0, none⟩)), (2, .int .i64 q.1)])
    (fun q => [.blk b1 26 [.int .i64 4, .int .i64 4, .slice q.2.1 (wTo q.1).length q.2.2], .row (.slice q.2.1 (wTo q.1).length q.2.2) 34 1 (wTo q.1).length (ints .i16 (wTo q.1))]) (fun q => 16 - q.1) (0, none, 0) (Nat.zero_le _) ⟨rfl, rfl, trivial⟩ (by simp only [wTo, ints, List.map_nil, List.length_nil]; exact Sub.au) ?_
  rintro ⟨i, A1, c1⟩ hi
  dsimp only at hi ⊢
  have hwl := wTo_len i
  rcases Nat.lt_or_ge i 16 with h | h
  · refine z_tas
    rename_i A2 c2
    exact c_round (i + 1, A2, c2) h (by show 16 - (i + 1) < 16 - i; omega) ⟨rfl, by simp [look], trivial⟩ (by simp only [wTo]; exact Sub.au)
  · obtain rfl : i = 16 := by omega
    rw [wTo_16]
    have hlz : wZ45.length = 16 := rfl
    have hcb : 2 ≤ 4 ∧ 4 ≤ 256 ∧ 2 ≤ 4 ∧ 4 ≤ 256 ∧ 1 ≤ 30 ∧ 30 ≤ 1000 := by omega
    have hz16 : In16 wZ45 := in16_of (by decide)
    refine z_tas
    refine lf rfl rfl rfl (S := []) (fun w hw ho => bytes27_c 4 4 30 A1 c1 wZ45 0 0 w ⟨Ro.row hw (Split.nil _) (by refine z_hs)⟩ hcb rfl hz16 (by decide) (by decide)) ?_
    rintro v S' ⟨Ab, cb, rfl, rfl⟩
    have hF := caF_of (ox := 0) (oy := 0) hcb (show wZ45.length = 4 * 4 from rfl) hz16 (by omega : 1 ≤ 8 ∧ 8 ≤ 32)
    have hget := chart_get (ox := 0) (oy := 0) hcb (show wZ45.length = 4 * 4 from rfl) hz16
    obtain ⟨-, h2, h3, -, -, -⟩ := chart_hdr (ox := 0) (oy := 0) (z := wZ45) (W := 4) (H := 4) (cell := 30) (by omega)
    generalize chartB 4 4 30 0 0 wZ45 = bb at *
    refine z_tas
    refine lf rfl rfl rfl (S := []) (fun w hw ho => wnew_c Ab cb bb 256 0 1000 7 w ⟨Ro.row hw (Split.nil _) (by refine z_hs)⟩ hF.u8 hF.len) ?_
    rintro v S' (⟨code, hne, rfl, rfl, h⟩ | ⟨-, hck, -, -⟩ | ⟨-, -, K, b, t, hys, hrm, rfl, rfl⟩)
    · exact absurd (h.one hget) hne
    · exact absurd (by decide) hck
    refine z_tas
    refine lf rfl rfl rfl (S := []) (fun w hw ho => wnew_c none 0 [] 0 0 0 0 w ⟨Ro.nil _ _ _⟩ (fun _ h => absurd h (by simp)) (by decide)) ?_
    rintro v S' (⟨code, hne, rfl, rfl, h⟩ | ⟨h, -, -, -⟩ | ⟨h, -, -⟩)
    rotate_left
    · exact absurd (h.one getC_nil) (by decide)
    · exact absurd (h.one getC_nil) (by decide)
    obtain rfl : code = 5 := h.one getC_nil
    refine z_tas
    refine lf rfl rfl rfl (S := []) (fun w hw ho => wnew_c Ab cb bb 1048577 0 0 0 w ⟨Ro.row hw (Split.nil _) (by refine z_hs)⟩ hF.u8 hF.len) ?_
    rintro v S' (⟨code, hne, rfl, rfl, h⟩ | ⟨-, -, rfl, rfl⟩ | ⟨-, hck, -⟩)
    · exact absurd (h.one hget) hne
    rotate_left
    · exact absurd hck (by decide)
    rw [show wchk 1048577 0 0 0 = 9 by decide]
    rw [← hys] at h2 h3
    rw [← hys, ← hrm] at hF
    have k0 : CaOk K.ys wZ45 K.room (newV 8) 0 := by rw [hrm]; exact newV_ok (by omega)
    refine z_tas
    refine lf rfl rfl rfl (S := K.W (newV 8) b t (wV0 256 0 1000 7)) (fun w hw ho => wstart_c K (newV 8) b t (wV0 256 0 1000 7) 0 true (wchk_ok (by decide)) (by omega) w ho) ?_
    rintro v S' ⟨rfl, rfl⟩
    rw [show ({ wV0 256 0 1000 7 with told := (wV0 256 0 1000 7).told + 1 } : Wv) = wV1 from rfl, show frW (wV0 256 0 1000 7) 5 (if true = true then 1 else 0) 0 = ⟨5, 1, 0, 1, 0, 0⟩ from rfl]
    have ok1 : wV1.ok 100 := ⟨by decide, by decide, by decide, by decide, by decide, by decide, by decide, by decide⟩
    have ok2 : wV2.ok 100 := ⟨by decide, by decide, by decide, by decide, by decide, by decide, by decide, by decide⟩
    have ok3 : wV3.ok 100 := ⟨by decide, by decide, by decide, by decide, by decide, by decide, by decide, by decide⟩
    refine z_tas
    refine lf rfl rfl rfl (S := K.W (newV 8) b t wV1) (fun w hw ho => go_c K (newV 8) wZ45 b t wV1 0 100 ok1 (by omega) 256 0 24 50 (by decide) (by decide) (by decide) (by decide) w ho hF k0 (by omega)) ?_
    rintro v S' ⟨s1, Aa, ca, rfl, k1, rfl⟩
    rw [h2, h3, w45_p1.1, w45_p1.2.1, w45_p1.2.2]
    refine z_tas
    refine lf rfl rfl rfl (S := K.W s1 b t wV2) (fun w hw ho => go_c K s1 wZ45 b t wV2 4 100 ok2 (by omega) 0 (-256) 0 50 (by decide) (by decide) (by decide) (by decide) w ho hF (by simpa using k1) (by omega)) ?_
    rintro v S' ⟨s2, Ac, cc2, rfl, k2, rfl⟩
    rw [h2, h3, w45_p2.1, w45_p2.2.1, w45_p2.2.2]
    refine z_tas
    refine lf rfl rfl rfl (S := K.W s2 b t wV3) (fun w hw ho => go_c K s2 wZ45 b t wV3 8 100 ok3 (by omega) 131072 0 0 0 (by decide) (by decide) (by decide) (by decide) w ho hF k2 (by omega)) ?_
    rintro v S' ⟨s3, Ad, cd, rfl, k3, rfl⟩
    rw [h2, h3, w45_p3.1, w45_p3.2.1, w45_p3.2.2]
    refine z_tas
    refine lf rfl rfl rfl (S := K.W s3 b t wV3) (fun w hw ho => wtime_c K s3 b t wV3 w ho) ?_
    rintro v S' ⟨rfl, rfl⟩
    refine z_tas
    refine lf rfl rfl rfl (S := K.W s3 b t wV3) (fun w hw ho => ground_c K s3 wZ45 b t wV3 12 w ho hF k3 (by omega)) ?_
    rintro v S' ⟨s4, rfl, k4, rfl⟩
    rw [h2, h3, show heightT 4 4 wZ45 wV3.x wV3.y = 0 from w45_gr.1, show codeF 4 4 wZ45 wV3.x wV3.y = 9 from w45_gr.2]
    have hw1 : wL1.length = 3 := rfl
    have hw2 : wL2.length = 2 := rfl
    refine j_app ?_
    refine j_opn (A := Aa) (m := wL1.length) (cc := ca) (by omega) (fun ga hga => ?_)
    subst hga
    refine j_opn (A := Ac) (m := wL2.length) (cc := cc2) (by omega) (fun gc hgc => ?_)
    subst hgc
    rw [hw1, hw2]
    refine z_tas
    all_goals try (exfalso; rename_i hx; exact absurd hx (by decide +kernel))
    refine lk rfl rfl rfl (S := K.W s4 b t wV3) (fun w hw ho => wat_c K s4 b t wV3 w ho) ?_
    refine z_tas
    all_goals try (exfalso; rename_i hx; exact absurd hx (by decide +kernel))
    refine lk rfl rfl rfl (S := K.W s4 b t wV3) (fun w hw ho => whigh_c K s4 b t wV3 w ho) ?_
    refine z_tas
    all_goals try (exfalso; rename_i hx; exact absurd hx (by decide +kernel))
    exact j_out1 rfl rfl (.nil _) ⟨congrArg Value.bool (by decide +kernel), rfl⟩
end Go.Proofs.Ytpmomimaihjmjaa
/- The gate of layer 45's laws: legs. -/
namespace Go.Proofs.Ytpmomimaihjmjaa
open Go.RowKit
/-- How far one goes, and how long that takes. -/
structure Leg45 where
  dx : Int
  dy : Int
  up : Int
  ms : Int
deriving Inhabited
abbrev legE : Leg45 → List Value := fun l => [.int .i64 l.dx, .int .i64 l.dy, .int .i64 l.up, .int .u32 l.ms]
instance : RowE legE 4 := ⟨fun _ => rfl, by decide⟩
def Leg45.ok (l : Leg45) : Prop := InR .i64 l.dx ∧ InR .i64 l.dy ∧ InR .i64 l.up ∧ InR .u32 l.ms
theorem cells_leg : CellsT Try.prog 75 [.i64, .i64, .i64, .u32] := cells_struct [[.i64], [.i64], [.i64], [.u32]] Try.underlying75 ⟨_, _, rfl, rfl, cells_i64, _, _, rfl, rfl, cells_i64, _, _, rfl, rfl, cells_i64, _, _, rfl, rfl, cells_u32, rfl⟩ (by kernel_rfl)
theorem un_leg : ∀ cs, IsRow [.i64, .i64, .i64, .u32] cs → ∃ a : Leg45, a.ok ∧ legE a = cs := by
  rintro _ ⟨x0, _, rfl, h0, x1, _, rfl, h1, x2, _, rfl, h2, x3, _, rfl, h3, rfl⟩
  exact ⟨⟨x0, x1, x2, x3⟩, ⟨h0, h1, h2, h3⟩, rfl⟩
end Go.Proofs.Ytpmomimaihjmjaa
