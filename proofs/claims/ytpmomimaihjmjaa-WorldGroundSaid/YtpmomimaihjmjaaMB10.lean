import Derived.ProofKit
import Derived.Deep.Slices
import Derived.Deep.Fields
import Derived.ChangeSame
import Derived.Lib.SmallJoins
import Derived.Test.YtpmomimaihjmjaaMB09
set_option linter.unusedVariables false
set_option linter.unusedSimpArgs false
/- Package terrain: corners, the heights around a place. -/
namespace Go.Proofs.Ytpmomimaihjmjaa
open Go.RowKit
/-- Does a place lie on a map? -/
def InsP (W H : Nat) (X Y : Int) : Prop := 0 ≤ X ∧ 0 ≤ Y ∧ X ≤ ((W : Int) - 1) * 256 ∧ Y ≤ ((H : Int) - 1) * 256
instance (W H : Nat) (X Y : Int) : Decidable (InsP W H X Y) := by unfold InsP; infer_instance
/-- One of the four heights around a place. -/
def corX (X : Int) (i : Nat) : Int := X / 256 + if X % 256 = 0 then 0 else ((i : Nat) : Int)
def corH (W H : Nat) (f : List Int) (X Y : Int) (i : Nat) : Int × Int := heightF W H f (corX X (i % 2)) (corX Y (i / 2))
/-- What is wrong with the first so many of the four. -/
def codeT (W H : Nat) (f : List Int) (X Y : Int) : Nat → Int
  | 0 => 0
  | i + 1 => if codeT W H f X Y i ≠ 0 then codeT W H f X Y i else (corH W H f X Y i).2
def codeF (W H : Nat) (f : List Int) (X Y : Int) : Int := if InsP W H X Y then codeT W H f X Y 4 else 9
def zT (W H : Nat) (f : List Int) (X Y : Int) : Nat → List Int
  | 0 => [0, 0, 0, 0]
  | i + 1 => (zT W H f X Y i).set i (corH W H f X Y i).1
theorem zT_len (W H : Nat) (f : List Int) (X Y : Int) : ∀ i, (zT W H f X Y i).length = 4
  | 0 => rfl
  | i + 1 => by rw [zT, List.length_set, zT_len W H f X Y i]
def fourF (W H : Nat) (f : List Int) (X Y : Int) : List Int := if codeF W H f X Y = 0 then zT W H f X Y 4 else [0, 0, 0, 0]
theorem heightF_in {W H : Nat} {f : List Int} (hf : In16 f) (x y : Int) : -32768 ≤ (heightF W H f x y).1 ∧ (heightF W H f x y).1 ≤ 32767 := by
  unfold heightF
  split
  · exact ⟨by decide, by decide⟩
  split
  · exact ⟨by decide, by decide⟩
  · exact hf _
instance : SzI Try.prog 2 1 := ⟨Try.t2, by kernel_rfl, by kernel_rfl⟩
theorem and255 {x : Int} (h : 0 ≤ x) (h2 : x < 4611686018427387904) : bits .and .i64 x 255 = x % 256 := bits_mask .i64 62 (by decide) (fun n h0 h1 => by rw [IntKind.wrap_i64]; omega) 8 (by decide) x h (by omega)
section
variable {P : Program} {w0 : World} {W : Nat → Prop} {H : List HE}
instance (priority := 90) (x y : Operand) (t e m b q sz j r r' : Nat) (k : IntKind) (a : Int) [hu : Und P t (.array m e)] [hI : SzI P e sz] [ha : LitI a j] [hm : NMul j sz r] [hr : NAdd q r r'] : LV P w0 W H (.indexAddr t x y) [.pointer (some ⟨b, q, none⟩), .int k a] (.pointer (some ⟨b, r', none⟩)) (j < m) := ⟨fun hc => by
  have := LV.h (P := P) (w0 := w0) (W := W) (H := H) (op := .indexAddr t x y) (vs := [.pointer (some ⟨b, q, none⟩), .int k (j : Int)]) (v := .pointer (some ⟨b, r', none⟩)) hc
  rw [← ha.h] at this
  exact this⟩
instance (priority := 90) (x y : Operand) (t e m b q sz j r r' : Nat) (k : IntKind) (a : Int) [hu : Und P t (.array m e)] [hI : SzI P e sz] [ha : LitI a j] [hm : NMul j sz r] [hr : NAdd q r r'] : MS P w0 W H (.indexAddr t x y) [.pointer (some ⟨b, q, none⟩), .int k a] (.pointer (some ⟨b, r', none⟩)) (j < m) := by
  have h0 : MS P w0 W H (.indexAddr t x y) [.pointer (some ⟨b, q, none⟩), .int k (j : Int)] (.pointer (some ⟨b, r', none⟩)) (j < m) := inferInstance
  rw [← ha.h] at h0
  exact h0
end
/-- An array of which no part is told. -/
theorem lb0 {F : Fence} {n : Nat} {P : Program} {N : Nat} {ds : List Deferred} {w0 : World} {W : Nat → Prop} {σ : List (Nat × Value)} {H : List HE} {Q : Exit → Act → World → Prop} {ops : Array Oper} {rest : List Oper} {d : Nat} {ty : TypeId} {pos : String} {aft : Array Edge} {gd : Option (Nat × Bool)} [Wide F] {t e m sz bs szt bst : Nat} {z ze : Value} {zs : List Value} [hu : Und P t (.array m e)] [hI : Inf P t szt bst z] [he : Inf P e sz bs ze] [hz : ZC z zs] (hw : wantd ops σ ⟨some d, .build t #[], ty, pos, aft, gd⟩ = some true) (hdN : Nat.blt d N = true)
    (h : J N ds w0 W ((d, .agg zs.toArray) :: σ) H (wpListIn F n P ops Q rest)) : J N ds w0 W σ H (wpListIn F n P ops Q (⟨some d, .build t #[], ty, pos, aft, gd⟩ :: rest)) := by
  refine l_run hw (o_val (by simp) rfl hdN (fun a w ha _ => ?_) h)
  obtain ⟨i, h3, h4, -⟩ := hI.h
  obtain ⟨j, h5, -, h6, -⟩ := he.h
  have hb : (Instr.build t ((#[] : Array (Nat × Operand)).map fun (i, x) => (i, a.eval x))).run P w = .ok (.agg zs.toArray) w := by
    unfold Instr.build
    have hz' : (zeroValue t).run P w = .ok z w := by simp [zeroValue, typeInfo, h3, h4]
    have hs : (sizeOf e).run P w = .ok sz w := by simp [sizeOf, typeInfo, h5, h6]
    have hc : z.cells = zs.toArray := by rw [← hz.h]
    simp only [Sem.run_bind, hz', Result.andThen_ok, run_underlying hu.h, hs, Array.map_empty, Instr.fill, Sem.run_pure, hc]
  simp only [execOp, Sem.run_bind, hb, Result.andThen_ok, Sem.run_pure]
attribute [local irreducible] OJ J HdJ Code.wpIn wpListIn Oper.wpIn bodyPost CallsIn Does
set_option maxRecDepth 4000
set_option maxHeartbeats 16000000 in
theorem inside_any (W H : Nat) (A : Option Addr) (m c : Nat) (cell ox oy X Y : Int) (w : World) (hm : 1 ≤ W ∧ W ≤ 1000000 ∧ 1 ≤ H ∧ H ≤ 1000000) :
    Does Try.prog 42 [.agg #[.int .i64 W, .int .i64 H, .slice A m c, .int .i64 cell, .int .i32 ox, .int .i32 oy], .agg #[.int .i64 X, .int .i64 Y]] [] w (fun v S' => v = .bool (decide (InsP W H X Y)) ∧ S' = []) := by
  refine does_of Try.func42 rfl Try.ntmps42 rfl ⟨by simp, .nil⟩ (fun n => ?_)
  simp only [slots]
  refine z_tas
  all_goals exact j_out1 rfl rfl (.nil _) ⟨congrArg Value.bool (by rw [Bool.eq_iff_iff]; simp only [decide_eq_true_eq, Bool.and_eq_true, Bool.false_eq_true, false_iff]; unfold InsP; omega), rfl⟩
set_option maxHeartbeats 16000000 in
theorem corner_any (X Y : Int) (w : World) (h : (0 ≤ X ∧ X < 4611686018427387904) ∧ (0 ≤ Y ∧ Y < 4611686018427387904)) :
    Does Try.prog 82 [.agg #[.int .i64 X, .int .i64 Y]] [] w (fun v S' => v = .tuple #[.int .i64 (X / 256), .int .i64 (Y / 256), .int .i64 (X % 256), .int .i64 (Y % 256)] ∧ S' = []) := by
  refine does_of Try.func82 rfl Try.ntmps82 rfl ⟨by simp, .nil⟩ (fun n => ?_)
  simp only [slots]
  rw [← and255 h.1.1 h.1.2, ← and255 h.2.1 h.2.2]
  refine z_gob
  all_goals (refine z_ro; exact ⟨rfl, rfl⟩)
theorem four_of {l : List Int} (h : l.length = 4) : ∃ a b c d, l = [a, b, c, d] := by
  match l, h with
  | [a, b, c, d], _ => exact ⟨a, b, c, d, rfl⟩
theorem ints_set (k : IntKind) (xs : List Int) (q : Nat) (v : Int) : (ints k xs).set q (.int k v) = ints k (xs.set q v) := by unfold ints; rw [List.map_set]
theorem and1 : ∀ i : Nat, i < 4 → bits .and .i64 (i : Int) 1 = ((i % 2 : Nat) : Int)
  | 0, _ => by decide
  | 1, _ => by decide
  | 2, _ => by decide
  | 3, _ => by decide
  | n + 4, h => by omega
theorem codeT_stop {W H : Nat} {f : List Int} {X Y : Int} {i : Nat} (h : codeT W H f X Y i ≠ 0) : ∀ k, codeT W H f X Y (i + k) = codeT W H f X Y i
  | 0 => rfl
  | k + 1 => by rw [← Nat.add_assoc, codeT, codeT_stop h k, if_pos h]
set_option maxHeartbeats 64000000 in
theorem four_c (K : CaT) (s : CaV) (f : List Int) (X Y b : Int) (w : World) (hown : Own (K.H s) w) (hF : CaF K.ys f K.room) (h : CaOk K.ys f K.room s b) (hb : b ≤ 900000000000000000) :
    Does Try.prog 81 [.pointer (some ⟨K.g, 0, none⟩), .agg #[.int .i64 X, .int .i64 Y]] (K.H s) w (fun v S' => ∃ s', v = .tuple #[.agg (ints .i64 (fourF (wY K.ys) (hY K.ys) f X Y)).toArray, .int .i64 (codeF (wY K.ys) (hY K.ys) f X Y)] ∧ CaOk K.ys f K.room s' (b + 4) ∧ S' = K.H s') := by
  have hrg := hF.op.rng
  unfold rangeY at hrg
  refine does_of Try.func81 rfl Try.ntmps81 rfl hown (fun n => ?_)
  simp only [slots]
  refine z_tas
  rename_i b3 b4 b6
  refine c_dv (0 :: 1 :: 2 :: 3 :: 4 :: []) ?_; intro _
  refine z_govG
  refine lk rfl rfl rfl (S := K.H s) (fun w hw ho => chart_c K s w ho) ?_
  refine z_govG
  refine lfv rfl rfl rfl (fun w _ => inside_any (wY K.ys) (hY K.ys) none 0 0 _ _ _ X Y w (by omega)) ?_
  by_cases hI : InsP (wY K.ys) (hY K.ys) X Y
  · rw [decide_eq_true hI]
    have hI2 := hI
    unfold InsP at hI2
    refine z_govG
    refine lfv rfl rfl rfl (fun w _ => corner_any X Y w (by omega)) ?_
    refine z_tas
    refine c_loop (X := Nat × CaV) (fun q => q.1 ≤ 4 ∧ codeT (wY K.ys) (hY K.ys) f X Y q.1 = 0 ∧ CaOk K.ys f K.room q.2 (b + q.1)) (fun q => [(0, .pointer (some ⟨K.g, 0, none⟩)), (4, .pointer (some ⟨b4, 0, none⟩)), (6, .pointer (some ⟨b6, 0, none⟩)), (7, .int .i64 (X / 256)), (8, .int .i64 (Y / 256)), (9, .int .i64 (X % 256)), (10, .int .i64 (Y % 256)), (29, .int .i64 q.1)])
      (fun q => K.HC q.2 [.blk b6 164 (ints .i64 (zT (wY K.ys) (hY K.ys) f X Y q.1)), .blk b4 164 [.int .i64 0, .int .i64 0, .int .i64 0, .int .i64 0], .blk b3 61 [.int .i64 X, .int .i64 Y]]) (fun q => 4 - q.1) (0, s) ⟨by omega, rfl, by simpa using h⟩ ⟨rfl, rfl, rfl, rfl, rfl, rfl, rfl, rfl, trivial⟩ (by show Sub (K.HC s (.blk b6 _ [.int .i64 0, .int .i64 0, .int .i64 0, .int .i64 0] :: _)) _; exact Sub.au) ?_
    rintro ⟨i, s1⟩ ⟨hi, hc0, hs⟩
    dsimp only at hi hc0 hs ⊢
    have hzl := zT_len (wY K.ys) (hY K.ys) f X Y i
    rcases Nat.lt_or_ge i 4 with h4 | h4
    · have ha := and1 i h4
      have hd : (i : Int) / 2 ^ 1 = ((i / 2 : Nat) : Int) := by omega
      have hci := heightF_in (W := wY K.ys) (H := hY K.ys) hF.good.1
      have ec : codeT (wY K.ys) (hY K.ys) f X Y (i + 1) = (corH (wY K.ys) (hY K.ys) f X Y i).2 := by rw [codeT, if_neg (by rw [hc0]; simp)]
      have ez : zT (wY K.ys) (hY K.ys) f X Y (i + 1) = (zT (wY K.ys) (hY K.ys) f X Y i).set i (corH (wY K.ys) (hY K.ys) f X Y i).1 := rfl
      have o1 : SetAt (ints .i64 (zT (wY K.ys) (hY K.ys) f X Y i)) i (.int .i64 (heightF (wY K.ys) (hY K.ys) f (corX X (i % 2)) (corX Y (i / 2))).1) (ints .i64 (zT (wY K.ys) (hY K.ys) f X Y (i + 1))) := ⟨by rw [ints_set, ez]; rfl, by rw [ints_len, hzl]; exact h4⟩
      have hc1 := hci (corX X (i % 2)) (corX Y (i / 2))
      refine z_tas
      all_goals
        refine j_set 44 _ rfl (v' := .int .i64 (corX X (i % 2))) (congrArg (Value.int .i64) (by unfold corX; first | rw [if_pos (by assumption)] | rw [if_neg (by assumption), ha])) ?_
        refine j_set 47 _ rfl (v' := .int .i64 (corX Y (i / 2))) (congrArg (Value.int .i64) (by unfold corX; first | rw [if_pos (by assumption)] | rw [if_neg (by assumption), hd])) ?_
        refine lf rfl rfl rfl (S := K.H s1) (fun w hw ho => height_c K s1 f (corX X (i % 2)) (corX Y (i / 2)) (b + i) w ho hF hs (by omega)) ?_
        rintro v S' ⟨s', rfl, g1, rfl⟩
        have k1 := g1.ok hF hs
        refine z_gox
        refine c_if rfl ?_ ?_ <;> intro h9
        · have e4 : codeT (wY K.ys) (hY K.ys) f X Y (i + 1 + (3 - i)) = _ := codeT_stop (by rw [ec]; exact h9) _
          rw [show i + 1 + (3 - i) = 4 by omega, ec] at e4
          have e5 : codeF (wY K.ys) (hY K.ys) f X Y = (heightF (wY K.ys) (hY K.ys) f (corX X (i % 2)) (corX Y (i / 2))).2 := by unfold codeF; rw [if_pos hI, e4]; rfl
          rw [show fourF (wY K.ys) (hY K.ys) f X Y = [0, 0, 0, 0] by unfold fourF; rw [e5, if_neg h9], e5]
          refine z_gox
          refine lb0 rfl rfl ?_
          refine z_gox
          refine j_outK (S' := K.H s') Sub.au ?_
          refine z_rk
          exact ⟨s', rfl, k1.mono (by omega), rfl⟩
        · refine z_tas
          exact c_round (i + 1, s') ⟨h4, by rw [ec]; exact Classical.not_not.1 h9, k1.mono (by omega)⟩ (by show 4 - (i + 1) < 4 - i; omega) ⟨rfl, rfl, rfl, rfl, rfl, rfl, rfl, by simp [look], trivial⟩ Sub.au
    · obtain rfl : i = 4 := by omega
      have e5 : codeF (wY K.ys) (hY K.ys) f X Y = 0 := by unfold codeF; rw [if_pos hI, hc0]
      rw [show fourF (wY K.ys) (hY K.ys) f X Y = zT (wY K.ys) (hY K.ys) f X Y 4 by unfold fourF; rw [if_pos e5], e5]
      generalize zT (wY K.ys) (hY K.ys) f X Y 4 = L at *
      obtain ⟨z0, z1, z2, z3, rfl⟩ := four_of hzl
      simp only [ints, List.map_cons, List.map_nil]
      refine z_tas
      refine j_outK (S' := K.H s1) Sub.au ?_
      refine z_rk
      exact ⟨s1, rfl, hs, rfl⟩
  · rw [decide_eq_false hI]
    have ec : codeF (wY K.ys) (hY K.ys) f X Y = 9 := if_neg hI
    have ef : fourF (wY K.ys) (hY K.ys) f X Y = [0, 0, 0, 0] := by unfold fourF; rw [ec]; rfl
    rw [ec, ef]
    refine z_govG
    refine j_outK (S' := K.H s) Sub.au ?_
    refine z_rk
    exact ⟨s, rfl, h.mono (by omega), rfl⟩
end Go.Proofs.Ytpmomimaihjmjaa
/- Package terrain: Height, Slope. -/
namespace Go.Proofs.Ytpmomimaihjmjaa
open Go.RowKit
/-- The ground at a place, times 65536. -/
def exF (a b c d fx fy : Int) : Int := (a * (256 - fx) + b * fx) * (256 - fy) + (c * (256 - fx) + d * fx) * fy
def exL : List Int → Int → Int → Int
  | [a, b, c, d], fx, fy => exF a b c d fx fy
  | _, _, _ => 0
def heightT (W H : Nat) (f : List Int) (X Y : Int) : Int := if codeF W H f X Y = 0 then (2 * (exL (fourF W H f X Y) (X % 256) (Y % 256) * 16) + 65536) / (2 * 65536) else 0
def slX : List Int → Int → Int
  | [a, b, c, d], fy => (b - a) * (256 - fy) + (d - c) * fy
  | _, _ => 0
def slY : List Int → Int → Int
  | [a, b, c, d], fx => (c - a) * (256 - fx) + (d - b) * fx
  | _, _ => 0
def slopeT (W H : Nat) (f : List Int) (X Y : Int) : Int × Int := if codeF W H f X Y = 0 then ((2 * (slX (fourF W H f X Y) (Y % 256) * 16) + 256) / (2 * 256), (2 * (slY (fourF W H f X Y) (X % 256) * 16) + 256) / (2 * 256)) else (0, 0)
theorem zT_in {W H : Nat} {f : List Int} (hf : In16 f) (X Y : Int) : ∀ i, ∀ z ∈ zT W H f X Y i, -32768 ≤ z ∧ z ≤ 32767
  | 0, z, hz => by simp [zT] at hz; omega
  | i + 1, z, hz => by
    rw [zT] at hz
    rcases List.mem_or_eq_of_mem_set hz with h | h
    · exact zT_in hf X Y i z h
    · rw [h]; exact heightF_in hf _ _
theorem fourF_in {W H : Nat} {f : List Int} (hf : In16 f) (X Y : Int) : ∃ a b c d, fourF W H f X Y = [a, b, c, d] ∧ (-32768 ≤ a ∧ a ≤ 32767) ∧ (-32768 ≤ b ∧ b ≤ 32767) ∧ (-32768 ≤ c ∧ c ≤ 32767) ∧ (-32768 ≤ d ∧ d ≤ 32767) := by
  unfold fourF
  split
  · obtain ⟨a, b, c, d, e⟩ := four_of (zT_len W H f X Y 4)
    have h := zT_in hf (W := W) (H := H) X Y 4
    rw [e] at h ⊢
    exact ⟨a, b, c, d, rfl, h a (by simp), h b (by simp), h c (by simp), h d (by simp)⟩
  · exact ⟨0, 0, 0, 0, rfl, by omega, by omega, by omega, by omega⟩
theorem exF_in {a b c d fx fy : Int} (h : (-32768 ≤ a ∧ a ≤ 32767) ∧ (-32768 ≤ b ∧ b ≤ 32767) ∧ (-32768 ≤ c ∧ c ≤ 32767) ∧ (-32768 ≤ d ∧ d ≤ 32767)) (hx : 0 ≤ fx ∧ fx < 256) (hy : 0 ≤ fy ∧ fy < 256) :
    (-8388608 ≤ a * (256 - fx) ∧ a * (256 - fx) ≤ 8388608) ∧ (-8388608 ≤ b * fx ∧ b * fx ≤ 8388608) ∧ (-8388608 ≤ c * (256 - fx) ∧ c * (256 - fx) ≤ 8388608) ∧ (-8388608 ≤ d * fx ∧ d * fx ≤ 8388608) ∧
    (-4294967296 ≤ (a * (256 - fx) + b * fx) * (256 - fy) ∧ (a * (256 - fx) + b * fx) * (256 - fy) ≤ 4294967296) ∧ (-4294967296 ≤ (c * (256 - fx) + d * fx) * fy ∧ (c * (256 - fx) + d * fx) * fy ≤ 4294967296) := by
  have m1 := mulB 32768 256 (a := a) (b := 256 - fx) (by omega) (by omega)
  have m2 := mulB 32768 256 (a := b) (b := fx) (by omega) (by omega)
  have m3 := mulB 32768 256 (a := c) (b := 256 - fx) (by omega) (by omega)
  have m4 := mulB 32768 256 (a := d) (b := fx) (by omega) (by omega)
  have m5 := mulB 16777216 256 (a := a * (256 - fx) + b * fx) (b := 256 - fy) (by omega) (by omega)
  have m6 := mulB 16777216 256 (a := c * (256 - fx) + d * fx) (b := fy) (by omega) (by omega)
  omega
attribute [local irreducible] OJ J HdJ Code.wpIn wpListIn Oper.wpIn bodyPost CallsIn Does
set_option maxRecDepth 4000
set_option maxHeartbeats 16000000 in
theorem exact_any (a b c d fx fy : Int) (w : World) (h : (-32768 ≤ a ∧ a ≤ 32767) ∧ (-32768 ≤ b ∧ b ≤ 32767) ∧ (-32768 ≤ c ∧ c ≤ 32767) ∧ (-32768 ≤ d ∧ d ≤ 32767)) (hx : 0 ≤ fx ∧ fx < 256) (hy : 0 ≤ fy ∧ fy < 256) :
    Does Try.prog 84 [.agg #[.int .i64 a, .int .i64 b, .int .i64 c, .int .i64 d], .int .i64 fx, .int .i64 fy] [] w (fun v S' => v = .int .i64 (exF a b c d fx fy) ∧ S' = []) := by
  obtain ⟨m1, m2, m3, m4, m5, m6⟩ := exF_in h hx hy
  refine does_of Try.func84 rfl Try.ntmps84 rfl ⟨by simp, .nil⟩ (fun n => ?_)
  simp only [slots]
  refine z_tas
  exact j_out1 rfl rfl (.nil _) ⟨rfl, rfl⟩
set_option maxHeartbeats 64000000 in
theorem height_t (K : CaT) (s : CaV) (f : List Int) (X Y b : Int) (w : World) (hown : Own (K.H s) w) (hF : CaF K.ys f K.room) (h : CaOk K.ys f K.room s b) (hb : b ≤ 900000000000000000) :
    Does Try.prog 41 [.pointer (some ⟨K.g, 0, none⟩), .agg #[.int .i64 X, .int .i64 Y]] (K.H s) w (fun v S' => ∃ s', v = .tuple #[.int .i64 (heightT (wY K.ys) (hY K.ys) f X Y), .int .i64 (codeF (wY K.ys) (hY K.ys) f X Y)] ∧ CaOk K.ys f K.room s' (b + 4) ∧ S' = K.H s') := by
  have hrg := hF.op.rng
  unfold rangeY at hrg
  refine does_of Try.func41 rfl Try.ntmps41 rfl hown (fun n => ?_)
  simp only [slots]
  refine z_tas
  refine lf rfl rfl rfl (S := K.H s) (fun w hw ho => four_c K s f X Y b w ho hF h hb) ?_
  rintro v S' ⟨s', rfl, k1, rfl⟩
  obtain ⟨z0, z1, z2, z3, e4, hz⟩ := fourF_in (W := wY K.ys) (H := hY K.ys) hF.good.1 X Y
  unfold heightT
  rw [e4]
  simp only [ints, List.map_cons, List.map_nil, exL]
  by_cases hc : codeF (wY K.ys) (hY K.ys) f X Y = 0
  · have hI : InsP (wY K.ys) (hY K.ys) X Y := by
      unfold codeF at hc
      split at hc
      · assumption
      · exact absurd hc (by decide)
    unfold InsP at hI
    rw [if_pos hc, hc]
    have hex := exF_in (fx := X % 256) (fy := Y % 256) hz (by omega) (by omega)
    have he : -8589934592 ≤ exF z0 z1 z2 z3 (X % 256) (Y % 256) ∧ exF z0 z1 z2 z3 (X % 256) (Y % 256) ≤ 8589934592 := by unfold exF; omega
    refine z_tas
    refine lfv rfl rfl rfl (fun w _ => corner_any X Y w (by omega)) ?_
    refine z_tas
    refine lfv rfl rfl rfl (fun w _ => exact_any z0 z1 z2 z3 (X % 256) (Y % 256) w hz (by omega) (by omega)) ?_
    refine z_tas
    refine j_out2 rfl rfl rfl Sub.au ⟨s', ?_, k1, rfl⟩
    rw [divV_near (by decide)]
  · rw [if_neg hc]
    refine z_tas
    all_goals exact j_out2 rfl rfl rfl Sub.au ⟨s', rfl, k1, rfl⟩
theorem sl_in {a b c d fy : Int} (h : (-32768 ≤ a ∧ a ≤ 32767) ∧ (-32768 ≤ b ∧ b ≤ 32767) ∧ (-32768 ≤ c ∧ c ≤ 32767) ∧ (-32768 ≤ d ∧ d ≤ 32767)) (hy : 0 ≤ fy ∧ fy < 256) : (-16777216 ≤ (b - a) * (256 - fy) ∧ (b - a) * (256 - fy) ≤ 16777216) ∧ (-16777216 ≤ (d - c) * fy ∧ (d - c) * fy ≤ 16777216) := by
  have m1 := mulB 65536 256 (a := b - a) (b := 256 - fy) (by omega) (by omega)
  have m2 := mulB 65536 256 (a := d - c) (b := fy) (by omega) (by omega)
  omega
set_option maxHeartbeats 64000000 in
theorem slope_t (K : CaT) (s : CaV) (f : List Int) (X Y b : Int) (w : World) (hown : Own (K.H s) w) (hF : CaF K.ys f K.room) (h : CaOk K.ys f K.room s b) (hb : b ≤ 900000000000000000) :
    Does Try.prog 47 [.pointer (some ⟨K.g, 0, none⟩), .agg #[.int .i64 X, .int .i64 Y]] (K.H s) w (fun v S' => ∃ s', v = .tuple #[.int .i64 (slopeT (wY K.ys) (hY K.ys) f X Y).1, .int .i64 (slopeT (wY K.ys) (hY K.ys) f X Y).2, .int .i64 (codeF (wY K.ys) (hY K.ys) f X Y)] ∧ CaOk K.ys f K.room s' (b + 4) ∧ S' = K.H s') := by
  have hrg := hF.op.rng
  unfold rangeY at hrg
  refine does_of Try.func47 rfl Try.ntmps47 rfl hown (fun n => ?_)
  simp only [slots]
  refine z_tas
  refine lf rfl rfl rfl (S := K.H s) (fun w hw ho => four_c K s f X Y b w ho hF h hb) ?_
  rintro v S' ⟨s', rfl, k1, rfl⟩
  obtain ⟨z0, z1, z2, z3, e4, hz⟩ := fourF_in (W := wY K.ys) (H := hY K.ys) hF.good.1 X Y
  unfold slopeT
  rw [e4]
  simp only [ints, List.map_cons, List.map_nil, slX, slY]
  by_cases hc : codeF (wY K.ys) (hY K.ys) f X Y = 0
  · have hI : InsP (wY K.ys) (hY K.ys) X Y := by
      unfold codeF at hc
      split at hc
      · assumption
      · exact absurd hc (by decide)
    unfold InsP at hI
    rw [if_pos hc, hc]
    have hs1 := sl_in (fy := Y % 256) hz (by omega)
    have hs2 := sl_in (fy := X % 256) (a := z0) (b := z2) (c := z1) (d := z3) ⟨hz.1, hz.2.2.1, hz.2.1, hz.2.2.2⟩ (by omega)
    refine z_tas
    refine lfv rfl rfl rfl (fun w _ => corner_any X Y w (by omega)) ?_
    refine z_tas
    refine j_outK (S' := K.H s') Sub.au ?_
    refine z_rk
    refine ⟨s', ?_, k1, rfl⟩
    rw [divV_near (by decide), divV_near (by decide)]
    rfl
  · rw [if_neg hc]
    refine z_tas
    all_goals (refine j_outK (S' := K.H s') Sub.au ?_; refine z_rk; exact ⟨s', rfl, k1, rfl⟩)
end Go.Proofs.Ytpmomimaihjmjaa
/- Package terrain: Spot, Metres, within. -/
namespace Go.Proofs.Ytpmomimaihjmjaa
open Go.RowKit
def Far40 (x : Int) : Prop := x < -1099511627776 ∨ 1099511627776 < x
instance (x : Int) : Decidable (Far40 x) := by unfold Far40; infer_instance
attribute [local irreducible] OJ J HdJ Code.wpIn wpListIn Oper.wpIn bodyPost CallsIn Does
set_option maxRecDepth 4000
set_option maxHeartbeats 64000000 in
theorem spot_any (W H : Int) (A : Option Addr) (m c : Nat) (cell ox oy east north : Int) (w : World) (hc : 1 ≤ cell ∧ cell ≤ 1000) (hox : InR .i32 ox) (hoy : InR .i32 oy) :
    Does Try.prog 51 [.agg #[.int .i64 W, .int .i64 H, .slice A m c, .int .i64 cell, .int .i32 ox, .int .i32 oy], .int .i64 east, .int .i64 north] [] w (fun v S' => v = (if Far40 east ∨ Far40 north then .tuple #[.agg #[.int .i64 0, .int .i64 0], .bool false] else .tuple #[.agg #[.int .i64 ((east - ox) * 256 / cell), .int .i64 ((north - oy) * 256 / cell)], .bool true]) ∧ S' = []) := by
  refine does_of Try.func51 rfl Try.ntmps51 rfl ⟨by simp, .nil⟩ (fun n => ?_)
  simp only [slots]
  by_cases hf : Far40 east ∨ Far40 north
  · rw [if_pos hf]
    unfold Far40 at hf
    refine z_tas
    all_goals first
      | (exfalso; omega)
      | (refine z_ro; exact ⟨rfl, rfl⟩)
  · rw [if_neg hf]
    unfold Far40 at hf
    refine z_tas
    all_goals first
      | (exfalso; omega)
      | (refine z_ro; refine ⟨?_, rfl⟩; rw [divV_down (by omega), divV_down (by omega)]; rfl)
set_option maxHeartbeats 64000000 in
theorem metres_any (W H : Int) (A : Option Addr) (m c : Nat) (cell ox oy X Y : Int) (w : World) (hc : 1 ≤ cell ∧ cell ≤ 1000) (hox : InR .i32 ox) (hoy : InR .i32 oy) :
    Does Try.prog 53 [.agg #[.int .i64 W, .int .i64 H, .slice A m c, .int .i64 cell, .int .i32 ox, .int .i32 oy], .agg #[.int .i64 X, .int .i64 Y]] [] w (fun v S' => v = (if Far40 X ∨ Far40 Y then .tuple #[.int .i64 0, .int .i64 0, .bool false] else .tuple #[.int .i64 ((2 * (X * cell) + 256) / (2 * 256) + ox), .int .i64 ((2 * (Y * cell) + 256) / (2 * 256) + oy), .bool true]) ∧ S' = []) := by
  refine does_of Try.func53 rfl Try.ntmps53 rfl ⟨by simp, .nil⟩ (fun n => ?_)
  simp only [slots]
  by_cases hf : Far40 X ∨ Far40 Y
  · rw [if_pos hf]
    unfold Far40 at hf
    refine z_tas
    all_goals first
      | (exfalso; omega)
      | (refine z_ro; exact ⟨rfl, rfl⟩)
  · rw [if_neg hf]
    unfold Far40 at hf
    have m1 := mulB 1099511627776 1000 (a := X) (b := cell) (by omega) (by omega)
    have m2 := mulB 1099511627776 1000 (a := Y) (b := cell) (by omega) (by omega)
    have e1 : divV (X * cell) 256 2 = (2 * (X * cell) + 256) / (2 * 256) := divV_near (by decide)
    have e2 : divV (Y * cell) 256 2 = (2 * (Y * cell) + 256) / (2 * 256) := divV_near (by decide)
    rw [← e1, ← e2]
    have b1 : -1099511627776001 ≤ divV (X * cell) 256 2 ∧ divV (X * cell) 256 2 ≤ 1099511627776001 := by rw [e1]; omega
    have b2 : -1099511627776001 ≤ divV (Y * cell) 256 2 ∧ divV (Y * cell) 256 2 ≤ 1099511627776001 := by rw [e2]; omega
    refine z_gob
    all_goals first
      | (exfalso; omega)
      | (refine z_ro; exact ⟨rfl, rfl⟩)
      | trace_state
theorem within_any (x d : Int) (w : World) (hd : -8 ≤ d ∧ d ≤ 8) : Does Try.prog 86 [.int .i64 x, .int .i64 d] [] w (fun v S' => v = .int .i64 (if x < -1000 ∨ 1000 < x then -1 else x + d) ∧ S' = []) := by
  refine does_of Try.func86 rfl Try.ntmps86 rfl ⟨by simp, .nil⟩ (fun n => ?_)
  simp only [slots]
  by_cases h : x < -1000 ∨ 1000 < x
  · rw [if_pos h]
    refine z_tas
    all_goals first
      | exact j_out1 rfl rfl (.nil _) ⟨rfl, rfl⟩
      | (exfalso; omega)
  · rw [if_neg h]
    refine z_tas
    all_goals first
      | (exfalso; omega)
      | exact j_out1 rfl rfl (.nil _) ⟨rfl, rfl⟩
end Go.Proofs.Ytpmomimaihjmjaa
/- Package terrain: Rough. -/
namespace Go.Proofs.Ytpmomimaihjmjaa
open Go.RowKit
def sumZ : List Int → Int
  | [] => 0
  | x :: r => x + sumZ r
def sqZ : List Int → Int
  | [] => 0
  | x :: r => x * x + sqZ r
theorem sumZ_app : ∀ a b : List Int, sumZ (a ++ b) = sumZ a + sumZ b
  | [], b => by simp [sumZ]
  | x :: r, b => by rw [List.cons_append, sumZ, sumZ, sumZ_app r b]; omega
theorem sqZ_app : ∀ a b : List Int, sqZ (a ++ b) = sqZ a + sqZ b
  | [], b => by simp [sqZ]
  | x :: r, b => by rw [List.cons_append, sqZ, sqZ, sqZ_app r b]; omega
theorem sum_in : ∀ l : List Int, (∀ z ∈ l, -32768 ≤ z ∧ z ≤ 32767) → (-(32768 * (l.length : Int)) ≤ sumZ l ∧ sumZ l ≤ 32768 * (l.length : Int)) ∧ 0 ≤ sqZ l ∧ sqZ l ≤ 1073741824 * (l.length : Int)
  | [], _ => by simp [sumZ, sqZ]
  | x :: r, h => by
    have h1 := sum_in r fun z hz => h z (List.mem_cons_of_mem _ hz)
    have h2 := h x (List.mem_cons_self ..)
    have h3 := mulB 32768 32768 (a := x) (b := x) (by omega) (by omega)
    have h4 : 0 ≤ x * x := by
      rcases Int.lt_or_le x 0 with h | h
      · exact Int.le_of_lt (Int.mul_pos_of_neg_of_neg h h)
      · exact Int.mul_nonneg h h
    simp only [sumZ, sqZ, List.length_cons]
    push_cast
    omega
def wiF (x d : Int) : Int := if x < -1000 ∨ 1000 < x then -1 else x + d
def hAt (W H : Nat) (f : List Int) (x y dx dy : Int) : List Int := if (heightF W H f (wiF x dx) (wiF y dy)).2 = 0 then [(heightF W H f (wiF x dx) (wiF y dy)).1] else []
/-- The heights of a row of a square; of all its rows. -/
def rowH (W H : Nat) (f : List Int) (x y : Int) (far : Nat) (dy : Int) : Nat → List Int
  | 0 => []
  | j + 1 => rowH W H f x y far dy j ++ hAt W H f x y ((j : Int) - far) dy
def allH (W H : Nat) (f : List Int) (x y : Int) (far : Nat) : Nat → List Int
  | 0 => []
  | i + 1 => allH W H f x y far i ++ rowH W H f x y far ((i : Int) - far) (2 * far + 1)
theorem hAt_in {W H : Nat} {f : List Int} (hf : In16 f) (x y dx dy : Int) : (hAt W H f x y dx dy).length ≤ 1 ∧ ∀ z ∈ hAt W H f x y dx dy, -32768 ≤ z ∧ z ≤ 32767 := by
  unfold hAt
  split
  · exact ⟨Nat.le_refl _, fun z hz => by rw [List.mem_singleton.1 hz]; exact heightF_in hf _ _⟩
  · exact ⟨Nat.zero_le _, fun z hz => by cases hz⟩
theorem rowH_in {W H : Nat} {f : List Int} (hf : In16 f) (x y : Int) (far : Nat) (dy : Int) : ∀ j, (rowH W H f x y far dy j).length ≤ j ∧ ∀ z ∈ rowH W H f x y far dy j, -32768 ≤ z ∧ z ≤ 32767
  | 0 => ⟨Nat.le_refl _, fun z hz => by cases hz⟩
  | j + 1 => by
    obtain ⟨h1, h2⟩ := rowH_in hf (W := W) (H := H) x y far dy j
    obtain ⟨h3, h4⟩ := hAt_in hf (W := W) (H := H) x y ((j : Int) - far) dy
    rw [rowH]
    refine ⟨by rw [List.length_append]; omega, fun z hz => ?_⟩
    rcases List.mem_append.1 hz with h | h
    · exact h2 z h
    · exact h4 z h
theorem allH_in {W H : Nat} {f : List Int} (hf : In16 f) (x y : Int) {far : Nat} (hfar : far ≤ 8) : ∀ i, (allH W H f x y far i).length ≤ 17 * i ∧ ∀ z ∈ allH W H f x y far i, -32768 ≤ z ∧ z ≤ 32767
  | 0 => ⟨Nat.le_refl _, fun z hz => by cases hz⟩
  | i + 1 => by
    obtain ⟨h1, h2⟩ := allH_in hf (W := W) (H := H) x y hfar i
    obtain ⟨h3, h4⟩ := rowH_in hf (W := W) (H := H) x y far ((i : Int) - far) (2 * far + 1)
    rw [allH]
    refine ⟨by rw [List.length_append]; omega, fun z hz => ?_⟩
    rcases List.mem_append.1 hz with h | h
    · exact h2 z h
    · exact h4 z h
theorem lfc {F : Fence} {n : Nat} {P : Program} {N : Nat} {ds : List Deferred} {w0 : World} {W : Nat → Prop} {σ : List (Nat × Value)} {H R S : List HE} {Q : Exit → Act → World → Prop} {ops : Array Oper} {rest : List Oper} {d : Nat} {ty : TypeId} {pos : String} {aft : Array Edge} {gd : Option (Nat × Bool)} {us : List Value} {Rl : Value → List HE → Prop} [Wide F] [WF F] {x : Operand} {f : FuncId} {captured : Array Value} {args : Array Operand} {ts : Array TypeId} [Cl P f]
    (hw : wantd ops σ ⟨some d, .call ⟨.value x, args, ts⟩, ty, pos, aft, gd⟩ = some true) (hx : ev σ x = some (.func (.func f) #[] captured)) (hv : vals σ args.toList = some us) (hdN : Nat.blt d N = true)
    (hc : ∀ w, St w0 W H w → Own S w → Does P f (us ++ captured.toList) S w Rl) [hs : SplitC H S R] (h : ∀ v S', Rl v S' → J N ds w0 W ((d, v) :: σ) (S' ++ R) (wpListIn F n P ops Q rest)) :
    J N ds w0 W σ H (wpListIn F n P ops Q (⟨some d, .call ⟨.value x, args, ts⟩, ty, pos, aft, gd⟩ :: rest)) :=
  l_run hw (o_call hx hv hs.h hc fun v S' hr a w ha hw => h v S' hr _ _ (ha.put d v (by simpa using hdN)) hw)
/-- The three sums. -/
@[reducible] def sumsE (bs bq bn : Nat) (L : List Int) : List HE := [.blk bs 2 [.int .i64 (sumZ L)], .blk bq 2 [.int .i64 (sqZ L)], .blk bn 2 [.int .i64 (L.length : Nat)]]
/-- What the walk over a square captures. -/
@[reducible] def rgE (K : CaT) (bf bc bx by' far : Nat) (x y : Int) (T : List HE) : List HE := .blk bf 3 [.int .i64 far] :: .blk bc 31 [.pointer (some ⟨K.g, 0, none⟩)] :: .blk bx 3 [.int .i64 x] :: .blk by' 3 [.int .i64 y] :: T
@[reducible] def accV (bs bq bn : Nat) : Value := .func (.func 87) #[] #[.pointer (some ⟨bs, 0, none⟩), .pointer (some ⟨bq, 0, none⟩), .pointer (some ⟨bn, 0, none⟩)]
attribute [local irreducible] OJ J HdJ Code.wpIn wpListIn Oper.wpIn bodyPost CallsIn Does
set_option maxRecDepth 4000
set_option maxHeartbeats 16000000 in
theorem rough2_any (bs bq bn : Nat) (L : List Int) (z : Int) (w : World) (hown : Own (sumsE bs bq bn L) w) (hL : ∀ z ∈ L, -32768 ≤ z ∧ z ≤ 32767) (hl : L.length ≤ 1000) (hz : -32768 ≤ z ∧ z ≤ 32767) :
    Does Try.prog 87 [.int .i64 z, .pointer (some ⟨bs, 0, none⟩), .pointer (some ⟨bq, 0, none⟩), .pointer (some ⟨bn, 0, none⟩)] (sumsE bs bq bn L) w (fun v S' => S' = sumsE bs bq bn (L ++ [z])) := by
  have h1 := sum_in L hL
  have h3 := mulB 32768 32768 (a := z) (b := z) (by omega) (by omega)
  refine does_of Try.func87 rfl Try.ntmps87 rfl hown (fun n => ?_)
  simp only [slots]
  refine z_tas
  rw [show sumZ L + z = sumZ (L ++ [z]) by rw [sumZ_app]; simp [sumZ], show sqZ L + z * z = sqZ (L ++ [z]) by rw [sqZ_app]; simp [sqZ], show (L.length : Int) + 1 = ((L ++ [z]).length : Nat) by simp]
  exact j_outN rfl Sub.au rfl
set_option maxHeartbeats 64000000 in
theorem rough1_any (K : CaT) (s : CaV) (f : List Int) (x y b : Int) (far bf bc bx by' bs bq bn : Nat) (w : World) (hfar : far ≤ 8) (hF : CaF K.ys f K.room) (h : CaOk K.ys f K.room s b) (hb : b ≤ 900000000000000000)
    (hown : Own (K.HC s (rgE K bf bc bx by' far x y (sumsE bs bq bn []))) w) :
    Does Try.prog 85 [accV bs bq bn, .pointer (some ⟨bf, 0, none⟩), .pointer (some ⟨bc, 0, none⟩), .pointer (some ⟨bx, 0, none⟩), .pointer (some ⟨by', 0, none⟩)] (K.HC s (rgE K bf bc bx by' far x y (sumsE bs bq bn []))) w
      (fun v S' => ∃ s', CaOk K.ys f K.room s' (b + 400) ∧ S' = K.HC s' (rgE K bf bc bx by' far x y (sumsE bs bq bn (allH (wY K.ys) (hY K.ys) f x y far (2 * far + 1))))) := by
  refine does_of Try.func85 rfl Try.ntmps85 rfl hown (fun n => ?_)
  simp only [slots]
  refine z_tas
  refine c_loop (X := Nat × CaV) (fun q => q.1 ≤ 2 * far + 1 ∧ CaOk K.ys f K.room q.2 (b + 17 * q.1)) (fun q => [(0, accV bs bq bn), (1, .pointer (some ⟨bf, 0, none⟩)), (2, .pointer (some ⟨bc, 0, none⟩)), (3, .pointer (some ⟨bx, 0, none⟩)), (4, .pointer (some ⟨by', 0, none⟩)), (6, .int .i64 ((q.1 : Int) - far))])
    (fun q => K.HC q.2 (rgE K bf bc bx by' far x y (sumsE bs bq bn (allH (wY K.ys) (hY K.ys) f x y far q.1)))) (fun q => 2 * far + 1 - q.1) (0, s) ⟨by omega, by simpa using h⟩ ⟨rfl, rfl, rfl, rfl, rfl, by simp [look], trivial⟩ (Sub.refl _) ?_
  rintro ⟨i, s1⟩ ⟨hi, hs1⟩
  dsimp only at hi hs1 ⊢
  obtain ⟨a1, a2⟩ := allH_in hF.good.1 (W := wY K.ys) (H := hY K.ys) x y hfar i
  rcases Nat.lt_or_ge i (2 * far + 1) with h1 | h1
  · refine z_tas
    refine c_loop (X := Nat × CaV) (fun q => q.1 ≤ 2 * far + 1 ∧ CaOk K.ys f K.room q.2 (b + 17 * i + q.1)) (fun q => [(0, accV bs bq bn), (1, .pointer (some ⟨bf, 0, none⟩)), (2, .pointer (some ⟨bc, 0, none⟩)), (3, .pointer (some ⟨bx, 0, none⟩)), (4, .pointer (some ⟨by', 0, none⟩)), (6, .int .i64 ((i : Int) - far)), (7, .int .i64 ((q.1 : Int) - far))])
      (fun q => K.HC q.2 (rgE K bf bc bx by' far x y (sumsE bs bq bn (allH (wY K.ys) (hY K.ys) f x y far i ++ rowH (wY K.ys) (hY K.ys) f x y far ((i : Int) - far) q.1)))) (fun q => 2 * far + 1 - q.1) (0, s1) ⟨by omega, by simpa using hs1⟩ ⟨rfl, rfl, rfl, rfl, rfl, rfl, by simp [look], trivial⟩ (by rw [show rowH (wY K.ys) (hY K.ys) f x y far ((i : Int) - far) 0 = [] from rfl, List.append_nil]; exact Sub.refl _) ?_
    rintro ⟨j, s2⟩ ⟨hj, hs2⟩
    dsimp only at hj hs2 ⊢
    obtain ⟨c1, c2⟩ := rowH_in hF.good.1 (W := wY K.ys) (H := hY K.ys) x y far ((i : Int) - far) j
    have hlen : (allH (wY K.ys) (hY K.ys) f x y far i ++ rowH (wY K.ys) (hY K.ys) f x y far ((i : Int) - far) j).length ≤ 1000 := by rw [List.length_append]; omega
    have hmem : ∀ z ∈ allH (wY K.ys) (hY K.ys) f x y far i ++ rowH (wY K.ys) (hY K.ys) f x y far ((i : Int) - far) j, -32768 ≤ z ∧ z ≤ 32767 := fun z hz => by
      rcases List.mem_append.1 hz with h | h
      · exact a2 z h
      · exact c2 z h
    rcases Nat.lt_or_ge j (2 * far + 1) with h2 | h2
    · have er : rowH (wY K.ys) (hY K.ys) f x y far ((i : Int) - far) (j + 1) = rowH (wY K.ys) (hY K.ys) f x y far ((i : Int) - far) j ++ hAt (wY K.ys) (hY K.ys) f x y ((j : Int) - far) ((i : Int) - far) := rfl
      generalize hLe : allH (wY K.ys) (hY K.ys) f x y far i = LA at *
      refine z_tas
      refine c_dvL [.blk bc 31 [.pointer (some ⟨K.g, 0, none⟩)], .blk bx 3 [.int .i64 x], .blk by' 3 [.int .i64 y]] (0 :: 1 :: 2 :: 3 :: 4 :: 5 :: 6 :: 7 :: 8 :: 9 :: 10 :: 11 :: 12 :: []) Sub.au ?_; intro _
      refine z_govG
      refine lfv rfl rfl rfl (fun w _ => within_any x ((j : Int) - far) w (by omega)) ?_
      refine z_govG
      refine lfv rfl rfl rfl (fun w _ => within_any y ((i : Int) - far) w (by omega)) ?_
      refine z_govG
      refine lf rfl rfl rfl (S := K.H s2) (fun w hw ho => height_c K s2 f (wiF x ((j : Int) - far)) (wiF y ((i : Int) - far)) (b + 17 * i + j) w ho hF hs2 (by omega)) ?_
      rintro v S' ⟨s3, rfl, g1, rfl⟩
      have k1 := g1.ok hF hs2
      have hz := heightF_in (W := wY K.ys) (H := hY K.ys) hF.good.1 (wiF x ((j : Int) - far)) (wiF y ((i : Int) - far))
      have ex : hAt (wY K.ys) (hY K.ys) f x y ((j : Int) - far) ((i : Int) - far) = if (heightF (wY K.ys) (hY K.ys) f (wiF x ((j : Int) - far)) (wiF y ((i : Int) - far))).2 = 0 then [(heightF (wY K.ys) (hY K.ys) f (wiF x ((j : Int) - far)) (wiF y ((i : Int) - far))).1] else [] := rfl
      generalize heightF (wY K.ys) (hY K.ys) f (wiF x ((j : Int) - far)) (wiF y ((i : Int) - far)) = hh at *
      refine z_govG
      · rename_i h0
        refine lfc rfl rfl rfl rfl (S := sumsE bs bq bn (LA ++ rowH (wY K.ys) (hY K.ys) f x y far ((i : Int) - far) j)) (fun w hw ho => rough2_any bs bq bn _ hh.1 w ho hmem hlen hz) ?_
        rintro v S' rfl
        refine z_tas
        rw [List.append_assoc, show rowH (wY K.ys) (hY K.ys) f x y far ((i : Int) - far) j ++ [hh.1] = rowH (wY K.ys) (hY K.ys) f x y far ((i : Int) - far) (j + 1) by rw [er, ex, if_pos h0]]
        trace_state
        exact c_round (j + 1, s3) ⟨h2, by have := k1.mono (by omega : b + 17 * i + j + 1 ≤ b + 17 * i + (j + 1 : Nat)); exact this⟩ (by show 2 * far + 1 - (j + 1) < 2 * far + 1 - j; omega) ⟨rfl, rfl, rfl, rfl, rfl, rfl, by simp [look]; omega, trivial⟩ Sub.au
      · rename_i h0
        rw [show rowH (wY K.ys) (hY K.ys) f x y far ((i : Int) - far) j = rowH (wY K.ys) (hY K.ys) f x y far ((i : Int) - far) (j + 1) by rw [er, ex, if_neg h0, List.append_nil]]
        exact c_round (j + 1, s3) ⟨h2, by have := k1.mono (by omega : b + 17 * i + j + 1 ≤ b + 17 * i + (j + 1 : Nat)); exact this⟩ (by show 2 * far + 1 - (j + 1) < 2 * far + 1 - j; omega) ⟨rfl, rfl, rfl, rfl, rfl, rfl, by simp [look]; omega, trivial⟩ Sub.au
    · obtain rfl : j = 2 * far + 1 := by omega
      refine z_tas
      exact c_round (i + 1, s2) ⟨h1, hs2.mono (by omega)⟩ (by show 2 * far + 1 - (i + 1) < 2 * far + 1 - i; omega) ⟨rfl, rfl, rfl, rfl, rfl, by simp [look]; omega, trivial⟩ (Sub.refl _)
  · obtain rfl : i = 2 * far + 1 := by omega
    refine z_tas
    exact j_outN rfl (Sub.refl _) ⟨s1, hs1.mono (by omega), rfl⟩
end Go.Proofs.Ytpmomimaihjmjaa
/- Package terrain: Rough. -/
namespace Go.Proofs.Ytpmomimaihjmjaa
open Go.RowKit
def roughE (L : List Int) : Int := (sqZ L * (L.length : Nat) - sumZ L * sumZ L) * 16 * 16
def roughX (L : List Int) : Nat := (IntKind.u64.wrap (IntKind.i64.wrap ((roughE L).tdiv ((L.length : Nat) * (L.length : Nat))))).toNat
def roughR (L : List Int) : Int × Int := if L.length = 0 then (0, 0) else (((isq (roughX L) : Nat) : Int), ((L.length : Nat) : Int))
theorem roughX_eq (L : List Int) : IntKind.u64.wrap (IntKind.i64.wrap ((roughE L).tdiv ((L.length : Nat) * (L.length : Nat)))) = ((roughX L : Nat) : Int) ∧ roughX L < 18446744073709551616 := by
  unfold roughX
  generalize IntKind.i64.wrap ((roughE L).tdiv ((L.length : Nat) * (L.length : Nat))) = t
  rw [IntKind.wrap_u64]
  omega
theorem isq_lt {x : Nat} (h : x < 18446744073709551616) : isq x < 4294967296 := by
  rcases Nat.lt_or_ge (isq x) 4294967296 with h1 | h1
  · exact h1
  · have := Nat.mul_le_mul h1 h1
    have := (isq_spec x).1
    omega
/-- The heights of a square around a cell. -/
def sqH (W H : Nat) (f : List Int) (x y far : Int) : List Int := allH W H f x y (min (max far 0) 8).toNat (2 * (min (max far 0) 8).toNat + 1)
theorem rough_in {L : List Int} (h : ∀ z ∈ L, -32768 ≤ z ∧ z ≤ 32767) (hl : L.length ≤ 289) : (0 ≤ sqZ L * (L.length : Nat) ∧ sqZ L * (L.length : Nat) ≤ 90000000000000) ∧ (0 ≤ sumZ L * sumZ L ∧ sumZ L * sumZ L ≤ 90000000000000) ∧ (0 ≤ ((L.length : Nat) : Int) * (L.length : Nat) ∧ ((L.length : Nat) : Int) * (L.length : Nat) ≤ 83521) := by
  obtain ⟨⟨h1, h2⟩, h3, h4⟩ := sum_in L h
  have m1 := mulB 310311387136 289 (a := sqZ L) (b := (L.length : Nat)) (by omega) (by omega)
  have m2 := mulB 9469952 9469952 (a := sumZ L) (b := sumZ L) (by omega) (by omega)
  have m3 := mulB 289 289 (a := (L.length : Nat)) (b := (L.length : Nat)) (by omega) (by omega)
  have p1 : 0 ≤ sqZ L * (L.length : Nat) := Int.mul_nonneg h3 (by omega)
  have p2 : 0 ≤ sumZ L * sumZ L := by
    rcases Int.lt_or_le (sumZ L) 0 with h | h
    · exact Int.le_of_lt (Int.mul_pos_of_neg_of_neg h h)
    · exact Int.mul_nonneg h h
  have p3 : 0 ≤ ((L.length : Nat) : Int) * (L.length : Nat) := Int.mul_nonneg (by omega) (by omega)
  omega
attribute [local irreducible] OJ J HdJ Code.wpIn wpListIn Oper.wpIn bodyPost CallsIn Does
set_option maxRecDepth 4000
set_option maxHeartbeats 64000000 in
theorem rough_t (K : CaT) (s : CaV) (f : List Int) (x y far b : Int) (w : World) (hown : Own (K.H s) w) (hF : CaF K.ys f K.room) (h : CaOk K.ys f K.room s b) (hb : b ≤ 900000000000000000) :
    Does Try.prog 49 [.pointer (some ⟨K.g, 0, none⟩), .int .i64 x, .int .i64 y, .int .i64 far] (K.H s) w (fun v S' => ∃ s', v = .tuple #[.int .i64 (roughR (sqH (wY K.ys) (hY K.ys) f x y far)).1, .int .i64 (roughR (sqH (wY K.ys) (hY K.ys) f x y far)).2] ∧ CaOk K.ys f K.room s' (b + 400) ∧ S' = K.H s') := by
  obtain ⟨fr, hfr⟩ : ∃ fr : Nat, min (max far 0) 8 = (fr : Int) := ⟨(min (max far 0) 8).toNat, by omega⟩
  have hf8 : fr ≤ 8 := by omega
  obtain ⟨a1, a2⟩ := allH_in hF.good.1 (W := wY K.ys) (H := hY K.ys) x y hf8 (2 * fr + 1)
  refine does_of Try.func49 rfl Try.ntmps49 rfl hown (fun n => ?_)
  simp only [slots]
  unfold sqH
  rw [hfr, Int.toNat_natCast]
  generalize hL : allH (wY K.ys) (hY K.ys) f x y fr (2 * fr + 1) = L at *
  have hrn := rough_in a2 (by omega)
  refine z_tas
  rename_i b4 b5 b6 b7 b10 b11 b12
  rw [hfr]
  refine lfc rfl rfl rfl rfl (S := K.HC s (rgE K b7 b4 b5 b6 fr x y [.blk b10 2 [.int .i64 0], .blk b11 2 [.int .i64 0], .blk b12 2 [.int .i64 0]])) (fun w hw ho => rough1_any K s f x y b fr b7 b4 b5 b6 b10 b11 b12 w hf8 hF h hb ho) ?_
  rintro v S' ⟨s', k1, rfl⟩
  rw [hL]
  rcases Nat.eq_zero_or_pos L.length with h0 | h0
  · have e : roughR L = (0, 0) := if_pos h0
    rw [e]
    refine z_tas
    all_goals first
      | exact j_out2 rfl rfl rfl Sub.au ⟨s', rfl, k1, rfl⟩
      | (exfalso; omega)
  · have e : roughR L = (((isq (roughX L) : Nat) : Int), ((L.length : Nat) : Int)) := if_neg (by omega)
    rw [e]
    refine z_tas
    have hnn : 0 < ((L.length : Nat) : Int) * (L.length : Nat) := Int.mul_pos (by omega) (by omega)
    refine c_dv (0 :: 1 :: 2 :: 3 :: 4 :: 5 :: 6 :: 7 :: 8 :: 9 :: 10 :: 11 :: 12 :: 13 :: 14 :: 15 :: 16 :: 17 :: 18 :: []) ?_; intro _
    refine z_govG
    obtain ⟨x1, x2⟩ := roughX_eq L
    have x3 := isq_lt x2
    refine j_set 36 _ rfl (congrArg (Value.int .u64) x1) ?_
    refine z_govG
    refine lfv rfl rfl rfl (fun w _ => floor_any (roughX L) w x2) ?_
    refine z_govG
    exact j_out2 rfl rfl rfl Sub.au ⟨s', rfl, k1, rfl⟩
end Go.Proofs.Ytpmomimaihjmjaa
/- The reference of layer 11: places, heights. -/
namespace Go.Proofs.Ytpmomimaihjmjaa
open Go.RowKit
def corR (W H : Nat) (f : List Int) (X Y : Int) (i k : Nat) : Int × Int := if InsP W H X Y then heightF W H f (corX X i) (corX Y k) else (0, 9)
theorem tdiv_down {a b : Int} (hb : 0 < b) : (if a.tmod b < 0 then a.tdiv b - 1 else a.tdiv b) = a / b := by
  rcases Int.lt_or_le a 0 with h | h
  · obtain ⟨c, rfl⟩ : ∃ c, a = -c := ⟨-a, by omega⟩
    rw [Int.neg_tdiv, Int.neg_tmod, Int.tdiv_eq_ediv_of_nonneg (by omega), Int.tmod_eq_emod_of_nonneg (by omega)]
    have h1 := Int.mul_ediv_add_emod c b
    have h2 := Int.emod_nonneg c (by omega : b ≠ 0)
    have h3 := Int.emod_lt_of_pos c hb
    generalize c / b = q at *
    generalize c % b = r at *
    split
    · refine ((Int.ediv_emod_unique (r := b - r) (q := -q - 1) hb).2 ⟨?_, by omega, by omega⟩).1.symm
      rw [Int.mul_sub, Int.mul_neg]; omega
    · refine ((Int.ediv_emod_unique (r := 0) (q := -q) hb).2 ⟨?_, by omega, by omega⟩).1.symm
      rw [Int.mul_neg]; omega
  · rw [Int.tdiv_eq_ediv_of_nonneg h, Int.tmod_eq_emod_of_nonneg h, if_neg (by have := Int.emod_nonneg a (by omega : b ≠ 0); omega)]
attribute [local irreducible] OJ J HdJ Code.wpIn wpListIn Oper.wpIn bodyPost CallsIn Does
set_option maxRecDepth 4000
set_option maxHeartbeats 16000000 in
theorem down_any (a b : Int) (w : World) (ha : -4611686018427387904 ≤ a ∧ a ≤ 4611686018427387904) (hb : 0 < b ∧ b ≤ 4611686018427387904) : Does Try.prog 90 [.int .i64 a, .int .i64 b] [] w (fun v S' => v = .int .i64 (a / b) ∧ S' = []) := by
  have hq : -4611686018427387904 ≤ a.tdiv b ∧ a.tdiv b ≤ 4611686018427387904 := by
    have h1 := Int.natAbs_tdiv_le_natAbs a b
    omega
  have e := tdiv_down (a := a) hb.1
  refine does_of Try.func90 rfl Try.ntmps90 rfl ⟨by simp, .nil⟩ (fun n => ?_)
  simp only [slots]
  have iq : ∀ (w0 : World) (W : Nat → Prop) (H : List HE) (t u : TypeId) (p q : Operand), MS Try.prog w0 W H (.binOp .quo t p q u) [.int .i64 a, .int .i64 b] (.int .i64 (a.tdiv b)) True := fun w0 W H t u p q => ⟨fun _ _ _ _ _ _ _ _ _ _ _ _ _ _ h1 h2 h3 => (inferInstance : MW Try.prog w0 W H (.binOp .quo t p q u) [.int .i64 a, .int .i64 b] (.int .i64 (IntKind.i64.wrap (a.tdiv b))) (b ≠ 0)).h (by omega) h1 h2 (by rw [IntKind.wrap_i64, show (a.tdiv b + 9223372036854775808) % 18446744073709551616 - 9223372036854775808 = a.tdiv b by omega]; exact h3)⟩
  have ir : ∀ (w0 : World) (W : Nat → Prop) (H : List HE) (t u : TypeId) (p q : Operand), MS Try.prog w0 W H (.binOp .rem t p q u) [.int .i64 a, .int .i64 b] (.int .i64 (a.tmod b)) True := fun w0 W H t u p q => ⟨fun _ _ _ _ _ _ _ _ _ _ _ _ _ _ h1 h2 h3 => (inferInstance : MW Try.prog w0 W H (.binOp .rem t p q u) [.int .i64 a, .int .i64 b] (.int .i64 (a.tmod b)) (b ≠ 0)).h (by omega) h1 h2 h3⟩
  rcases Int.lt_or_le (a.tmod b) 0 with h | h
  · rw [if_pos h] at e
    rw [← e]
    refine z_tas
    all_goals first
      | exact j_out1 rfl rfl (.nil _) ⟨rfl, rfl⟩
      | (exfalso; omega)
  · rw [if_neg (by omega)] at e
    rw [← e]
    refine z_tas
    all_goals first
      | (exfalso; omega)
      | exact j_out1 rfl rfl (.nil _) ⟨rfl, rfl⟩
theorem near_any (a b : Int) (w : World) (ha : -1152921504606846976 ≤ a ∧ a ≤ 1152921504606846976) (hb : 0 < b ∧ b ≤ 1152921504606846976) : Does Try.prog 80 [.int .i64 a, .int .i64 b] [] w (fun v S' => v = .int .i64 ((2 * a + b) / (2 * b)) ∧ S' = []) := by
  refine does_of Try.func80 rfl Try.ntmps80 rfl ⟨by simp, .nil⟩ (fun n => ?_)
  simp only [slots]
  refine z_tas
  refine lfv rfl rfl rfl (fun w _ => down_any (2 * a + b) (2 * b) w (by omega) (by omega)) ?_
  refine z_tas
  exact j_out1 rfl rfl (.nil _) ⟨rfl, rfl⟩
set_option maxHeartbeats 16000000 in
theorem rinside_any (W H : Nat) (A : Option Addr) (m c : Nat) (X Y : Int) (w : World) (hm : 1 ≤ W ∧ W ≤ 1000000 ∧ 1 ≤ H ∧ H ≤ 1000000) :
    Does Try.prog 43 [.agg #[.int .i64 W, .int .i64 H, .slice A m c], .int .i64 X, .int .i64 Y] [] w (fun v S' => v = .bool (decide (InsP W H X Y)) ∧ S' = []) := by
  refine does_of Try.func43 rfl Try.ntmps43 rfl ⟨by simp, .nil⟩ (fun n => ?_)
  simp only [slots]
  refine z_tas
  all_goals exact j_out1 rfl rfl (.nil _) ⟨congrArg Value.bool (by rw [Bool.eq_iff_iff]; simp only [decide_eq_true_eq, Bool.and_eq_true, Bool.false_eq_true, false_iff]; unfold InsP; omega), rfl⟩
set_option maxHeartbeats 16000000 in
theorem rcorner_any (W H : Nat) (A : Option Addr) (c : Nat) (f : List Int) (X Y : Int) (i k : Nat) (w : World) (hr : RoA w (blocks []) A f.length c 1 (ints .i16 f)) (hW : 1 ≤ W ∧ W ≤ 256 ∧ 1 ≤ H ∧ H ≤ 256) (hz : f.length = W * H) (hf : In16 f) (hik : i ≤ 1 ∧ k ≤ 1) :
    Does Try.prog 46 [.agg #[.int .i64 W, .int .i64 H, .slice A f.length c], .int .i64 X, .int .i64 Y, .int .i64 i, .int .i64 k] [] w (fun v S' => v = .tuple #[.int .i64 (corR W H f X Y i k).1, .int .i64 (corR W H f X Y i k).2] ∧ S' = []) := by
  refine does_of Try.func46 rfl Try.ntmps46 rfl ⟨by simp, .nil⟩ (fun n => ?_)
  simp only [slots]
  refine z_tas
  refine lfv rfl rfl rfl (fun w _ => rinside_any W H A f.length c X Y w (by omega)) ?_
  by_cases hI : InsP W H X Y
  · rw [decide_eq_true hI, show corR W H f X Y i k = heightF W H f (corX X i) (corX Y k) from if_pos hI]
    have hI2 := hI
    unfold InsP at hI2
    have hci := heightF_in (W := W) (H := H) hf (corX X i) (corX Y k)
    refine z_tas
    all_goals
      refine j_set 34 _ rfl (v' := .int .i64 (corX X i)) (congrArg (Value.int .i64) (by unfold corX; first | rw [if_pos (by assumption)] | rw [if_neg (by assumption)])) ?_
      refine j_set 38 _ rfl (v' := .int .i64 (corX Y k)) (congrArg (Value.int .i64) (by unfold corX; first | rw [if_pos (by assumption)] | rw [if_neg (by assumption)])) ?_
      refine lfv rfl rfl rfl (fun w hw => rheight_any W H A c f (corX X i) (corX Y k) w ⟨hr.h.go hw (Split.nil _)⟩ hW hz) ?_
      refine z_tas
      exact j_out2 rfl rfl rfl (.nil _) ⟨rfl, rfl⟩
  · rw [decide_eq_false hI, show corR W H f X Y i k = (0, 9) from if_neg hI]
    refine z_tas
    exact j_out2 rfl rfl rfl (.nil _) ⟨rfl, rfl⟩
theorem corR_in {W H : Nat} {f : List Int} {X Y : Int} (hI : InsP W H X Y) (i : Nat) : corR W H f X Y (i % 2) (i / 2) = corH W H f X Y i := if_pos hI
theorem corR_bd {W H : Nat} {f : List Int} (hf : In16 f) (X Y : Int) (i k : Nat) : -32768 ≤ (corR W H f X Y i k).1 ∧ (corR W H f X Y i k).1 ≤ 32767 := by
  unfold corR
  split
  · exact heightF_in hf _ _
  · exact ⟨by decide, by decide⟩
set_option maxHeartbeats 16000000 in
theorem rcode_any (W H : Nat) (A : Option Addr) (c : Nat) (f : List Int) (X Y : Int) (w : World) (hr : RoA w (blocks []) A f.length c 1 (ints .i16 f)) (hW : 1 ≤ W ∧ W ≤ 256 ∧ 1 ≤ H ∧ H ≤ 256) (hz : f.length = W * H) (hf : In16 f) :
    Does Try.prog 44 [.agg #[.int .i64 W, .int .i64 H, .slice A f.length c], .int .i64 X, .int .i64 Y] [] w (fun v S' => v = .int .i64 (codeF W H f X Y) ∧ S' = []) := by
  refine does_of Try.func44 rfl Try.ntmps44 rfl ⟨by simp, .nil⟩ (fun n => ?_)
  simp only [slots]
  refine z_tas
  rename_i b3
  refine c_loop (X := Nat) (fun i => i ≤ 4 ∧ (0 < i → InsP W H X Y) ∧ codeT W H f X Y i = 0 ∨ i = 0) (fun i => [(1, .int .i64 X), (2, .int .i64 Y), (3, .pointer (some ⟨b3, 0, none⟩)), (7, .int .i64 i)])
    (fun _ => [.blk b3 26 [.int .i64 W, .int .i64 H, .slice A f.length c]]) (fun i => 4 - i) 0 (.inr rfl) ⟨rfl, rfl, rfl, rfl, trivial⟩ Sub.au ?_
  intro i hi0
  have hi : i ≤ 4 ∧ (0 < i → InsP W H X Y) ∧ codeT W H f X Y i = 0 := by
    rcases hi0 with h | rfl
    · exact h
    · exact ⟨by omega, fun h => by omega, rfl⟩
  obtain ⟨h4, hin, hc0⟩ := hi
  rcases Nat.lt_or_ge i 4 with h | h
  · have e1 : ((i : Int) % 2) = ((i % 2 : Nat) : Int) := by omega
    have e2 : ((i : Int) / 2) = ((i / 2 : Nat) : Int) := by omega
    refine z_tas
    rw [e1, e2]
    refine lfv rfl rfl rfl (fun w hw => rcorner_any W H A c f X Y (i % 2) (i / 2) w ⟨hr.h.go hw (Split.nil _)⟩ hW hz hf (by omega)) ?_
    refine z_gox
    refine c_if rfl ?_ ?_ <;> intro h9
    · have e5 : codeF W H f X Y = (corR W H f X Y (i % 2) (i / 2)).2 := by
        by_cases hI : InsP W H X Y
        · rw [corR_in hI] at h9 ⊢
          have ec : codeT W H f X Y (i + 1) = (corH W H f X Y i).2 := by rw [codeT, if_neg (by rw [hc0]; simp)]
          have e4 := codeT_stop (k := 3 - i) (by rw [ec]; exact h9)
          rw [show i + 1 + (3 - i) = 4 by omega, ec] at e4
          unfold codeF; rw [if_pos hI, e4]
        · rw [show corR W H f X Y (i % 2) (i / 2) = (0, 9) from if_neg hI]
          exact if_neg hI
      rw [e5]
      refine z_tas
      exact j_out1 rfl rfl (.nil _) ⟨rfl, rfl⟩
    · have hI : InsP W H X Y := by
        by_cases hI : InsP W H X Y
        · exact hI
        · rw [show corR W H f X Y (i % 2) (i / 2) = (0, 9) from if_neg hI] at h9; exact absurd (by decide) h9
      refine z_tas
      exact c_round (i + 1) (.inl ⟨h, fun _ => hI, by rw [codeT, if_neg (by rw [hc0]; simp), ← corR_in hI]; exact Classical.not_not.1 h9⟩) (by show 4 - (i + 1) < 4 - i; omega) ⟨rfl, rfl, rfl, by simp [look], trivial⟩ Sub.au
  · obtain rfl : i = 4 := by omega
    rw [show codeF W H f X Y = 0 by unfold codeF; rw [if_pos (hin (by omega)), hc0]]
    refine z_tas
    exact j_out1 rfl rfl (.nil _) ⟨rfl, rfl⟩
end Go.Proofs.Ytpmomimaihjmjaa
/- The reference of layer 11: the ground, how steep it is, places. -/
namespace Go.Proofs.Ytpmomimaihjmjaa
open Go.RowKit
def wt (x : Int) (i : Nat) : Int := if i = 0 then 256 - x % 256 else x % 256
def exT (W H : Nat) (f : List Int) (X Y : Int) : Nat → Int
  | 0 => 0
  | i + 1 => exT W H f X Y i + (corR W H f X Y (i % 2) (i / 2)).1 * wt X (i % 2) * wt Y (i / 2)
theorem exT_eq {W H : Nat} {f : List Int} {X Y : Int} (h : codeF W H f X Y = 0) : exT W H f X Y 4 = exL (fourF W H f X Y) (X % 256) (Y % 256) := by
  have hI : InsP W H X Y := by
    unfold codeF at h
    split at h
    · assumption
    · exact absurd h (by decide)
  have e : fourF W H f X Y = [(corH W H f X Y 0).1, (corH W H f X Y 1).1, (corH W H f X Y 2).1, (corH W H f X Y 3).1] := by unfold fourF; rw [if_pos h]; rfl
  rw [e]
  simp only [exT, exL, exF, wt, corR_in hI]
  simp only [Nat.zero_mod, Nat.zero_div, if_true, show 1 % 2 = 1 from rfl, show 1 / 2 = 0 from rfl, show 2 % 2 = 0 from rfl, show 2 / 2 = 1 from rfl, show 3 % 2 = 1 from rfl, show 3 / 2 = 1 from rfl, show ((1 : Nat) = 0) = False from by simp, if_false]
  rw [Int.add_mul, Int.add_mul]
  omega
theorem wt_in (x : Int) (i : Nat) : 0 ≤ wt x i ∧ wt x i ≤ 256 := by unfold wt; split <;> omega
theorem exT_in {W H : Nat} {f : List Int} (hf : In16 f) (X Y : Int) : ∀ i : Nat, -(2147483648 * (i : Int)) ≤ exT W H f X Y i ∧ exT W H f X Y i ≤ 2147483648 * (i : Int)
  | 0 => by simp [exT]
  | i + 1 => by
    have h1 := exT_in hf (W := W) (H := H) X Y i
    have h2 := corR_bd hf (W := W) (H := H) X Y (i % 2) (i / 2)
    have h3 := wt_in X (i % 2)
    have h4 := wt_in Y (i / 2)
    have m1 := mulB 32768 256 (a := (corR W H f X Y (i % 2) (i / 2)).1) (b := wt X (i % 2)) (by omega) (by omega)
    have m2 := mulB 8388608 256 (a := (corR W H f X Y (i % 2) (i / 2)).1 * wt X (i % 2)) (b := wt Y (i / 2)) (by omega) (by omega)
    rw [exT]
    push_cast
    omega
theorem wrap3 {e c a b : Int} (h1 : InR .i64 (c * a)) (h2 : InR .i64 (c * a * b)) (h3 : InR .i64 (e + c * a * b)) : IntKind.i64.wrap (e + IntKind.i64.wrap (IntKind.i64.wrap (c * a) * b)) = e + c * a * b := by
  rw [wrap_in h1, wrap_in h2, wrap_in h3]
attribute [local irreducible] OJ J HdJ Code.wpIn wpListIn Oper.wpIn bodyPost CallsIn Does
set_option maxRecDepth 4000
set_option maxHeartbeats 16000000 in
theorem rexact_any (W H : Nat) (A : Option Addr) (c : Nat) (f : List Int) (X Y : Int) (w : World) (hr : RoA w (blocks []) A f.length c 1 (ints .i16 f)) (hW : 1 ≤ W ∧ W ≤ 256 ∧ 1 ≤ H ∧ H ≤ 256) (hz : f.length = W * H) (hf : In16 f) (hX : (0 ≤ X ∧ X ≤ 65536) ∧ (0 ≤ Y ∧ Y ≤ 65536)) :
    Does Try.prog 45 [.agg #[.int .i64 W, .int .i64 H, .slice A f.length c], .int .i64 X, .int .i64 Y] [] w (fun v S' => v = .int .i64 (exT W H f X Y 4) ∧ S' = []) := by
  refine does_of Try.func45 rfl Try.ntmps45 rfl ⟨by simp, .nil⟩ (fun n => ?_)
  simp only [slots]
  refine z_tas
  rename_i b3
  refine c_loop (X := Nat) (fun i => i ≤ 4) (fun i => [(1, .int .i64 X), (2, .int .i64 Y), (3, .pointer (some ⟨b3, 0, none⟩)), (7, .int .i64 (exT W H f X Y i)), (8, .int .i64 i)])
    (fun _ => [.blk b3 26 [.int .i64 W, .int .i64 H, .slice A f.length c]]) (fun i => 4 - i) 0 (by omega) ⟨rfl, rfl, rfl, rfl, rfl, trivial⟩ Sub.au ?_
  intro i hi
  rcases Nat.lt_or_ge i 4 with h | h
  · have e1 : ((i : Int) % 2) = ((i % 2 : Nat) : Int) := by omega
    have e2 : ((i : Int) / 2) = ((i / 2 : Nat) : Int) := by omega
    have h1 := exT_in hf (W := W) (H := H) X Y i
    have h2 := corR_bd hf (W := W) (H := H) X Y (i % 2) (i / 2)
    have h3 := wt_in X (i % 2)
    have h4 := wt_in Y (i / 2)
    have m1 := mulB 32768 256 (a := (corR W H f X Y (i % 2) (i / 2)).1) (b := wt X (i % 2)) (by omega) (by omega)
    have m2 := mulB 8388608 256 (a := (corR W H f X Y (i % 2) (i / 2)).1 * wt X (i % 2)) (b := wt Y (i / 2)) (by omega) (by omega)
    have ee : exT W H f X Y (i + 1) = exT W H f X Y i + (corR W H f X Y (i % 2) (i / 2)).1 * wt X (i % 2) * wt Y (i / 2) := rfl
    refine z_tas
    rw [e1, e2]
    refine lfv rfl rfl rfl (fun w hw => rcorner_any W H A c f X Y (i % 2) (i / 2) w ⟨hr.h.go hw (Split.nil _)⟩ hW hz hf (by omega)) ?_
    refine z_tas
    all_goals
      have w1 : wt X (i % 2) = if i % 2 = 0 then 256 - X % 256 else X % 256 := rfl
      have w2 : wt Y (i / 2) = if i / 2 = 0 then 256 - Y % 256 else Y % 256 := rfl
      first
        | rw [if_pos (by omega : i % 2 = 0)] at w1
        | rw [if_neg (by omega : ¬ i % 2 = 0)] at w1
      first
        | rw [if_pos (by omega : i / 2 = 0)] at w2
        | rw [if_neg (by omega : ¬ i / 2 = 0)] at w2
      rw [w1] at m1 m2 ee
      rw [w2] at m2 ee
      rw [wrap3 (by simp only [InR]; omega) (by simp only [InR]; omega) (by simp only [InR]; omega), ← ee]
      exact c_round (i + 1) (by show i + 1 ≤ 4; omega) (by show 4 - (i + 1) < 4 - i; omega) ⟨rfl, rfl, rfl, rfl, rfl, trivial⟩ Sub.au
  · obtain rfl : i = 4 := by omega
    refine z_tas
    exact j_out1 rfl rfl (.nil _) ⟨rfl, rfl⟩
set_option maxHeartbeats 16000000 in
theorem rheight11_any (W H : Nat) (A : Option Addr) (c : Nat) (f : List Int) (X Y : Int) (w : World) (hr : RoA w (blocks []) A f.length c 1 (ints .i16 f)) (hW : 1 ≤ W ∧ W ≤ 256 ∧ 1 ≤ H ∧ H ≤ 256) (hz : f.length = W * H) (hf : In16 f) :
    Does Try.prog 38 [.agg #[.int .i64 W, .int .i64 H, .slice A f.length c], .int .i64 X, .int .i64 Y] [] w (fun v S' => v = .tuple #[.int .i64 (heightT W H f X Y), .int .i64 (codeF W H f X Y)] ∧ S' = []) := by
  refine does_of Try.func38 rfl Try.ntmps38 rfl ⟨by simp, .nil⟩ (fun n => ?_)
  simp only [slots]
  refine z_tas
  refine lfv rfl rfl rfl (fun w hw => rcode_any W H A c f X Y w ⟨hr.h.go hw (Split.nil _)⟩ hW hz hf) ?_
  unfold heightT
  by_cases hc : codeF W H f X Y = 0
  · have hI : InsP W H X Y := by
      unfold codeF at hc
      split at hc
      · assumption
      · exact absurd hc (by decide)
    unfold InsP at hI
    rw [if_pos hc, hc]
    have he := exT_in hf (W := W) (H := H) X Y 4
    refine z_tas
    refine lfv rfl rfl rfl (fun w hw => rexact_any W H A c f X Y w ⟨hr.h.go hw (Split.nil _)⟩ hW hz hf (by omega)) ?_
    rw [exT_eq hc] at he ⊢
    refine z_tas
    refine lfv rfl rfl rfl (fun w _ => near_any _ 65536 w (by omega) (by omega)) ?_
    refine z_tas
    refine j_out2 rfl rfl rfl (.nil _) ⟨?_, rfl⟩
    rw [Int.mul_comm 16]
  · rw [if_neg hc]
    refine z_tas
    exact j_out2 rfl rfl rfl (.nil _) ⟨rfl, rfl⟩
set_option maxHeartbeats 64000000 in
theorem rslope_any (W H : Nat) (A : Option Addr) (c : Nat) (f : List Int) (X Y : Int) (w : World) (hr : RoA w (blocks []) A f.length c 1 (ints .i16 f)) (hW : 1 ≤ W ∧ W ≤ 256 ∧ 1 ≤ H ∧ H ≤ 256) (hz : f.length = W * H) (hf : In16 f) :
    Does Try.prog 48 [.agg #[.int .i64 W, .int .i64 H, .slice A f.length c], .int .i64 X, .int .i64 Y] [] w (fun v S' => v = .tuple #[.int .i64 (slopeT W H f X Y).1, .int .i64 (slopeT W H f X Y).2, .int .i64 (codeF W H f X Y)] ∧ S' = []) := by
  refine does_of Try.func48 rfl Try.ntmps48 rfl ⟨by simp, .nil⟩ (fun n => ?_)
  simp only [slots]
  refine z_tas
  refine lfv rfl rfl rfl (fun w hw => rcode_any W H A c f X Y w ⟨hr.h.go hw (Split.nil _)⟩ hW hz hf) ?_
  unfold slopeT
  by_cases hc : codeF W H f X Y = 0
  · have hI : InsP W H X Y := by
      unfold codeF at hc
      split at hc
      · assumption
      · exact absurd hc (by decide)
    have e4 : fourF W H f X Y = [(corR W H f X Y 0 0).1, (corR W H f X Y 1 0).1, (corR W H f X Y 0 1).1, (corR W H f X Y 1 1).1] := by
      unfold fourF
      rw [if_pos hc]
      have k0 := corR_in hI (f := f) 0
      have k1 := corR_in hI (f := f) 1
      have k2 := corR_in hI (f := f) 2
      have k3 := corR_in hI (f := f) 3
      rw [show corR W H f X Y 0 0 = _ from k0, show corR W H f X Y 1 0 = _ from k1, show corR W H f X Y 0 1 = _ from k2, show corR W H f X Y 1 1 = _ from k3]
      rfl
    unfold InsP at hI
    rw [if_pos hc, hc, e4]
    have z0 := corR_bd hf (W := W) (H := H) X Y 0 0
    have z1 := corR_bd hf (W := W) (H := H) X Y 1 0
    have z2 := corR_bd hf (W := W) (H := H) X Y 0 1
    have z3 := corR_bd hf (W := W) (H := H) X Y 1 1
    have hs1 := sl_in (fy := Y % 256) ⟨z0, z1, z2, z3⟩ (by omega)
    have hs2 := sl_in (fy := X % 256) ⟨z0, z2, z1, z3⟩ (by omega)
    simp only [slX, slY]
    refine z_tas
    refine lfv rfl rfl rfl (fun w hw => rcorner_any W H A c f X Y 0 0 w ⟨hr.h.go hw (Split.nil _)⟩ hW hz hf (by omega)) ?_
    refine z_tas
    refine lfv rfl rfl rfl (fun w hw => rcorner_any W H A c f X Y 1 0 w ⟨hr.h.go hw (Split.nil _)⟩ hW hz hf (by omega)) ?_
    refine z_tas
    refine lfv rfl rfl rfl (fun w hw => rcorner_any W H A c f X Y 0 1 w ⟨hr.h.go hw (Split.nil _)⟩ hW hz hf (by omega)) ?_
    refine z_tas
    refine lfv rfl rfl rfl (fun w hw => rcorner_any W H A c f X Y 1 1 w ⟨hr.h.go hw (Split.nil _)⟩ hW hz hf (by omega)) ?_
    refine z_tas
    refine lfv rfl rfl rfl (fun w _ => near_any _ 256 w (by omega) (by omega)) ?_
    refine z_tas
    refine lfv rfl rfl rfl (fun w _ => near_any _ 256 w (by omega) (by omega)) ?_
    refine z_tas
    refine j_out3 rfl rfl rfl rfl (.nil _) ⟨?_, rfl⟩
    rw [Int.mul_comm 16, Int.mul_comm 16]
  · rw [if_neg hc]
    refine z_tas
    exact j_out3 rfl rfl rfl rfl (.nil _) ⟨rfl, rfl⟩
set_option maxHeartbeats 16000000 in
theorem rspot_any (m o cell : Int) (w : World) (hm : -1099511627776 ≤ m ∧ m ≤ 1099511627776) (ho : InR .i32 o) (hc : 1 ≤ cell ∧ cell ≤ 1000) : Does Try.prog 52 [.int .i64 m, .int .i32 o, .int .i64 cell] [] w (fun v S' => v = .int .i64 (256 * (m - o) / cell) ∧ S' = []) := by
  refine does_of Try.func52 rfl Try.ntmps52 rfl ⟨by simp, .nil⟩ (fun n => ?_)
  simp only [slots]
  simp only [InR] at ho
  refine z_tas
  refine lfv rfl rfl rfl (fun w _ => down_any _ _ w (by omega) (by omega)) ?_
  refine z_tas
  exact j_out1 rfl rfl (.nil _) ⟨rfl, rfl⟩
set_option maxHeartbeats 16000000 in
theorem rmetres_any (x o cell : Int) (w : World) (hm : -1099511627776 ≤ x ∧ x ≤ 1099511627776) (ho : InR .i32 o) (hc : 1 ≤ cell ∧ cell ≤ 1000) : Does Try.prog 54 [.int .i64 x, .int .i32 o, .int .i64 cell] [] w (fun v S' => v = .int .i64 ((2 * (x * cell) + 256) / (2 * 256) + o) ∧ S' = []) := by
  refine does_of Try.func54 rfl Try.ntmps54 rfl ⟨by simp, .nil⟩ (fun n => ?_)
  simp only [slots]
  simp only [InR] at ho
  have m1 := mulB 1099511627776 1000 (a := x) (b := cell) (by omega) (by omega)
  refine z_tas
  refine lfv rfl rfl rfl (fun w _ => near_any _ _ w (by omega) (by omega)) ?_
  refine z_tas
  exact j_out1 rfl rfl (.nil _) ⟨rfl, rfl⟩
end Go.Proofs.Ytpmomimaihjmjaa
/- The reference of layer 11: how rough the ground is. -/
namespace Go.Proofs.Ytpmomimaihjmjaa
open Go.RowKit
def hR (W H : Nat) (f : List Int) (a b : Int) : List Int := if (heightF W H f a b).2 = 0 then [(heightF W H f a b).1] else []
/-- The heights of a column of a square; of all its columns. -/
def colR (W H : Nat) (f : List Int) (y : Int) (far : Nat) (a : Int) : Nat → List Int
  | 0 => []
  | j + 1 => colR W H f y far a j ++ hR W H f a (y - far + j)
def sqR (W H : Nat) (f : List Int) (x y : Int) (far : Nat) : Nat → List Int
  | 0 => []
  | i + 1 => sqR W H f x y far i ++ colR W H f y far (x - far + i) (2 * far + 1)
theorem hR_at {W H : Nat} {f : List Int} {x y dx dy : Int} (hx : -1000 ≤ x ∧ x ≤ 1000) (hy : -1000 ≤ y ∧ y ≤ 1000) : hAt W H f x y dx dy = hR W H f (x + dx) (y + dy) := by
  unfold hAt hR wiF
  rw [if_neg (show ¬(x < -1000 ∨ 1000 < x) by omega), if_neg (show ¬(y < -1000 ∨ 1000 < y) by omega)]
/-- A sum over the first numbers. -/
def smI (φ : Nat → Int) : Nat → Int
  | 0 => 0
  | n + 1 => smI φ n + φ n
theorem smI_add (φ ψ : Nat → Int) : ∀ n, smI (fun i => φ i + ψ i) n = smI φ n + smI ψ n
  | 0 => rfl
  | n + 1 => by simp only [smI, smI_add φ ψ n]; omega
theorem smI_zero : ∀ n, smI (fun _ => 0) n = 0
  | 0 => rfl
  | n + 1 => by simp only [smI, smI_zero n]; omega
theorem smI_swap (φ : Nat → Nat → Int) (m : Nat) : ∀ n, smI (fun i => smI (fun j => φ i j) m) n = smI (fun j => smI (fun i => φ i j) n) m
  | 0 => by simp only [smI, smI_zero]
  | n + 1 => by simp only [smI, smI_swap φ m n, smI_add]
theorem smI_congr {φ ψ : Nat → Int} (h : ∀ i, φ i = ψ i) (n : Nat) : smI φ n = smI ψ n := by rw [show φ = ψ from funext h]
section
variable {W H : Nat} {f : List Int} {x y : Int} {μ : List Int → Int} (h0 : μ [] = 0) (ha : ∀ a b, μ (a ++ b) = μ a + μ b)
include h0 ha
theorem colR_sm (far : Nat) (a : Int) : ∀ j, μ (colR W H f y far a j) = smI (fun j => μ (hR W H f a (y - far + j))) j
  | 0 => h0
  | j + 1 => by rw [colR, ha, colR_sm far a j]; rfl
theorem sqR_sm (far : Nat) : ∀ i, μ (sqR W H f x y far i) = smI (fun i => smI (fun j => μ (hR W H f (x - far + i) (y - far + j))) (2 * far + 1)) i
  | 0 => h0
  | i + 1 => by rw [sqR, ha, sqR_sm far i, colR_sm h0 ha]; rfl
theorem rowH_sm (far : Nat) (dy : Int) : ∀ j, μ (rowH W H f x y far dy j) = smI (fun j => μ (hAt W H f x y ((j : Int) - far) dy)) j
  | 0 => h0
  | j + 1 => by rw [rowH, ha, rowH_sm far dy j]; rfl
theorem allH_sm (far : Nat) : ∀ i, μ (allH W H f x y far i) = smI (fun i => smI (fun j => μ (hAt W H f x y ((j : Int) - far) ((i : Int) - far))) (2 * far + 1)) i
  | 0 => h0
  | i + 1 => by rw [allH, ha, allH_sm far i, rowH_sm h0 ha]; rfl
theorem sq_same (hx : -1000 ≤ x ∧ x ≤ 1000) (hy : -1000 ≤ y ∧ y ≤ 1000) (far : Nat) : μ (sqR W H f x y far (2 * far + 1)) = μ (allH W H f x y far (2 * far + 1)) := by
  rw [sqR_sm h0 ha, allH_sm h0 ha, smI_swap]
  refine smI_congr (fun i => smI_congr (fun j => ?_) _) _
  rw [hR_at hx hy]
  congr 2 <;> omega
end
theorem rough_same {W H : Nat} {f : List Int} {x y : Int} (hx : -1000 ≤ x ∧ x ≤ 1000) (hy : -1000 ≤ y ∧ y ≤ 1000) (far : Nat) :
    sumZ (sqR W H f x y far (2 * far + 1)) = sumZ (allH W H f x y far (2 * far + 1)) ∧ sqZ (sqR W H f x y far (2 * far + 1)) = sqZ (allH W H f x y far (2 * far + 1)) ∧ (sqR W H f x y far (2 * far + 1)).length = (allH W H f x y far (2 * far + 1)).length := by
  refine ⟨sq_same rfl sumZ_app hx hy far, sq_same rfl sqZ_app hx hy far, ?_⟩
  have := sq_same (μ := fun l => ((l.length : Nat) : Int)) (W := W) (H := H) (f := f) rfl (fun a b => by simp) hx hy far
  omega
theorem rough_congr {a b : List Int} (h1 : sumZ a = sumZ b) (h2 : sqZ a = sqZ b) (h3 : a.length = b.length) : roughR a = roughR b := by
  unfold roughR roughX roughE
  rw [h1, h2, h3]
theorem hR_in {W H : Nat} {f : List Int} (hf : In16 f) (a b : Int) : (hR W H f a b).length ≤ 1 ∧ ∀ z ∈ hR W H f a b, -32768 ≤ z ∧ z ≤ 32767 := by
  unfold hR
  split
  · exact ⟨Nat.le_refl _, fun z hz => by rw [List.mem_singleton.1 hz]; exact heightF_in hf _ _⟩
  · exact ⟨Nat.zero_le _, fun z hz => by cases hz⟩
theorem colR_in {W H : Nat} {f : List Int} (hf : In16 f) (y : Int) (far : Nat) (a : Int) : ∀ j, (colR W H f y far a j).length ≤ j ∧ ∀ z ∈ colR W H f y far a j, -32768 ≤ z ∧ z ≤ 32767
  | 0 => ⟨Nat.le_refl _, fun z hz => by cases hz⟩
  | j + 1 => by
    obtain ⟨h1, h2⟩ := colR_in hf (W := W) (H := H) y far a j
    obtain ⟨h3, h4⟩ := hR_in hf (W := W) (H := H) a (y - far + j)
    rw [colR]
    refine ⟨by rw [List.length_append]; omega, fun z hz => ?_⟩
    rcases List.mem_append.1 hz with h | h
    · exact h2 z h
    · exact h4 z h
theorem sqR_in {W H : Nat} {f : List Int} (hf : In16 f) (x y : Int) {far : Nat} (hfar : far ≤ 8) : ∀ i, (sqR W H f x y far i).length ≤ 17 * i ∧ ∀ z ∈ sqR W H f x y far i, -32768 ≤ z ∧ z ≤ 32767
  | 0 => ⟨Nat.le_refl _, fun z hz => by cases hz⟩
  | i + 1 => by
    obtain ⟨h1, h2⟩ := sqR_in hf (W := W) (H := H) x y hfar i
    obtain ⟨h3, h4⟩ := colR_in hf (W := W) (H := H) y far (x - far + i) (2 * far + 1)
    rw [sqR]
    refine ⟨by rw [List.length_append]; omega, fun z hz => ?_⟩
    rcases List.mem_append.1 hz with h | h
    · exact h2 z h
    · exact h4 z h
theorem sqZ_take (l : List Int) (i : Nat) (h : i < l.length) : sqZ (l.take (i + 1)) = sqZ (l.take i) + l.getD i 0 * l.getD i 0 := by
  rw [List.take_succ_eq_append_getElem h, sqZ_app]
  simp [sqZ, List.getD, List.getElem?_eq_getElem h]
def roughQ (W H : Nat) (f : List Int) (x y far : Int) : Int × Int := if x < -1000 ∨ 1000 < x ∨ y < -1000 ∨ 1000 < y then (0, 0) else roughR (sqH W H f x y far)
attribute [local irreducible] OJ J HdJ Code.wpIn wpListIn Oper.wpIn bodyPost CallsIn Does
set_option maxRecDepth 4000
set_option maxHeartbeats 64000000 in
theorem rrough_any (W H : Nat) (A : Option Addr) (c : Nat) (f : List Int) (x y far : Int) (w : World) (hr : RoA w (blocks []) A f.length c 1 (ints .i16 f)) (hW : 1 ≤ W ∧ W ≤ 256 ∧ 1 ≤ H ∧ H ≤ 256) (hz : f.length = W * H) (hf : In16 f) :
    Does Try.prog 50 [.agg #[.int .i64 W, .int .i64 H, .slice A f.length c], .int .i64 x, .int .i64 y, .int .i64 far] [] w (fun v _ => v = .tuple #[.int .i64 (roughQ W H f x y far).1, .int .i64 (roughQ W H f x y far).2]) := by
  obtain ⟨fr, hfr⟩ : ∃ fr : Nat, min (max far 0) 8 = (fr : Int) := ⟨(min (max far 0) 8).toNat, by omega⟩
  have hf8 : fr ≤ 8 := by omega
  refine does_of Try.func50 rfl Try.ntmps50 rfl ⟨by simp, .nil⟩ (fun n => ?_)
  simp only [slots]
  unfold roughQ
  by_cases hxy : x < -1000 ∨ 1000 < x ∨ y < -1000 ∨ 1000 < y
  · rw [if_pos hxy]
    refine z_tas
    all_goals first
      | (exfalso; omega)
      | exact j_out2 rfl rfl rfl (.nil _) rfl
  · rw [if_neg hxy]
    unfold sqH
    rw [hfr, Int.toNat_natCast]
    have hx : -1000 ≤ x ∧ x ≤ 1000 := by omega
    have hy : -1000 ≤ y ∧ y ≤ 1000 := by omega
    refine j_nil (e := 2) (size := 1) ?_
    refine z_tas
    all_goals first
      | (exfalso; omega)
      | skip
    all_goals
      rename Nat => b4
      refine c_loop (X := Nat × Option Addr × Nat) (fun q => q.1 ≤ 2 * fr + 1) (fun q => [(1, .int .i64 x), (2, .int .i64 y), (4, .pointer (some ⟨b4, 0, none⟩)), (10, .int .i64 fr), (11, .slice q.2.1 (sqR W H f x y fr q.1).length q.2.2), (12, .int .i64 (sumZ (sqR W H f x y fr q.1))), (13, .int .i64 (x - fr + q.1))])
        (fun q => [.blk b4 26 [.int .i64 W, .int .i64 H, .slice A f.length c], .row (.slice q.2.1 (sqR W H f x y fr q.1).length q.2.2) 2 1 (sqR W H f x y fr q.1).length (ints .i64 (sqR W H f x y fr q.1))]) (fun q => 2 * fr + 1 - q.1) (0, none, 0) (Nat.zero_le _) ⟨rfl, rfl, rfl, by first | rfl | (simp [look]; omega), rfl, rfl, by first | rfl | (simp [look]; omega), trivial⟩ (by simp only [sqR, ints, List.map_nil, List.length_nil]; exact Sub.au) ?_
      rintro ⟨i, A1, c1⟩ hi
      dsimp only at hi ⊢
      rcases Nat.lt_or_ge i (2 * fr + 1) with h | h
      · refine z_tas
        refine c_loop (X := Nat × Option Addr × Nat) (fun q => q.1 ≤ 2 * fr + 1) (fun q => [(1, .int .i64 x), (2, .int .i64 y), (4, .pointer (some ⟨b4, 0, none⟩)), (10, .int .i64 fr), (11, .slice q.2.1 (sqR W H f x y fr i ++ colR W H f y fr (x - fr + i) q.1).length q.2.2), (12, .int .i64 (sumZ (sqR W H f x y fr i ++ colR W H f y fr (x - fr + i) q.1))), (13, .int .i64 (x - fr + i)), (14, .int .i64 (y - fr + q.1))])
          (fun q => [.blk b4 26 [.int .i64 W, .int .i64 H, .slice A f.length c], .row (.slice q.2.1 (sqR W H f x y fr i ++ colR W H f y fr (x - fr + i) q.1).length q.2.2) 2 1 (sqR W H f x y fr i ++ colR W H f y fr (x - fr + i) q.1).length (ints .i64 (sqR W H f x y fr i ++ colR W H f y fr (x - fr + i) q.1))]) (fun q => 2 * fr + 1 - q.1) (0, A1, c1) (Nat.zero_le _)
          ⟨rfl, rfl, rfl, rfl, by simp [look, colR], by simp [look, colR], rfl, by simp [look], trivial⟩ (by simp only [colR, List.append_nil]; exact Sub.au) ?_
        rintro ⟨j, A2, c2⟩ hj
        dsimp only at hj ⊢
        obtain ⟨q1, q2⟩ := sqR_in hf (W := W) (H := H) x y hf8 i
        obtain ⟨q3, q4⟩ := colR_in hf (W := W) (H := H) y fr (x - fr + i) j
        have q5 := hR_in hf (W := W) (H := H) (x - fr + i) (y - fr + j)
        have q6 : ∀ z ∈ sqR W H f x y fr i ++ colR W H f y fr (x - fr + i) j, -32768 ≤ z ∧ z ≤ 32767 := fun z hz => (List.mem_append.1 hz).elim (q2 z) (q4 z)
        have q7 := sum_in _ q6
        have q8 : (sqR W H f x y fr i ++ colR W H f y fr (x - fr + i) j).length ≤ 400 := by rw [List.length_append]; omega
        have q9 := heightF_in (W := W) (H := H) hf (x - fr + i) (y - fr + j)
        have eL : sqR W H f x y fr i ++ colR W H f y fr (x - fr + i) (j + 1) = (sqR W H f x y fr i ++ colR W H f y fr (x - fr + i) j) ++ hR W H f (x - fr + i) (y - fr + j) := by rw [colR, List.append_assoc]
        rcases Nat.lt_or_ge j (2 * fr + 1) with h' | h'
        · refine z_tas
          refine lfv rfl rfl rfl (fun w hw => rheight_any W H A c f (x - fr + i) (y - fr + j) w ⟨hr.h.go hw (Split.nil _)⟩ hW hz) ?_
          by_cases hc : (heightF W H f (x - fr + i) (y - fr + j)).2 = 0
          · rw [show hR W H f (x - fr + i) (y - fr + j) = [(heightF W H f (x - fr + i) (y - fr + j)).1] from if_pos hc] at eL
            rw [hc]
            generalize sqR W H f x y fr i ++ colR W H f y fr (x - fr + i) j = L at *
            generalize (heightF W H f (x - fr + i) (y - fr + j)).1 = z at *
            refine z_tas
            rename_i A3 c3
            have es : sumZ (L ++ [z]) = sumZ L + z := by rw [sumZ_app, sumZ, sumZ]; omega
            exact c_round (j + 1, A3, c3) (by show j + 1 ≤ _; omega) (by show _ - (j + 1) < _ - j; omega) ⟨rfl, rfl, rfl, rfl, by simp only [eL]; rfl, by simp only [eL, es]; rfl, rfl, by simp [look]; omega, trivial⟩ (by simp only [eL]; exact Sub.au)
          · rw [show hR W H f (x - fr + i) (y - fr + j) = [] from if_neg hc, List.append_nil] at eL
            refine z_tas
            exact c_round (j + 1, A2, c2) (by show j + 1 ≤ _; omega) (by show _ - (j + 1) < _ - j; omega) ⟨rfl, rfl, rfl, rfl, by simp only [eL]; rfl, by simp only [eL]; rfl, rfl, by simp [look]; omega, trivial⟩ (by simp only [eL]; exact Sub.au)
        · obtain rfl : j = 2 * fr + 1 := by omega
          refine z_tas
          exact c_round (i + 1, A2, c2) (by show i + 1 ≤ _; omega) (by show _ - (i + 1) < _ - i; omega) ⟨rfl, rfl, rfl, rfl, rfl, rfl, by simp [look]; omega, trivial⟩ (by simp only [sqR]; exact Sub.au)
      · obtain rfl : i = 2 * fr + 1 := by omega
        obtain ⟨r1, r2, r3⟩ := rough_same (W := W) (H := H) (f := f) hx hy fr
        obtain ⟨q1, q2⟩ := sqR_in hf (W := W) (H := H) x y hf8 (2 * fr + 1)
        rw [← rough_congr r1 r2 r3]
        clear r1 r2 r3
        generalize sqR W H f x y fr (2 * fr + 1) = L at *
        have hrn := rough_in q2 (by omega)
        rcases Nat.eq_zero_or_pos L.length with h0 | h0
        · have e : roughR L = (0, 0) := if_pos h0
          rw [e]
          refine z_tas
          all_goals first
            | exact j_out2 rfl rfl rfl (.nil _) rfl
            | (exfalso; omega)
        · have e : roughR L = (((isq (roughX L) : Nat) : Int), ((L.length : Nat) : Int)) := if_neg (by omega)
          rw [e]
          refine z_tas
          all_goals try (exfalso; omega)
          refine c_loop (X := Nat) (fun i => i ≤ L.length) (fun i => [(11, .slice A1 L.length c1), (12, .int .i64 (sumZ L)), (17, .int .i64 L.length), (18, .int .i64 (sqZ (L.take i) * L.length)), (19, .int .i64 i)])
            (fun _ => [.row (.slice A1 L.length c1) 2 1 L.length (ints .i64 L)]) (fun i => L.length - i) 0 (Nat.zero_le _) ⟨rfl, rfl, rfl, by simp [look, sqZ], rfl, trivial⟩ Sub.au ?_
          intro i hi
          rcases Nat.lt_or_ge i L.length with h | h
          · have hz1 := q2 (L.getD i 0) (by rw [List.getD, List.getElem?_eq_getElem h]; exact List.getElem_mem h)
            have es := sqZ_take L i h
            have hm1 := mulB 32768 32768 (a := L.getD i 0) (b := L.getD i 0) (by omega) (by omega)
            have hm2 := mulB 1073741824 289 (a := L.getD i 0 * L.getD i 0) (b := (L.length : Nat)) (by omega) (by omega)
            have hsi := (sum_in (L.take i) (fun z hz => q2 z (List.mem_of_mem_take hz))).2
            rw [List.length_take, Nat.min_eq_left (by omega)] at hsi
            have hm3 := mulB 310311387136 289 (a := sqZ (L.take i)) (b := (L.length : Nat)) (by omega) (by omega)
            have es2 : sqZ (L.take i) * L.length + L.getD i 0 * L.getD i 0 * L.length = sqZ (L.take (i + 1)) * L.length := by rw [es, Int.add_mul]
            refine z_tas
            refine j_opn (A := A1) (m := L.length) (cc := c1) (by omega) (fun g hg => ?_)
            subst hg
            refine c_drx _ [false, true, true, true, true, true, true, true, true, true, true, true, false, false] [0, 12, 13] (Sub.refl _) rfl (by decide) (by decide +kernel) ?_
            refine z_gob
            rw [es2]
            exact c_round (i + 1) (by show i + 1 ≤ _; omega) (by show _ - (i + 1) < _ - i; omega) ⟨rfl, rfl, rfl, rfl, by simp [look], trivial⟩ Sub.au
          · obtain rfl : i = L.length := by omega
            rw [List.take_length]
            have hnn : 0 < ((L.length : Nat) : Int) * (L.length : Nat) := Int.mul_pos (by omega) (by omega)
            obtain ⟨x1, x2⟩ := roughX_eq L
            have x3 := isq_lt x2
            have eE : roughE L = 256 * (sqZ L * (L.length : Nat) - sumZ L * sumZ L) := by unfold roughE; omega
            rw [eE] at x1
            refine z_tas
            refine j_set 111 _ rfl (congrArg (Value.int .u64) x1) ?_
            refine z_tas
            refine lfv rfl rfl rfl (fun w _ => rfloor_any (roughX L) w x2) ?_
            refine z_tas
            exact j_out2 rfl rfl rfl (.nil _) rfl
end Go.Proofs.Ytpmomimaihjmjaa
/- Layer 10, the plain law: which tiles are at hand. -/
namespace Go.Proofs.Ytpmomimaihjmjaa
abbrev tS (l : List Slt) (k : Nat) : Int := (l.getD k default).t
abbrev uS (l : List Slt) (k : Nat) : Int := (l.getD k default).u
/-- Slots, as they were used, the last one first. -/
structure Rel (room : Nat) (l : List Slt) (clock : Int) (ks : List Nat) : Prop where
  desc : ks.Pairwise fun a b => uS l b < uS l a
  lt : ∀ k ∈ ks, k < room ∧ 0 ≤ tS l k ∧ uS l k ≤ clock
  all : ∀ k, k < room → 0 ≤ tS l k → k ∈ ks
  dis : ∀ j k, j < room → k < room → 0 ≤ tS l j → tS l j = tS l k → j = k
theorem Rel.nodup {room : Nat} {l : List Slt} {clock : Int} {ks : List Nat} (h : Rel room l clock ks) : ks.Nodup := h.desc.imp fun h e => by subst e; omega
theorem pigeon : ∀ (n : Nat) (l : List Nat), l.Nodup → (∀ x ∈ l, x < n) → l.length ≤ n
  | 0, l, _, h => by
    cases l with
    | nil => exact Nat.le_refl _
    | cons x r => exact absurd (h x (List.mem_cons_self ..)) (by omega)
  | n + 1, l, hd, h => by
    have h1 := pigeon n (l.erase n) (hd.erase n) (fun x hx => by
      have h2 := h x (List.mem_of_mem_erase hx)
      have h3 : x ≠ n := fun e => by subst e; exact hd.not_mem_erase hx
      omega)
    have h4 : l.length ≤ (l.erase n).length + 1 := by
      rw [List.length_erase]; split <;> omega
    omega
theorem full_len {n : Nat} {l : List Nat} (h : ∀ x, x < n → x ∈ l) : n ≤ l.length := by
  have : ∀ (m : Nat) (l : List Nat), (∀ x, x < m → x ∈ l) → m ≤ l.length := by
    intro m
    induction m with
    | zero => intro l _; exact Nat.zero_le _
    | succ m ih =>
      intro l hl
      have hm := hl m (by omega)
      have h1 := ih (l.erase m) (fun x hx => (List.mem_erase_of_ne (by omega)).2 (hl x (by omega)))
      have h2 := List.length_erase_of_mem hm
      have h3 := List.length_pos_of_mem hm
      omega
  exact this n l h
theorem bestH_spec (l : List Slt) (last : Int) : ∀ i, ((∀ j, j < i → ¬ (0 ≤ tS l j ∧ uS l j < last)) ∧ bestH l last i = -1) ∨ ∃ b : Nat, bestH l last i = b ∧ b < i ∧ (0 ≤ tS l b ∧ uS l b < last) ∧ ∀ j, j < i → 0 ≤ tS l j ∧ uS l j < last → uS l j ≤ uS l b
  | 0 => .inl ⟨fun j hj => by omega, rfl⟩
  | i + 1 => by
    rw [bestH]
    rcases bestH_spec l last i with ⟨h1, h2⟩ | ⟨b, h1, h2, h3, h4⟩
    · rw [h2]
      split
      · rename_i h
        refine .inr ⟨i, rfl, by omega, ⟨h.1, h.2.1⟩, fun j hj hq => ?_⟩
        rcases Nat.lt_or_ge j i with h5 | h5
        · exact absurd hq (h1 j h5)
        · obtain rfl : j = i := by omega
          exact Int.le_refl _
      · rename_i h
        refine .inl ⟨fun j hj hq => ?_, rfl⟩
        rcases Nat.lt_or_ge j i with h5 | h5
        · exact h1 j h5 hq
        · obtain rfl : j = i := by omega
          exact h ⟨hq.1, hq.2, .inl (by omega)⟩
    · rw [h1, Int.toNat_natCast]
      split
      · rename_i h
        have hu : uS l b < uS l i := by
          rcases h.2.2 with h5 | h5
          · omega
          · exact h5
        refine .inr ⟨i, rfl, by omega, ⟨h.1, h.2.1⟩, fun j hj hq => ?_⟩
        rcases Nat.lt_or_ge j i with h5 | h5
        · have := h4 j h5 hq; omega
        · obtain rfl : j = i := by omega
          exact Int.le_refl _
      · rename_i h
        refine .inr ⟨b, rfl, by omega, h3, fun j hj hq => ?_⟩
        rcases Nat.lt_or_ge j i with h5 | h5
        · exact h4 j h5 hq
        · obtain rfl : j = i := by omega
          rcases Int.lt_or_le (uS l b) (uS l j) with h6 | h6
          · exact absurd ⟨hq.1, hq.2, .inr h6⟩ h
          · exact h6
theorem held_rel {room : Nat} {l : List Slt} {clock : Int} {ks : List Nat} (h : Rel room l clock ks) : ∀ (rest pre : List Nat) (last : Int) (m : Nat), ks = pre ++ rest → rest.length ≤ m → (∀ k ∈ pre, last ≤ uS l k) → (∀ k ∈ rest, uS l k < last) → heldN l room m last = rest.map (tS l)
  | [], pre, last, m, he, _, hp, _ => by
    cases m with
    | zero => rfl
    | succ m =>
      rcases bestH_spec l last room with ⟨-, h2⟩ | ⟨b, -, h2, h3, -⟩
      · rw [heldN, h2]; rfl
      · have hb := h.all b h2 h3.1
        rw [he, List.append_nil] at hb
        have := hp b hb
        omega
  | k :: r, pre, last, m, he, hm, hp, hr => by
    cases m with
    | zero => simp at hm
    | succ m =>
      have hk : k ∈ ks := by rw [he]; simp
      obtain ⟨hk1, hk2, -⟩ := h.lt k hk
      have hkl := hr k (List.mem_cons_self ..)
      have hd := h.desc
      rw [he] at hd
      have hd2 := List.pairwise_cons.1 (List.pairwise_append.1 hd).2.1
      rcases bestH_spec l last room with ⟨h1, -⟩ | ⟨b, h1, h2, h3, h4⟩
      · exact absurd ⟨hk2, hkl⟩ (h1 k hk1)
      · have hb := h.all b h2 h3.1
        have hub := h4 k hk1 ⟨hk2, hkl⟩
        obtain rfl : b = k := by
          rw [he] at hb
          rcases List.mem_append.1 hb with h5 | h5
          · have := hp b h5; omega
          · rcases List.mem_cons.1 h5 with h6 | h6
            · exact h6
            · have := hd2.1 b h6; omega
        rw [heldN, h1, if_neg (by omega), Int.toNat_natCast, List.map_cons]
        congr 1
        refine held_rel h r (pre ++ [b]) _ m (by rw [he]; simp) (by simp at hm; omega) (fun k hk => ?_) (fun k hk => hd2.1 k hk)
        rcases List.mem_append.1 hk with h5 | h5
        · have := hp k h5
          show uS l b ≤ uS l k
          omega
        · rw [List.mem_singleton.1 h5]; exact Int.le_refl _
theorem Rel.held {room : Nat} {l : List Slt} {clock : Int} {ks : List Nat} (h : Rel room l clock ks) : heldN l room room (clock + 1) = ks.map (tS l) :=
  held_rel h ks [] _ room rfl (pigeon room ks h.nodup fun x hx => (h.lt x hx).1) (fun k hk => (by cases hk)) (fun k hk => by have := (h.lt k hk).2.2; omega)
theorem useL_eq (L : List Int) (n : Int) : ∀ i, i ≤ L.length → useL L n i = n :: (L.take i).filter (fun x => decide (x ≠ n)) ∧ metB L n i = (L.take i).any fun x => decide (x = n)
  | 0, _ => by simp [useL, metB]
  | i + 1, hi => by
    obtain ⟨h1, h2⟩ := useL_eq L n i (by omega)
    have e : L.getD i 0 = L[i] := by simp [List.getD_eq_getElem?_getD, List.getElem?_eq_getElem (show i < L.length by omega)]
    rw [useL, metB, h1, h2, e, List.take_succ_eq_append_getElem (by omega), List.filter_append, List.any_append]
    constructor
    · split <;> rename_i h <;> simp [h]
    · simp
theorem useL_all (L : List Int) (n : Int) : useL L n L.length = n :: L.filter (fun x => decide (x ≠ n)) ∧ metB L n L.length = L.any fun x => decide (x = n) := by
  have := useL_eq L n L.length (Nat.le_refl _)
  rwa [List.take_length] at this
theorem oldTo_min (l : List Slt) : ∀ i, ∀ j, j < i → uS l (oldTo l i) ≤ uS l j
  | 0, j, h => by omega
  | i + 1, j, h => by
    rw [oldTo]
    rcases Nat.lt_or_ge j i with h1 | h1
    · have := oldTo_min l i j h1
      split
      · rename_i h2; have h3 : uS l i < uS l (oldTo l i) := h2; omega
      · exact this
    · obtain rfl : j = i := by omega
      split
      · exact Int.le_refl _
      · rename_i h2; exact Int.not_lt.1 h2
theorem set_other {l : List Slt} {k j : Nat} {s : Slt} (h : j ≠ k) : (l.set k s).getD j default = l.getD j default := by rw [List.getD_eq_getElem?_getD, List.getElem?_set_ne (fun e => h e.symm), List.getD_eq_getElem?_getD]
theorem Rel.zero {room : Nat} (hr : room ≤ 32) : Rel room (newTo room) 0 [] :=
  ⟨.nil, fun k hk => (by cases hk), fun k hk h => (by rw [show tS (newTo room) k = -1 from newTo_neg room hr k hk] at h; omega), fun j k hj _ h => by rw [show tS (newTo room) j = -1 from newTo_neg room hr j hj] at h; omega⟩
theorem Rel.next {ys : List Int} {room n k : Nat} {l l' : List Slt} {clock met miss met' miss' : Int} {ks : List Nat} (h : Rel room l clock ks) (hl : room ≤ l.length) (hk : k < room) (hg : GetsC ys l room clock met miss n k l' met' miss') :
    ∃ ks', Rel room l' (clock + 1) ks' ∧ ks'.map (tS l') = (useL (ks.map (tS l)) n (ks.map (tS l)).length).take room ∧ met' = (if metB (ks.map (tS l)) n (ks.map (tS l)).length then met + 1 else met) ∧ miss' = (if metB (ks.map (tS l)) n (ks.map (tS l)).length then miss else miss + 1) := by
  rw [(useL_all ..).1, (useL_all ..).2]
  have hks := pigeon room ks h.nodup fun x hx => (h.lt x hx).1
  -- slot k was used now, holds n; the others are as they were
  have key : ∀ (s : Slt) (ks1 : List Nat), l' = l.set k s → s.t = n → s.u = clock + 1 → (∀ j ∈ ks1, j ≠ k ∧ j ∈ ks) → ks1.Pairwise (fun a b => uS l b < uS l a) → (∀ j, j < room → j ≠ k → 0 ≤ tS l j → j ∈ ks1 ∧ tS l j ≠ n) → Rel room l' (clock + 1) (k :: ks1) ∧ (k :: ks1).map (tS l') = (n : Int) :: ks1.map (tS l) := by
    intro s ks1 e et eu h1 h2 h3
    have a1 : tS l' k = n := by show (l'.getD k default).t = n; rw [e, getD_set_self (by omega), et]
    have a2 : uS l' k = clock + 1 := by show (l'.getD k default).u = clock + 1; rw [e, getD_set_self (by omega), eu]
    have a3 : ∀ j, j ≠ k → l'.getD j default = l.getD j default := fun j hj => by rw [e]; exact set_other hj
    have a4 : ∀ j, j ≠ k → tS l' j = tS l j := fun j hj => congrArg Slt.t (a3 j hj)
    have a5 : ∀ j, j ≠ k → uS l' j = uS l j := fun j hj => congrArg Slt.u (a3 j hj)
    refine ⟨⟨List.pairwise_cons.2 ⟨fun j hj => ?_, ?_⟩, fun j hj => ?_, fun j hj ht => ?_, fun i j hi hj ht he => ?_⟩, ?_⟩
    · rw [a2, a5 j (h1 j hj).1]; have := (h.lt j (h1 j hj).2).2.2; omega
    · refine h2.imp_of_mem fun {a b} ha hb hab => ?_
      rw [a5 a (h1 a ha).1, a5 b (h1 b hb).1]; exact hab
    · rcases List.mem_cons.1 hj with rfl | hj
      · exact ⟨hk, by rw [a1]; omega, by rw [a2]; exact Int.le_refl _⟩
      · obtain ⟨b1, b2⟩ := h1 j hj
        obtain ⟨c1, c2, c3⟩ := h.lt j b2
        exact ⟨c1, by rw [a4 j b1]; exact c2, by rw [a5 j b1]; omega⟩
    · by_cases hjk : j = k
      · rw [hjk]; exact List.mem_cons_self ..
      · rw [a4 j hjk] at ht
        exact List.mem_cons_of_mem _ (h3 j hj hjk ht).1
    · by_cases hik : i = k <;> by_cases hjk : j = k
      · omega
      · subst hik
        rw [a1, a4 j hjk] at he
        exact absurd he.symm (h3 j hj hjk (by omega)).2
      · subst hjk
        rw [a1, a4 i hik] at he
        rw [a4 i hik] at ht
        exact absurd he (h3 i hi hik ht).2
      · rw [a4 i hik, a4 j hjk] at he
        rw [a4 i hik] at ht
        exact h.dis i j hi hj ht he
    · rw [List.map_cons, a1]
      congr 1
      exact List.map_congr_left fun j hj => a4 j (h1 j hj).1
  rcases hg with ⟨h1, -, h3, h4, h5⟩ | ⟨h0, hold, ⟨zs, -, h2⟩, h4, h5⟩
  · have hkm : k ∈ ks := h.all k hk (by show 0 ≤ (l.getD k default).t; omega)
    obtain ⟨r1, r2⟩ := key _ (ks.filter fun j => decide (j ≠ k)) h3 h1 rfl (fun j hj => by have := List.mem_filter.1 hj; exact ⟨by simpa using this.2, this.1⟩) (h.desc.filter _) (fun j hj hjk ht => ⟨List.mem_filter.2 ⟨h.all j hj ht, by simpa using hjk⟩, fun e => hjk (h.dis j k hj hk ht (e.trans h1.symm))⟩)
    have hany : ((ks.map (tS l)).any fun x => decide (x = (n : Int))) = true := List.any_eq_true.2 ⟨tS l k, List.mem_map_of_mem hkm, decide_eq_true h1⟩
    rw [hany, if_pos rfl, if_pos rfl]
    refine ⟨_, r1, ?_, h4, h5⟩
    have hlen : (k :: ks.filter fun j => decide (j ≠ k)).length ≤ room := pigeon room _ r1.nodup fun x hx => (r1.lt x hx).1
    have e2 : (ks.map (tS l)).filter (fun x => decide (x ≠ (n : Int))) = (ks.filter fun j => decide (j ≠ k)).map (tS l) := by
      rw [List.filter_map]
      congr 1
      refine List.filter_congr fun j hj => ?_
      have hj' := h.lt j hj
      simp only [Function.comp_apply, decide_eq_decide]
      exact not_congr ⟨fun e => h.dis j k hj'.1 hk hj'.2.1 (e.trans h1.symm), fun e => by rw [e]; exact h1⟩
    rw [r2, e2, List.take_of_length_le]
    simpa using hlen
  · have hnot : ∀ j ∈ ks, tS l j ≠ n := fun j hj => h0 j (h.lt j hj).1
    have hany : ((ks.map (tS l)).any fun x => decide (x = (n : Int))) = false := by
      rw [List.any_eq_false]
      intro x hx
      obtain ⟨j, hj, rfl⟩ := List.mem_map.1 hx
      simpa using hnot j hj
    have hfil : (ks.map (tS l)).filter (fun x => decide (x ≠ (n : Int))) = ks.map (tS l) := List.filter_eq_self.2 fun x hx => by
      obtain ⟨j, hj, rfl⟩ := List.mem_map.1 hx
      simpa using hnot j hj
    rw [hany, hfil, if_neg (by simp), if_neg (by simp)]
    rcases hold with ⟨hneg, -⟩ | ⟨hfull, rfl⟩
    · have hkn : k ∉ ks := fun hm => by have : 0 ≤ (l.getD k default).t := (h.lt k hm).2.1; omega
      obtain ⟨r1, r2⟩ := key _ ks h2 rfl rfl (fun j hj => ⟨fun e => hkn (e ▸ hj), hj⟩) h.desc (fun j hj hjk ht => ⟨h.all j hj ht, h0 j hj⟩)
      refine ⟨_, r1, ?_, h4, h5⟩
      have hlen : (k :: ks).length ≤ room := pigeon room _ r1.nodup fun x hx => (r1.lt x hx).1
      rw [r2, List.take_of_length_le]
      simpa using hlen
    · have hmin := oldTo_min l room
      have hkm : oldTo l room ∈ ks := h.all _ hk (hfull _ hk)
      have hrl := full_len (n := room) (l := ks) (fun x hx => h.all x hx (hfull x hx))
      generalize oldTo l room = k at *
      obtain ⟨r1, r2⟩ := key _ (ks.filter fun j => decide (j ≠ k)) h2 rfl rfl (fun j hj => by have := List.mem_filter.1 hj; exact ⟨by simpa using this.2, this.1⟩) (h.desc.filter _) (fun j hj hjk ht => ⟨List.mem_filter.2 ⟨h.all j hj ht, by simpa using hjk⟩, h0 j hj⟩)
      refine ⟨_, r1, ?_, h4, h5⟩
      rw [r2]
      have hne : ks ≠ [] := List.ne_nil_of_mem hkm
      have hdl := List.dropLast_concat_getLast hne
      have hd := h.desc
      rw [← hdl] at hd
      have hda := List.pairwise_append.1 hd
      have hlast : ks.getLast hne = k := by
        rw [← hdl] at hkm
        rcases List.mem_append.1 hkm with h6 | h6
        · have h7 := hda.2.2 k h6 (ks.getLast hne) (List.mem_singleton.2 rfl)
          have h8 := hmin (ks.getLast hne) (h.lt _ (List.getLast_mem hne)).1
          omega
        · exact (List.mem_singleton.1 h6).symm
      have hfl : (ks.filter fun j => decide (j ≠ k)) = ks.dropLast := by
        conv => lhs; rw [← hdl]
        rw [List.filter_append, hlast]
        have e1 : (ks.dropLast.filter fun j => decide (j ≠ k)) = ks.dropLast := List.filter_eq_self.2 fun j hj => by
          have h7 := hda.2.2 j hj k (by rw [hlast]; exact List.mem_singleton.2 rfl)
          have : j ≠ k := fun e => by subst e; omega
          simpa using this
        rw [e1]
        simp
      rw [hfl, List.dropLast_eq_take, show ks.length - 1 = room - 1 by omega]
      have hr1 : room = (room - 1) + 1 := by omega
      conv => rhs; rw [hr1]
      rw [List.take_succ_cons, List.map_take]
end Go.Proofs.Ytpmomimaihjmjaa
/- Layer 10: what the statements' own check reckons. -/
namespace Go.Proofs.Ytpmomimaihjmjaa
open Go.RowKit
/-- What Height does to what is at hand. -/
theorem HgtS.rel {ys f : List Int} {room : Nat} {s s' : CaV} {x y b : Int} {ks : List Nat} (hg : HgtS ys room s x y s') (hF : CaF ys f room) (h : CaOk ys f room s b) (hR : Rel room s.l s.clock ks) (ho : ¬ (x < 0 ∨ y < 0 ∨ (wY ys : Int) ≤ x ∨ (hY ys : Int) ≤ y)) :
    ∃ ks', Rel room s'.l s'.clock ks' ∧ ks'.map (tS s'.l) = (useL (ks.map (tS s.l)) (y.toNat / 16 * cntF (wY ys) + x.toNat / 16 : Nat) (ks.map (tS s.l)).length).take room ∧ s'.met = (if metB (ks.map (tS s.l)) (y.toNat / 16 * cntF (wY ys) + x.toNat / 16 : Nat) (ks.map (tS s.l)).length then s.met + 1 else s.met) ∧ s'.miss = (if metB (ks.map (tS s.l)) (y.toNat / 16 * cntF (wY ys) + x.toNat / 16 : Nat) (ks.map (tS s.l)).length then s.miss else s.miss + 1) := by
  rcases hg with ⟨h1, -⟩ | ⟨-, k, hk, h1, h2⟩
  · exact absurd h1 ho
  · rw [h2]
    exact hR.next (by have := h.len; have := hF.room; omega) hk h1
def zf10 : List Int := fieldF [5, 6, -32768] 160
theorem zf10_len : zf10.length = 160 := by decide +kernel
theorem zf10_in : In16 zf10 := in16_of (fun x hx => by
  have h : ∀ y ∈ zf10, -32768 ≤ y ∧ y ≤ 32767 := by decide +kernel
  exact h x hx)
theorem works10_plain {ys : List Int} {room : Nat} (hr : room = 4) (hw : wY ys = 32) (hh : hY ys = 5) (hF : CaF ys zf10 room) {s1 s2 s3 s4 : CaV} (h1 : HgtS ys room (newV 4) 1 0 s1) (h2 : HgtS ys room s1 2 0 s2) (h3 : HgtS ys room s2 32 0 s3) (h4 : HgtS ys room s3 20 0 s4) : s4.met = 1 ∧ s4.miss = 2 ∧ heldN s4.l room room (s4.clock + 1) = [1, 0] := by
  subst hr
  have k0 : CaOk ys zf10 4 (newV 4) 0 := newV_ok (by omega)
  obtain ⟨ks1, r1, e1, m1, i1⟩ := h1.rel hF k0 (Rel.zero (by omega)) (by rw [hw, hh]; decide)
  have k1 := h1.ok hF k0
  obtain ⟨ks2, r2, e2, m2, i2⟩ := h2.rel hF k1 r1 (by rw [hw, hh]; decide)
  have k2 := h2.ok hF k1
  obtain rfl : s3 = s2 := by
    rcases h3 with ⟨-, h⟩ | ⟨h, -⟩
    · exact h
    · rw [hw, hh] at h; exact absurd (by decide) h
  obtain ⟨ks4, r4, e4, m4, i4⟩ := h4.rel hF k2 r2 (by rw [hw, hh]; decide)
  rw [hw] at e1 m1 i1 e2 m2 i2 e4 m4 i4
  rw [e1] at e2 m2 i2
  rw [e2] at e4 m4 i4
  rw [r4.held, e4, m4, i4, m2, i2, m1, i1]
  exact ⟨by decide, by decide, by decide⟩
attribute [local irreducible] OJ J HdJ Code.wpIn wpListIn Oper.wpIn bodyPost CallsIn Does
set_option maxRecDepth 4000
set_option maxHeartbeats 64000000 in
theorem works_any10 (w : World) : Does Try.prog 14 [] [] w (fun v S' => v = .bool true ∧ S' = []) := by
  refine does_of Try.func14 rfl Try.ntmps14 rfl ⟨by simp, .nil⟩ (fun n => ?_)
  simp only [slots]
  have hzl := zf10_len
  have hzi := zf10_in
  refine z_tas
  rename_i b18
  refine lf rfl rfl rfl (S := []) (fun w hw ho => made_any 30 3 (by decide) (by decide) 32 5 (by decide) (by decide) (some ⟨b18, 0, none⟩) 3 [5, 6, -32768] 30 (by decide) 0 0 w ⟨Ro.row hw (Split.nil _) (.here _ _)⟩ (by decide)) ?_
  rintro v S' ⟨Af, cf, rfl, rfl⟩
  have ez : fieldF [5, 6, -32768] (32 * 5) = zf10 := rfl
  rw [ez]
  have z20 : (heightF 32 5 zf10 20 0).1 = zf10.getD 20 0 ∧ (heightF 32 5 zf10 20 0).2 = 0 := by decide +kernel
  have z1 : (heightF 32 5 zf10 1 0).1 = 6 ∧ (heightF 32 5 zf10 1 0).2 = 0 := by decide +kernel
  have z2 : (heightF 32 5 zf10 2 0).1 = 0 ∧ (heightF 32 5 zf10 2 0).2 = 8 := by decide +kernel
  have z3 : (heightF 32 5 zf10 32 0).1 = 0 ∧ (heightF 32 5 zf10 32 0).2 = 9 := by decide +kernel
  refine z_tas
  refine lf rfl rfl rfl (S := []) (fun w hw ho => open10 32 5 31 Af cf zf10 0 0 4 w ⟨Ro.row hw (Split.nil _) (by refine z_hs)⟩ (by omega) (by rw [hzl]) hzi (by decide) (by decide) (by omega)) ?_
  rintro v S' ⟨K, hys, hrm, rfl, rfl⟩
  have hF : CaF K.ys zf10 K.room := by rw [hys, hrm]; exact caF_of (by omega) (by rw [hzl]) hzi (by omega)
  have hh : wY K.ys = 32 ∧ hY K.ys = 5 := by rw [hys]; decide +kernel
  have k0 : CaOk K.ys zf10 K.room (newV 4) 0 := by rw [hrm]; exact newV_ok (by omega)
  have hpl := fun s1 s2 s3 s4 => works10_plain (s1 := s1) (s2 := s2) (s3 := s3) (s4 := s4) hrm hh.1 hh.2 hF
  generalize hzz : zf10 = f at *
  rw [← hh.1, ← hh.2] at z1 z2 z3 z20
  refine z_tas
  refine lf rfl rfl rfl (S := K.H (newV 4)) (fun w hw ho => height_c K (newV 4) f 1 0 0 w ho hF k0 (by omega)) ?_
  rintro v S' ⟨s1, rfl, g1, rfl⟩
  have k1 := g1.ok hF k0
  rw [z1.1, z1.2]
  refine z_tas
  refine lf rfl rfl rfl (S := K.H s1) (fun w hw ho => height_c K s1 f 2 0 (0 + 1) w ho hF k1 (by omega)) ?_
  rintro v S' ⟨s2, rfl, g2, rfl⟩
  have k2 := g2.ok hF k1
  rw [z2.1, z2.2]
  refine z_tas
  refine lf rfl rfl rfl (S := K.H s2) (fun w hw ho => height_c K s2 f 32 0 (0 + 1 + 1) w ho hF k2 (by omega)) ?_
  rintro v S' ⟨s3, rfl, g3, rfl⟩
  have k3 := g3.ok hF k2
  rw [z3.1, z3.2]
  refine z_tas
  refine lf rfl rfl rfl (S := K.H s3) (fun w hw ho => height_c K s3 f 20 0 (0 + 1 + 1 + 1) w ho hF k3 (by omega)) ?_
  rintro v S' ⟨s4, rfl, g4, rfl⟩
  have k4 := g4.ok hF k3
  obtain ⟨p1, p2, p3⟩ := hpl s1 s2 s3 s4 g1 g2 g3 g4
  rw [z20.1, z20.2]
  refine z_tas
  refine lk rfl rfl rfl (S := [.blk K.g 132 (cacheE (preC K.ys K.A K.c K.A1 K.c1 K.A2 K.c2) s4.l K.room s4.clock s4.met s4.miss)]) (fun w hw ho => met_any K.g (preC K.ys K.A K.c K.A1 K.c1 K.A2 K.c2) s4.l K.room s4.clock s4.met s4.miss w ho rfl k4.slts k4.len) ?_
  refine z_tas
  refine lf rfl rfl rfl (S := [.blk K.g 132 (cacheE (preC K.ys K.A K.c K.A1 K.c1 K.A2 K.c2) s4.l K.room s4.clock s4.met s4.miss)]) (fun w hw ho => held_any K.g (preC K.ys K.A K.c K.A1 K.c1 K.A2 K.c2) s4.l K.room s4.clock s4.met s4.miss w ho rfl k4.slts k4.len (by omega) (by have := k4.clock; omega)) ?_
  rintro v S' ⟨Ah, ch, rfl, rfl⟩
  rw [p1, p2, p3]
  obtain ⟨L, hL, hL0, hL2⟩ : ∃ L : List Int, [1, 0] = L ∧ L.getD (Int.toNat 0) 0 = 1 ∧ L.length = 2 := ⟨_, rfl, by decide, rfl⟩
  rw [hL]
  refine z_tas
  refine lf rfl rfl rfl (S := []) (fun w hw ho => new_c none 0 [] 4 w ⟨Ro.nil _ _ _⟩ (fun x hx => by cases hx) (by decide) (by decide)) ?_
  rintro v S' (⟨code, hne, rfl, rfl, ⟨h, -⟩ | ⟨-, h⟩⟩ | ⟨-, h, -⟩)
  · exfalso; omega
  case inr =>
    exfalso
    rcases h with ⟨h, -⟩ | ⟨h, -⟩ | ⟨h, -⟩
    · exact h rfl
    · exact absurd h (by decide)
    · exact absurd h (by decide)
  obtain rfl : code = 5 := by
    rcases h with ⟨-, h⟩ | ⟨h, -⟩ | ⟨h, -⟩
    · exact h.symm
    · exact absurd h (by decide)
    · exact absurd h (by decide)
  refine z_tas
  refine lf rfl rfl rfl (S := []) (fun w hw ho => new_c none 0 [] 3 w ⟨Ro.nil _ _ _⟩ (fun x hx => by cases hx) (by decide) (by decide)) ?_
  rintro v S' (⟨code, hne, rfl, rfl, ⟨-, rfl⟩ | ⟨h, -⟩⟩ | ⟨h, -⟩)
  rotate_left
  · exact absurd (.inl (by decide)) h
  · exact absurd (.inl (by decide)) h
  refine z_tas
  refine lk rfl rfl rfl (S := K.H ⟨s4.l, s4.clock, 1, 2⟩) (fun w hw ho => chart_c K ⟨s4.l, s4.clock, 1, 2⟩ w ho) ?_
  rw [hh.1]
  refine z_tas
  exact j_out1 rfl rfl (.nil _) ⟨rfl, rfl⟩
end Go.Proofs.Ytpmomimaihjmjaa
/- Layer 11: what the statements' own check reckons. -/
namespace Go.Proofs.Ytpmomimaihjmjaa
open Go.RowKit
theorem run_eqSpot (t u : TypeId) (x y : Operand) (a b c d : Int) (ht : t = 61) : PV Try.prog (.binOp .eql t x y u) [.agg #[.int .i64 a, .int .i64 b], .agg #[.int .i64 c, .int .i64 d]] (.bool (a == c && b == d)) True := ⟨by
  subst ht
  rintro _ ρ ⟨dst, op', ty, pos, aft, gd⟩ rfl h w
  obtain ⟨h1, h2⟩ := map2 h
  have u2 := Try.underlying2
  have a2 := Try.isAgg2
  have z2 := Try.sizeOf2
  have hS : Try.prog.underlying 61 = some (.struct (Try.prog.fieldsOf 61)) := by kernel_rfl
  have hp : Try.prog.stoodInHeld 61 = false := by kernel_rfl
  have hm : Try.prog.eqGuardType Try.prog.depth 61 = false := by kernel_rfl
  simp only [execOp, h1, h2, Sem.run_bind, run_eqGuard_agg w _ _ _ _ _ _ hm, Result.andThen_ok]
  rw [run_eql_struct, show (10000 : Nat) = 9999 + 1 from rfl, run_equalIn_agg w 9999 61 _ _ hS hp]
  simp only [Program.fieldsOf, Try.underlying61]
  go_simp
  by_cases h1 : a = c <;> by_cases h2 : b = d <;> simp [h1, h2]⟩
instance (u : TypeId) (x y : Operand) (a b c d : Int) : PV Try.prog (.binOp .eql 61 x y u) [.agg #[.int .i64 a, .int .i64 b], .agg #[.int .i64 c, .int .i64 d]] (.bool (a == c && b == d)) True := run_eqSpot _ u x y a b c d rfl
instance {w0 : World} {W : Nat → Prop} {H : List HE} (u : TypeId) (x y : Operand) (a b c d : Int) : MS Try.prog w0 W H (.binOp .eql 61 x y u) [.agg #[.int .i64 a, .int .i64 b], .agg #[.int .i64 c, .int .i64 d]] (.bool (a == c && b == d)) True := ⟨by
  intro _ F n N ds σ dd ty pos aft gd K Q _ hv hdN h
  exact o_val (by simp) rfl hdN (fun a w ha _ => pq_of (o := ⟨some dd, _, ty, pos, aft, gd⟩) hv trivial a.eval (fun x _ u hu => ha.eval hu) w) h⟩
theorem works11_plain : ((heightT 2 2 [0, 16, 32, 48] 128 64 = 256 ∧ codeF 2 2 [0, 16, 32, 48] 128 64 = 0) ∧ (slopeT 2 2 [0, 16, 32, 48] 128 64).1 = 256 ∧ (slopeT 2 2 [0, 16, 32, 48] 128 64).2 = 512) ∧ codeF 2 2 [0, 16, 32, 48] 257 0 = 9 ∧ heightT 2 2 [0, 16, 32, 48] 257 0 = 0 ∧ heightT 2 2 [0, 16, 32, 48] 256 256 = 768 ∧ codeF 2 2 [0, 16, 32, 48] 256 256 = 0 := by decide +kernel
theorem works11_rough : (roughR (sqH 2 2 [0, 16, 32, 48] 0 0 1)).1 = 286 ∧ (roughR (sqH 2 2 [0, 16, 32, 48] 0 0 1)).2 = 4 := by
  have e : sqH 2 2 [0, 16, 32, 48] 0 0 1 = [0, 16, 32, 48] := by decide +kernel
  rw [e]
  have e2 : roughX [0, 16, 32, 48] = 81920 := by decide +kernel
  have e3 : isq 81920 = 286 := isq_of (by decide) (by decide)
  unfold roughR
  rw [if_neg (by decide), e2, e3]
  exact ⟨rfl, rfl⟩
attribute [local irreducible] OJ J HdJ Code.wpIn wpListIn Oper.wpIn bodyPost CallsIn Does
set_option maxRecDepth 4000
set_option maxHeartbeats 64000000 in
theorem works_any11 (w : World) : Does Try.prog 40 [] [] w (fun v S' => v = .bool true ∧ S' = []) := by
  refine does_of Try.func40 rfl Try.ntmps40 rfl ⟨by simp, .nil⟩ (fun n => ?_)
  simp only [slots]
  refine z_tas
  rename_i b19 b1
  refine lf rfl rfl rfl (S := []) (fun w hw ho => open10 2 2 30 (some ⟨b19, 0, none⟩) 4 [0, 16, 32, 48] 100 (-100) 4 w ⟨Ro.row hw (Split.nil _) (by refine z_hs)⟩ (by omega) rfl (in16_of (by decide)) (by decide) (by decide) (by omega)) ?_
  rintro v S' ⟨K, hys, hrm, rfl, rfl⟩
  have hF : CaF K.ys [0, 16, 32, 48] K.room := by rw [hys, hrm]; exact caF_of (by omega) rfl (in16_of (by decide)) (by omega)
  have hh : wY K.ys = 2 ∧ hY K.ys = 2 := by rw [hys]; decide +kernel
  have k0 : CaOk K.ys [0, 16, 32, 48] K.room (newV 4) 0 := by rw [hrm]; exact newV_ok (by omega)
  obtain ⟨⟨⟨p1, p2⟩, p3, p4⟩, p5, p6, p7, p8⟩ := works11_plain
  obtain ⟨p9, p10⟩ := works11_rough
  generalize hzz : ([0, 16, 32, 48] : List Int) = f at hF k0 p1 p2 p3 p4 p5 p6 p7 p8 p9 p10
  refine z_tas
  refine lf rfl rfl rfl (S := K.H (newV 4)) (fun w hw ho => height_t K (newV 4) f 128 64 0 w ho hF k0 (by omega)) ?_
  rintro v S' ⟨s1, rfl, k1, rfl⟩
  rw [hh.1, hh.2, p1, p2]
  refine z_tas
  refine lf rfl rfl rfl (S := K.H s1) (fun w hw ho => slope_t K s1 f 128 64 4 w ho hF k1 (by omega)) ?_
  rintro v S' ⟨s2, rfl, k2, rfl⟩
  rw [hh.1, hh.2, p2, p3, p4]
  refine z_tas
  refine lf rfl rfl rfl (S := K.H s2) (fun w hw ho => height_t K s2 f 257 0 8 w ho hF k2 (by omega)) ?_
  rintro v S' ⟨s3, rfl, k3, rfl⟩
  rw [hh.1, hh.2, p5, p6]
  refine z_tas
  refine lf rfl rfl rfl (S := K.H s3) (fun w hw ho => height_t K s3 f 256 256 12 w ho hF k3 (by omega)) ?_
  rintro v S' ⟨s4, rfl, k4, rfl⟩
  rw [hh.1, hh.2, p7, p8]
  refine z_tas
  refine lfv rfl rfl rfl (fun w _ => spot_any 2 2 (some ⟨b19, 0, none⟩) 4 4 30 100 (-100) 115 (-70) w (by omega) (by decide) (by decide)) ?_
  rw [if_neg (by decide), show ((115 - 100) * 256 / 30 : Int) = 128 from rfl, show ((-70 - -100) * 256 / 30 : Int) = 256 from rfl]
  refine z_tas
  refine lfv rfl rfl rfl (fun w _ => metres_any 2 2 (some ⟨b19, 0, none⟩) 4 4 30 100 (-100) 128 256 w (by omega) (by decide) (by decide)) ?_
  rw [if_neg (by decide), show ((2 * (128 * 30) + 256) / (2 * 256) + 100 : Int) = 115 from rfl, show ((2 * (256 * 30) + 256) / (2 * 256) + -100 : Int) = -70 from rfl]
  refine z_tas
  refine lf rfl rfl rfl (S := K.H s4) (fun w hw ho => rough_t K s4 f 0 0 1 16 w ho hF k4 (by omega)) ?_
  rintro v S' ⟨s5, rfl, k5, rfl⟩
  rw [hh.1, hh.2, p9, p10]
  refine z_tas
  refine lfv rfl rfl rfl (fun w _ => inside_any 2 2 (some ⟨b19, 0, none⟩) 4 4 30 100 (-100) 256 256 w (by omega)) ?_
  rw [show decide (InsP 2 2 256 256) = true from by decide]
  refine z_tas
  exact j_out1 rfl rfl (.nil _) ⟨rfl, rfl⟩
end Go.Proofs.Ytpmomimaihjmjaa
/- The way from a contract of a law's function to the given statement: what the arguments are, and what is left of them. -/
namespace Go.Proofs.Ytpmomimaihjmjaa
open Go.ChangeShapes Go.WideShapes Go.ChangeAt Go.RowKit Go.Deep Go.Joins

theorem below_of {P : Program} {f : FuncId} {args : List Value} {w : World} {v0 : Value} (h : Does P f args [] w (fun v _ => v = v0)) : Calls P f args.toArray w fun e w' => e = .returned v0 ∧ Below w.heap.size w w' := by
  refine h.calls.mono ?_
  rintro e w' ⟨v, S', rfl, rfl, hst⟩
  exact ⟨rfl, hst.os, hst.tape, hst.output, hst.size, fun k hk => hst.old k hk (by rintro ⟨x, hx, _⟩; cases hx)⟩

section
variable {H : Type} {enc : TypeId × Value → H} {P : Program} {w : World} {base : Nat} {spare : Nat → Bool} {held : Bool}
theorem post_below {f : Func} {s : ChangeSpec} {apart fresh handsOn again : Bool} {W W' : World} {args : Array Value} {v : Value} {ds gs : List (DataW H)} {before pa pv : List MemPlace}
    (hW : DataW.Whole enc P f.params.toList s.vars apart W args.toList ds gs before)
    (hres : ∀ (b : Nat) (sp : Nat → Bool) (hd : Bool), DataW.TrodAll enc P W' b sp hd f.resultTypes.toList (v.resultList f.resultTypes.size) (s.fn H (ds ++ gs)).results [])
    (hargs : ∀ sp : Nat → Bool, (∀ p ∈ before, sp p.block = true) → DataW.TrodAll enc P W' 0 sp true f.params.toList args.toList (s.fn H (ds ++ gs)).args pa)
    (hvars : ∀ sp : Nat → Bool, (∀ p ∈ before, sp p.block = true) → DataW.TrodVars enc P W' sp s.vars (s.fn H (ds ++ gs)).vars pv)
    (hps : before = pa ++ pv) (hb : Below W.heap.size W W')
    (hok : ∀ (j : Nat) (t : TypeId) (r : Value), f.resultTypes[j]? = some t → (v.resultList f.resultTypes.size)[j]? = some r → Value.okWide P W' .any 0 t r) :
    s.post enc P f apart fresh handsOn again W args v W' := by
  have hlt : ∀ p ∈ before, p.block < W.heap.size := fun p hp => hW.lt p hp
  have hold : ∀ p ∈ before, (fun b => decide (b < W.heap.size)) p.block = true := fun p hp => by simpa using hlt p hp
  refine ⟨ds, gs, before, [], pa, pv, hW, hres _ _ _, hargs _ hold, hvars _ hold, World.keptBut_mono (fun p hp => ⟨hp, ?_⟩) (hb.frame (· ∈ before)), fun _ => ?_⟩
  · rw [hps, List.mem_append] at hp
    exact Or.inr hp
  · obtain ⟨_, _, _, _, _, hz, hn⟩ := hW
    refine ⟨hok, _, _, ([] ++ pa) ++ pv, ⟨[] ++ pa, pv, trodAll_append (hargs _ (fun _ _ => rfl)) (hres _ _ _), hvars _ (fun _ _ => rfl), rfl, ?_, ?_⟩, ?_⟩
    · intro b off hp
      have hin : MemPlace.cell b off ∈ before := by rw [hps]; simpa using hp
      rw [hb.frozen (hlt _ hin)]
      exact hz b off hin
    · intro ha
      have := hn ha
      rw [hps] at this
      simpa using this
    · intro p hp _
      rw [hps]
      simpa using hp
theorem trodAll_stays (hl : laidOutB P = true) {W W' : World} {sp' : Nat → Bool} : ∀ (ts : List TypeId) (vs : List Value) (ds : List (DataW H)) (ps : List MemPlace), (∀ t ∈ ts, P.readableRec t = true ∧ t < P.types.size) →
    DataW.TrodAll enc P W base (fun _ => true) true ts vs ds ps → (∀ p ∈ ps, W.sameAt W' p) → (∀ p ∈ ps, sp' p.block = true) → DataW.TrodAll enc P W' base sp' true ts vs ds ps
  | [], [], [], ps, _, h, _, _ => h
  | t :: ts, v :: vs, d :: ds, ps, hr, h, hs, hsp => by
    obtain ⟨p, q, h1, h2, rfl⟩ := h
    have ht := hr t (by simp)
    exact ⟨p, q, Go.WideElems.Trod_stays hl ht.1 ht.2 h1 (fun x hx => hs x (by simp [hx])) (fun x hx => hsp x (by simp [hx])), trodAll_stays hl ts vs ds q (fun t ht => hr t (by simp [ht])) h2 (fun x hx => hs x (by simp [hx])) (fun x hx => hsp x (by simp [hx])), rfl⟩
  | [], _ :: _, _, _, _, h, _, _ => h.elim
  | [], [], _ :: _, _, _, h, _, _ => h.elim
  | _ :: _, [], _, _, _, h, _, _ => h.elim
  | _ :: _, _ :: _, [], _, _, h, _, _ => h.elim
theorem trodAll_len : ∀ (ts : List TypeId) (vs : List Value) (ds : List (DataW H)) (ps : List MemPlace), DataW.TrodAll enc P w base spare held ts vs ds ps → ds.length = ts.length
  | [], [], [], _, _ => rfl
  | t :: ts, v :: vs, d :: ds, ps, h => by
    obtain ⟨p, q, h1, h2, rfl⟩ := h
    rw [List.length_cons, List.length_cons, trodAll_len ts vs ds q h2]
  | [], _ :: _, _, _, h => h.elim
  | [], [], _ :: _, _, h => h.elim
  | _ :: _, [], _, _, h => h.elim
  | _ :: _, _ :: _, [], _, h => h.elim
/-- A law that returned true, and left all below as it was. -/
theorem gate_post {f : Func} {s : ChangeSpec} {W W' : World} {args : Array Value} {ds gs : List (DataW H)} {before : List MemPlace} {tb : TypeId} (hl : laidOutB P = true) (hub : P.underlying tb = some .bool)
    (hW : DataW.Whole enc P f.params.toList s.vars false W args.toList ds gs before) (hvars : s.vars = []) (hrt : f.resultTypes = #[tb])
    (hsp : ∀ es : List (DataW H), es.length = f.params.size → s.fn H es = { results := [.lit (.bool true)], args := es })
    (hread : ∀ t ∈ f.params.toList, P.readableRec t = true ∧ t < P.types.size) (hb : Below W.heap.size W W') : s.post enc P f false true false false W args (.bool true) W' := by
  have hW' := hW
  obtain ⟨p, q, hA, hV, hbe, hfz, hnd⟩ := hW
  rw [hvars] at hV
  obtain ⟨rfl, rfl⟩ := trodVars_none hV
  have hlen := trodAll_len _ _ _ _ hA
  have hfn := hsp ds (by rw [hlen]; simp)
  have hlt : ∀ x ∈ p, x.block < W.heap.size := fun x hx => hW'.lt x (by rw [hbe]; simp [hx])
  refine post_below (pa := p) (pv := []) hW' (fun _ _ _ => ?_) (fun sp hs => ?_) (fun _ _ => ?_) (by simpa using hbe) hb ?_
  · rw [List.append_nil, hfn, hrt]
    exact trodAll_mk1 (shut_bool hub true)
  · rw [List.append_nil, hfn]
    exact trodAll_stays hl _ _ _ _ hread hA (fun x hx => hb.same (hlt x hx)) (fun x hx => hs x (by rw [hbe]; simp [hx]))
  · rw [List.append_nil, hfn, hvars]
    rfl
  · exact ok_one hrt rfl (okWide_bool_mk hub true)

theorem wf_in {k : IntKind} {n : Int} (h : (Lit.int k n).wf = true) : InR k n := by
  cases k <;> simp [Lit.wf, IntKind.min, IntKind.max, IntKind.signed, IntKind.bits] at h <;> simp only [InR] <;> omega
theorem gate_int {r : Reach} {b0 : Nat} {t : TypeId} {k : IntKind} {v : Value} {d : DataW H} {ps : List MemPlace} (ht : P.underlying t = some (.int k)) (hval : Value.okWide P w r b0 t v) (hd : DataW.Trod enc P w base spare held t v d ps) : ∃ n, v = .int k n ∧ InR k n := by
  obtain ⟨n, h1, -, -, h4⟩ := open_int ht hval hd
  exact ⟨n, h1, wf_in h4⟩
theorem gate_bool {r : Reach} {b0 : Nat} {t : TypeId} {v : Value} {d : DataW H} {ps : List MemPlace} (ht : P.underlying t = some .bool) (hval : Value.okWide P w r b0 t v) (hd : DataW.Trod enc P w base spare held t v d ps) : ∃ b, v = .bool b := by
  obtain ⟨n, h1, -, -⟩ := open_bool ht hval hd
  exact ⟨n, h1⟩
theorem gate_ints {r : Reach} {b0 : Nat} {t e : TypeId} {k : IntKind} {v : Value} {d : DataW H} {ps : List MemPlace} (ht : P.underlying t = some (.slice e)) (he : P.underlying e = some (.int k)) (hC : P.cellsOf e = 1) (hv : Value.okWide P w r b0 t v) (h : DataW.Trod enc P w 0 (fun _ => true) true t v d ps) :
    ∃ (A : Option Addr) (c : Nat) (xs : List Int), v = .slice A xs.length c ∧ RoA w (blocks []) A xs.length c 1 (ints k xs) ∧ ∀ x ∈ xs, InR k x := by
  obtain ⟨a0, len, cap, rfl⟩ := okWide_slice ht hv
  obtain ⟨fuel, hf⟩ := h
  have hf' : DataW.trod enc P w 0 (fun _ => true) true fuel t [.slice a0 len cap] = some (d, ps) := by simpa [Value.cells] using hf
  rcases open_ints ht he hC hf' with ⟨hcs, -⟩ | ⟨a, len', cap', zs, hcs, -, hl, hm, hmm, -, hcell, hwf⟩
  · simp at hcs
    obtain ⟨rfl, rfl, rfl⟩ := hcs
    exact ⟨none, 0, [], rfl, ⟨Ro.nil _ _ _⟩, by simp⟩
  · simp at hcs hmm
    obtain ⟨rfl, rfl, rfl⟩ := hcs
    have hlen : (zs.take len).length = len := by rw [List.length_take]; omega
    refine ⟨some a, cap, zs.take len, by rw [hlen], ⟨some a, cap, rfl, by omega, hm, by simp, fun hpos => ?_⟩, fun x hx => wf_in (hwf x (List.mem_of_mem_take hx))⟩
    rw [hlen] at hpos
    have hc0 := hcell 0 (by omega)
    obtain ⟨b, off, spot⟩ := a
    have hspot : spot = none := by simpa [Addr.add] using World.cell?_spot hc0
    subst hspot
    have hblt : b < w.heap.size := by
      rcases Nat.lt_or_ge b w.heap.size with hlt | hge
      · exact hlt
      · rw [add_none] at hc0; simp [World.cell?, Array.getElem?_eq_none hge] at hc0
    refine ⟨b, off, rfl, hblt, (by rintro ⟨x, hx, _⟩; cases hx), fun j u hu => ?_⟩
    have hj : j < len := by
      have := (List.getElem?_eq_some_iff.1 hu).1
      simpa [hlen] using this
    have := hcell j (by omega)
    rw [add_none] at this
    rw [this]
    simp only [ints, List.getElem?_map, List.getElem?_take, if_pos hj] at hu
    rw [List.getElem?_eq_getElem (by omega)] at hu
    simp at hu
    rw [← hu, List.getD_eq_getElem?_getD, List.getElem?_eq_getElem (by omega)]
    rfl
end
theorem own : ownKnob Try.prog.godebug = none := by kernel_rfl
theorem laidOut : laidOutB Try.prog = true := by kernel_rfl
end Go.Proofs.Ytpmomimaihjmjaa
