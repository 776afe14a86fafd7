
import Derived.Test.YtpmomimaihjmjaaMB11
set_option linter.unusedVariables false
set_option linter.unusedSimpArgs false
/- Functions that hold their first arguments: method values, and calls of them. -/
namespace Go.Proofs.Ytpmomimaihjmjaa
open Go.RowKit
instance (f : Fn) (xs ys : Array Value) : One (.func f xs ys) := ⟨rfl⟩
instance : One .nilFunc := ⟨rfl⟩
section
variable {F : Fence} {n : Nat} {P : Program} {N : Nat} {ds : List Deferred} {w0 : World} {W : Nat → Prop} {σ : List (Nat × Value)} {H R : List HE} {Q : Exit → Act → World → Prop} {K : Act → World → Prop}
variable {d : Nat} {ty : TypeId} {pos : String} {aft : Array Edge} {gd : Option (Nat × Bool)} {o : Oper} {ops : Array Oper} {rest : List Oper}
instance (priority := 50) (fn : Fn) (first : Array Operand) (vs : List Value) : MS P w0 W H (.makeFunc fn first #[]) vs (.func fn vs.toArray #[]) True := ⟨fun _ {_ _ _ _ σ _ _ _ _ _ _ _} _ h1 h2 h3 => r_makeFunc (xs := vs.toArray) (ys := #[]) (fun a ha => ⟨by
  have h1' : vals σ first.toList = some vs := by simpa [Op.operands] using h1
  have := vals_all h1' a ha
  rw [← this]
  apply Array.ext'
  simp, by simp⟩) h2 h3⟩
/-- A call of a function that holds its first arguments. -/
theorem o_callB [hF : Wide F] [hW : WF F] {dst : Option Nat} {x : Operand} {f : FuncId} {first captured : Array Value} {args : Array Operand} {ts : Array TypeId} {vs : List Value} [hcl : Cl P f] {S : List HE} {Rl : Value → List HE → Prop}
    (hx : ev σ x = some (.func (.func f) first captured)) (hv : vals σ args.toList = some vs) (hs : Split H S R)
    (hc : ∀ w, St w0 W H w → Own S w → Does P f (first.toList ++ vs ++ captured.toList) S w Rl)
    (h : ∀ v S', Rl v S' → ∀ a w, Tm N ds σ a → St w0 W (S' ++ R) w → K (a.put dst v) w) :
    OJ F n P N ds w0 W σ H ⟨dst, .call ⟨.value x, args, ts⟩, ty, pos, aft, gd⟩ K Q := by
  intro a w ha hw
  have hargs : args.map a.eval = vs.toArray := by
    rw [← vals_map ha hv]
    apply Array.ext'
    simp
  refine ⟨fun f _ => hF.out.fn f, ?_⟩
  rw [Oper.semAt_plain F _ _ (by simp)]
  have e0 : (first ++ vs.toArray ++ captured : Array Value) = (first.toList ++ vs ++ captured.toList).toArray := by
    apply Array.ext'; simp
  simp only [execOp, resolve, invoke, Deferred.ofValue, Sem.run_bind, Sem.run_pure, Result.andThen_ok, ha.eval hx, hargs, hcl.h, Oper.uponIn_enter, e0]
  refine ⟨fun hd => (by rw [hF.out.depth] at hd; cases hd), (hW.h (hc w hw (hw.sub_own hs) (n - 1))).mono ?_⟩
  rintro e w' ⟨v, S', rfl, hr, hst⟩
  exact h v S' hr _ _ ha (hw.call hs hst)
theorem lb [Wide F] [WF F] {dst : Nat} {x : Operand} {f : FuncId} {first captured : Array Value} {args : Array Operand} {ts : Array TypeId} {vs : List Value} [Cl P f] {S : List HE} {Rl : Value → List HE → Prop}
    (hw : wantd ops σ ⟨some dst, .call ⟨.value x, args, ts⟩, ty, pos, aft, gd⟩ = some true) (hx : ev σ x = some (.func (.func f) first captured)) (hv : vals σ args.toList = some vs) (hdN : Nat.blt dst N = true)
    (hc : ∀ w, St w0 W H w → Own S w → Does P f (first.toList ++ vs ++ captured.toList) S w Rl) [hs : SplitC H S R] (h : ∀ v S', Rl v S' → J N ds w0 W ((dst, v) :: σ) (S' ++ R) (wpListIn F n P ops Q rest)) :
    J N ds w0 W σ H (wpListIn F n P ops Q (⟨some dst, .call ⟨.value x, args, ts⟩, ty, pos, aft, gd⟩ :: rest)) :=
  l_run hw (o_callB hx hv hs.h hc fun v S' hr a w ha hw => h v S' hr _ _ (ha.put dst v (by simpa using hdN)) hw)
end
end Go.Proofs.Ytpmomimaihjmjaa
/- The ground's height, its bounds. -/
namespace Go.Proofs.Ytpmomimaihjmjaa
open Go.RowKit
theorem heightT_in {W H : Nat} {f : List Int} (hf : In16 f) (X Y : Int) : -1048576 ≤ heightT W H f X Y ∧ heightT W H f X Y ≤ 1048576 := by
  unfold heightT
  split
  · obtain ⟨a, b, c, d, e, ha, hb, hc, hd⟩ := fourF_in hf (W := W) (H := H) X Y
    rw [e]
    simp only [exL]
    obtain ⟨h1, h2, h3, h4, h5, h6⟩ := exF_in (fx := X % 256) (fy := Y % 256) ⟨ha, hb, hc, hd⟩ (by omega) (by omega)
    have g1 := Int.mul_le_mul_of_nonneg_right (show a * (256 - X % 256) + b * (X % 256) ≤ 8388608 from by
      have := Int.mul_le_mul_of_nonneg_right ha.2 (show 0 ≤ 256 - X % 256 by omega)
      have := Int.mul_le_mul_of_nonneg_right hb.2 (show 0 ≤ X % 256 by omega)
      omega) (show 0 ≤ 256 - Y % 256 by omega)
    have g2 := Int.mul_le_mul_of_nonneg_right (show c * (256 - X % 256) + d * (X % 256) ≤ 8388608 from by
      have := Int.mul_le_mul_of_nonneg_right hc.2 (show 0 ≤ 256 - X % 256 by omega)
      have := Int.mul_le_mul_of_nonneg_right hd.2 (show 0 ≤ X % 256 by omega)
      omega) (show 0 ≤ Y % 256 by omega)
    have g3 := Int.mul_le_mul_of_nonneg_right (show -8388608 ≤ a * (256 - X % 256) + b * (X % 256) from by
      have := Int.mul_le_mul_of_nonneg_right ha.1 (show 0 ≤ 256 - X % 256 by omega)
      have := Int.mul_le_mul_of_nonneg_right hb.1 (show 0 ≤ X % 256 by omega)
      omega) (show 0 ≤ 256 - Y % 256 by omega)
    have g4 := Int.mul_le_mul_of_nonneg_right (show -8388608 ≤ c * (256 - X % 256) + d * (X % 256) from by
      have := Int.mul_le_mul_of_nonneg_right hc.1 (show 0 ≤ 256 - X % 256 by omega)
      have := Int.mul_le_mul_of_nonneg_right hd.1 (show 0 ≤ X % 256 by omega)
      omega) (show 0 ≤ Y % 256 by omega)
    unfold exF
    omega
  · omega
end Go.Proofs.Ytpmomimaihjmjaa
/- Package world: one who flies, and what is told. -/
namespace Go.Proofs.Ytpmomimaihjmjaa
open Go.RowKit
def inB (x far : Int) : Bool := decide (-far ≤ x ∧ x ≤ far)
instance (x far : Int) : BoolP (inB x far) (-far ≤ x ∧ x ≤ far) := ⟨by simp [inB]⟩
/-- Where one is, how high, how much the barometer is off, how far one went, what time it is, how many frames were told. -/
structure Wv where
  x : Int
  y : Int
  high : Int
  off : Int
  dx : Int
  dy : Int
  time : Int
  told : Int
@[reducible] def worldE (g : Nat) (v : Wv) (t : Nat) : List Value := [.pointer (some ⟨g, 0, none⟩), .int .i64 v.x, .int .i64 v.y, .int .i64 v.high, .int .i64 v.off, .int .i64 v.dx, .int .i64 v.dy, .int .u32 v.time, .int .i64 v.told, .slice (some ⟨t, 0, none⟩) 3 3]
/-- An instrument: the kind of what it tells, and the function that tells it. -/
abbrev tlE (b : Nat) : Nat × Nat → List Value := fun p => [.int .i64 p.1, .func (.func p.2) #[.pointer (some ⟨b, 0, none⟩)] #[]]
instance (b : Nat) : RowE (tlE b) 2 := ⟨fun _ => rfl, by decide⟩
instance : NoAgg (Try.t157.desc) := ⟨by kernel_rfl⟩
def toolL : List (Nat × Nat) := [(1, 74), (3, 75), (2, 76)]
/-- The memory of one who flies. -/
@[reducible] def CaT.W (K : CaT) (s : CaV) (b t : Nat) (v : Wv) : List HE := K.HC s [.blk b 156 (worldE K.g v t), .row (.slice (some ⟨t, 0, none⟩) 3 3) 159 2 3 (flat (tlE b) toolL)]
/-- What may be. -/
structure Wv.ok (v : Wv) (b : Int) : Prop where
  x : -1048576 ≤ v.x ∧ v.x ≤ 1048576
  y : -1048576 ≤ v.y ∧ v.y ≤ 1048576
  high : -1048576 ≤ v.high ∧ v.high ≤ 1048576
  off : -1048576 ≤ v.off ∧ v.off ≤ 1048576
  dx : -65536 ≤ v.dx ∧ v.dx ≤ 65536
  dy : -65536 ≤ v.dy ∧ v.dy ≤ 65536
  time : 0 ≤ v.time ∧ v.time < 4294967296
  told : 0 ≤ v.told ∧ v.told ≤ b
theorem codeF_nn {W H : Nat} {f : List Int} (X Y : Int) : codeF W H f X Y = 0 ∨ codeF W H f X Y = 8 ∨ codeF W H f X Y = 9 := by
  have h1 : ∀ i, (corH W H f X Y i).2 = 0 ∨ (corH W H f X Y i).2 = 8 ∨ (corH W H f X Y i).2 = 9 := fun i => by
    unfold corH heightF
    split
    · exact .inr (.inr rfl)
    split
    · exact .inr (.inl rfl)
    · exact .inl rfl
  have h2 : ∀ i, codeT W H f X Y i = 0 ∨ codeT W H f X Y i = 8 ∨ codeT W H f X Y i = 9 := fun i => by
    induction i with
    | zero => exact .inl rfl
    | succ i ih =>
      rw [codeT]
      split
      · exact ih
      · exact h1 i
  unfold codeF
  split
  · exact h2 4
  · exact .inr (.inr rfl)
attribute [local irreducible] OJ J HdJ Code.wpIn wpListIn Oper.wpIn bodyPost CallsIn Does
set_option maxRecDepth 4000
set_option maxHeartbeats 16000000 in
theorem win_any (x far : Int) (hf : 0 ≤ far ∧ far < 4294967296) (w : World) : Does Try.prog 73 [.int .i64 x, .int .i64 far] [] w (fun v S' => v = .bool (inB x far) ∧ S' = []) := by
  refine does_of Try.func73 rfl Try.ntmps73 rfl ⟨by simp, .nil⟩ (fun n => ?_)
  simp only [slots]
  refine z_tas
  all_goals exact j_out1 rfl rfl (.nil _) ⟨congrArg Value.bool (by unfold inB; rw [Bool.eq_iff_iff]; simp only [decide_eq_true_eq, Bool.and_eq_true, Bool.false_eq_true, false_iff, true_iff]; omega), rfl⟩
instance win_cv (x far : Int) : CV Try.prog 73 [.int .i64 x, .int .i64 far] (.bool (inB x far)) (0 ≤ far ∧ far < 4294967296) := ⟨fun h w => win_any x far h w⟩
set_option maxHeartbeats 64000000 in
theorem ground_c (K : CaT) (s : CaV) (f : List Int) (b t : Nat) (v : Wv) (m : Int) (w : World) (hown : Own (K.W s b t v) w) (hF : CaF K.ys f K.room) (h : CaOk K.ys f K.room s m) (hm : m ≤ 900000000000000000) :
    Does Try.prog 37 [.pointer (some ⟨b, 0, none⟩)] (K.W s b t v) w (fun r S' => ∃ s', r = .tuple #[.int .i64 (heightT (wY K.ys) (hY K.ys) f v.x v.y), .bool (codeF (wY K.ys) (hY K.ys) f v.x v.y == 0)] ∧ CaOk K.ys f K.room s' (m + 4) ∧ S' = K.W s' b t v) := by
  refine does_of Try.func37 rfl Try.ntmps37 rfl hown (fun n => ?_)
  simp only [slots]
  refine z_tas
  refine c_dvL [.blk b 156 (worldE K.g v t)] (0 :: 1 :: 2 :: 3 :: 4 :: 5 :: 6 :: 7 :: 8 :: 9 :: 10 :: 11 :: 12 :: 13 :: []) Sub.au ?_
  intro _
  refine z_govG
  refine lf rfl rfl rfl (S := K.H s) (fun w hw ho => height_t K s f v.x v.y m w ho hF h hm) ?_
  rintro r S' ⟨s', rfl, k1, rfl⟩
  refine z_govG
  exact j_out2 rfl rfl rfl Sub.au ⟨s', rfl, k1, rfl⟩
set_option maxHeartbeats 64000000 in
theorem move_c (K : CaT) (s : CaV) (b t : Nat) (v : Wv) (w : World) (hown : Own (K.W s b t v) w) :
    Does Try.prog 74 [.pointer (some ⟨b, 0, none⟩)] (K.W s b t v) w (fun r S' => r = .tuple #[.int .i64 v.dx, .int .i64 v.dy, .bool true] ∧ S' = K.W s b t v) := by
  refine does_of Try.func74 rfl Try.ntmps74 rfl hown (fun n => ?_)
  simp only [slots]
  refine z_tas
  exact j_out3 rfl rfl rfl rfl Sub.au ⟨rfl, rfl⟩
set_option maxHeartbeats 64000000 in
theorem baro_c (K : CaT) (s : CaV) (b t : Nat) (v : Wv) (m : Int) (hv : v.ok m) (w : World) (hown : Own (K.W s b t v) w) :
    Does Try.prog 75 [.pointer (some ⟨b, 0, none⟩)] (K.W s b t v) w (fun r S' => r = .tuple #[.int .i64 (v.high + v.off), .int .i64 0, .bool true] ∧ S' = K.W s b t v) := by
  refine does_of Try.func75 rfl Try.ntmps75 rfl hown (fun n => ?_)
  have h1 := hv.high
  have h2 := hv.off
  simp only [slots]
  refine z_tas
  exact j_out3 rfl rfl rfl rfl Sub.au ⟨rfl, rfl⟩
/-- How far away the ground is, and whether that is told. -/
def radB (v : Wv) (z e : Int) : Bool := decide (e = 0 ∧ z ≤ v.high ∧ v.high - z ≤ 1048576)
set_option maxHeartbeats 64000000 in
theorem radar_c (K : CaT) (s : CaV) (f : List Int) (b t : Nat) (v : Wv) (m bb : Int) (hv : v.ok bb) (w : World) (hown : Own (K.W s b t v) w) (hF : CaF K.ys f K.room) (h : CaOk K.ys f K.room s m) (hm : m ≤ 900000000000000000) :
    Does Try.prog 76 [.pointer (some ⟨b, 0, none⟩)] (K.W s b t v) w (fun r S' => ∃ s', r = .tuple #[.int .i64 (v.high - heightT (wY K.ys) (hY K.ys) f v.x v.y), .int .i64 0, .bool (radB v (heightT (wY K.ys) (hY K.ys) f v.x v.y) (codeF (wY K.ys) (hY K.ys) f v.x v.y))] ∧ CaOk K.ys f K.room s' (m + 4) ∧ S' = K.W s' b t v) := by
  have hz := heightT_in hF.good.1 (W := wY K.ys) (H := hY K.ys) v.x v.y
  have hh := hv.high
  refine does_of Try.func76 rfl Try.ntmps76 rfl hown (fun n => ?_)
  simp only [slots]
  refine z_tas
  refine lf rfl rfl rfl (S := K.W s b t v) (fun w hw ho => ground_c K s f b t v m w ho hF h hm) ?_
  rintro r S' ⟨s', rfl, k1, rfl⟩
  generalize heightT (wY K.ys) (hY K.ys) f v.x v.y = z at *
  generalize codeF (wY K.ys) (hY K.ys) f v.x v.y = e at *
  refine z_tas
  refine c_dv (0 :: 1 :: 2 :: 3 :: 4 :: 5 :: 6 :: 7 :: 8 :: 9 :: 10 :: 11 :: 12 :: 13 :: 14 :: 15 :: 16 :: 17 :: 18 :: 19 :: 20 :: 21 :: 22 :: 23 :: 24 :: 25 :: 26 :: []) ?_; intro _
  refine z_govG
  all_goals exact j_out3 rfl rfl rfl rfl Sub.au ⟨s', congrArg (fun q => Value.tuple #[.int .i64 (v.high - z), .int .i64 0, .bool q]) (by unfold radB; rw [Bool.eq_iff_iff]; simp only [decide_eq_true_eq, Bool.and_eq_true, beq_iff_eq, Bool.false_eq_true, false_iff, true_iff] at *; omega), k1, rfl⟩
/-- A frame that is told. -/
def frW (v : Wv) (kind a b : Int) : Frm := ⟨kind, (v.told + 1) % 65536, v.time, a, b, 0⟩
set_option maxHeartbeats 64000000 in
theorem frame_c (K : CaT) (s : CaV) (b t : Nat) (v : Wv) (bb kind x y : Int) (hv : v.ok bb) (hb : bb ≤ 1000000) (hx : InR .i32 x) (hy : InR .i32 y) (w : World) (hown : Own (K.W s b t v) w) :
    Does Try.prog 78 [.pointer (some ⟨b, 0, none⟩), .int .i64 kind, .int .i64 x, .int .i64 y] (K.W s b t v) w (fun r S' => r = .agg (frmE (frW v kind x y)).toArray ∧ S' = K.W s b t { v with told := v.told + 1 }) := by
  have hh := hv.told
  have hx1 : -2147483648 ≤ x ∧ x ≤ 2147483647 := hx
  have hy1 : -2147483648 ≤ y ∧ y ≤ 2147483647 := hy
  have e1 : IntKind.u16.wrap (v.told + 1) = (v.told + 1) % 65536 := by simp [IntKind.wrap, IntKind.bits, IntKind.signed]
  refine does_of Try.func78 rfl Try.ntmps78 rfl hown (fun n => ?_)
  simp only [slots]
  refine z_tas
  refine c_dvL [.blk b 156 (worldE K.g { v with told := v.told + 1 } t)] (0 :: 1 :: 2 :: 3 :: 4 :: 5 :: 6 :: 7 :: 8 :: 9 :: 10 :: 11 :: 12 :: 13 :: 14 :: 15 :: []) Sub.au ?_
  intro _
  refine z_govG
  rw [e1]
  refine j_outK (S' := K.W s b t { v with told := v.told + 1 }) Sub.au ?_
  refine z_rk
  exact ⟨rfl, rfl⟩
set_option maxHeartbeats 64000000 in
theorem wat_c (K : CaT) (s : CaV) (b t : Nat) (v : Wv) (w : World) (hown : Own (K.W s b t v) w) :
    Does Try.prog 35 [.pointer (some ⟨b, 0, none⟩)] (K.W s b t v) w (fun r S' => r = .agg #[.int .i64 v.x, .int .i64 v.y] ∧ S' = K.W s b t v) := by
  refine does_of Try.func35 rfl Try.ntmps35 rfl hown (fun n => ?_)
  simp only [slots]
  refine z_tas
  refine j_outK (S' := K.W s b t v) Sub.au ?_
  refine z_rk
  exact ⟨rfl, rfl⟩
set_option maxHeartbeats 64000000 in
theorem whigh_c (K : CaT) (s : CaV) (b t : Nat) (v : Wv) (w : World) (hown : Own (K.W s b t v) w) :
    Does Try.prog 36 [.pointer (some ⟨b, 0, none⟩)] (K.W s b t v) w (fun r S' => r = .int .i64 v.high ∧ S' = K.W s b t v) := by
  refine does_of Try.func36 rfl Try.ntmps36 rfl hown (fun n => ?_)
  simp only [slots]
  refine z_tas
  exact j_out1 rfl rfl Sub.au ⟨rfl, rfl⟩
set_option maxHeartbeats 64000000 in
theorem wtime_c (K : CaT) (s : CaV) (b t : Nat) (v : Wv) (w : World) (hown : Own (K.W s b t v) w) :
    Does Try.prog 34 [.pointer (some ⟨b, 0, none⟩)] (K.W s b t v) w (fun r S' => r = .tuple #[.int .u32 v.time, .int .i64 v.told] ∧ S' = K.W s b t v) := by
  refine does_of Try.func34 rfl Try.ntmps34 rfl hown (fun n => ?_)
  simp only [slots]
  refine z_tas
  exact j_out2 rfl rfl rfl Sub.au ⟨rfl, rfl⟩
end Go.Proofs.Ytpmomimaihjmjaa
