import Derived.Laws.Bits64b
import Derived.Laws.BitsLemmas
import Derived.Laws.Externs
import Derived.Shelf.Spec.BitsCarry
import Derived.ChangeKeysEq
import Derived.Test.YtemmnpgebpffbaaMD08
set_option linter.unusedVariables false
set_option linter.unusedSimpArgs false
/- Package wide, and the roots. -/
namespace Go.Proofs.Ytemmnpgebpffbaa
open Go.RowKit
/-- A call that the model answers on its own. -/
class XV (P : Program) (f : FuncId) (us : List Value) (v : outParam Value) (c : outParam Prop) : Prop where h : c → ∀ w, (callFunc f us.toArray).run P w = .ok (.value v) w
section
variable {F : Fence} {n : Nat} {P : Program} {N : Nat} {ds : List Deferred} {w0 : World} {W : Nat → Prop} {σ : List (Nat × Value)} {H R S : List HE} {Q : Exit → Act → World → Prop}
variable {ops : Array Oper} {rest : List Oper} {d : Nat} {ty : TypeId} {pos : String} {aft : Array Edge} {gd : Option (Nat × Bool)} {v : Value} {us : List Value} {c : Prop}
theorem lxv [Wide F] {f : FuncId} {args : Array Operand} {ts : Array TypeId} (hw : wantd ops σ ⟨some d, .call ⟨.value (.func f), args, ts⟩, ty, pos, aft, gd⟩ = some true) (hv : vals σ args.toList = some us) [hx : XV P f us v c] (hdN : Nat.blt d N = true) (hc : c)
    (h : J N ds w0 W ((d, v) :: σ) H (wpListIn F n P ops Q rest)) : J N ds w0 W σ H (wpListIn F n P ops Q (⟨some d, .call ⟨.value (.func f), args, ts⟩, ty, pos, aft, gd⟩ :: rest)) := by
  refine l_run hw (o_val (by simp) rfl hdN (fun a w ha _ => ?_) h)
  have hargs : args.map a.eval = us.toArray := by
    rw [← vals_map ha hv]
    apply Array.ext'
    simp
  have hf : a.eval (.func f) = .func (.func f) #[] #[] := rfl
  have e0 : (#[] ++ us.toArray ++ #[] : Array Value) = us.toArray := by simp
  simp only [execOp, resolve, invoke, Deferred.ofValue, Sem.run_bind, Sem.run_pure, Result.andThen_ok, hf, hargs, e0, hx.h hc w]
end
theorem and_mask {a : Int} (h : 0 ≤ a ∧ a < 18446744073709551616) : bits .and .u64 a 4294967295 = a % 4294967296 := by
  have := bits_mask .u64 64 (by decide) (fun n h0 h1 => by rw [IntKind.wrap_u64]; omega) 32 (by decide) a h.1 (by omega)
  exact this
theorem shr32 (a : Int) : a / 2 ^ (OfNat.ofNat 32 : Nat) = a / 4294967296 := rfl
theorem mul64_key {x0 x1 y0 y1 : Int} (hx0 : 0 ≤ x0 ∧ x0 < 4294967296) (hx1 : 0 ≤ x1 ∧ x1 < 4294967296) (hy0 : 0 ≤ y0 ∧ y0 < 4294967296) (hy1 : 0 ≤ y1 ∧ y1 < 4294967296) :
    (0 ≤ x0 * y0 ∧ x0 * y0 ≤ 18446744065119617025) ∧ (0 ≤ x1 * y0 ∧ x1 * y0 ≤ 18446744065119617025) ∧ (0 ≤ x0 * y1 ∧ x0 * y1 ≤ 18446744065119617025) ∧ (0 ≤ x1 * y1 ∧ x1 * y1 ≤ 18446744065119617025) ∧
    (x1 * 4294967296 + x0) * (y1 * 4294967296 + y0) = x1 * y1 * 18446744073709551616 + (x1 * y0 + x0 * y1) * 4294967296 + x0 * y0 := by
  have key : ∀ a b : Int, 0 ≤ a ∧ a < 4294967296 → 0 ≤ b ∧ b < 4294967296 → 0 ≤ a * b ∧ a * b ≤ 18446744065119617025 := fun a b ha hb => by
    have h1 := Int.mul_le_mul (show a ≤ 4294967295 by omega) (show b ≤ 4294967295 by omega) hb.1 (by omega)
    exact ⟨Int.mul_nonneg ha.1 hb.1, by omega⟩
  exact ⟨key _ _ hx0 hy0, key _ _ hx1 hy0, key _ _ hx0 hy1, key _ _ hx1 hy1, by grind⟩
attribute [local irreducible] OJ J HdJ Code.wpIn wpListIn Oper.wpIn bodyPost CallsIn Does
set_option maxRecDepth 4000
set_option maxHeartbeats 8000000 in
instance mul64_any (x y : Int) : CV Try.prog 58 [.int .u64 x, .int .u64 y] (.tuple #[.int .u64 (x * y / 18446744073709551616), .int .u64 (x * y % 18446744073709551616)]) ((0 ≤ x ∧ x < 18446744073709551616) ∧ (0 ≤ y ∧ y < 18446744073709551616)) := ⟨fun hc w => by
  refine does_of Try.func58 rfl Try.ntmps58 rfl ⟨by simp, .nil⟩ (fun n => ?_)
  simp only [slots]
  refine z_gob
  refine j_out2 rfl rfl rfl Sub.au ⟨?_, rfl⟩
  obtain ⟨h1, h2, h3, h4, h5⟩ := mul64_key (x0 := x % 4294967296) (x1 := x / 4294967296) (y0 := y % 4294967296) (y1 := y / 4294967296) (by omega) (by omega) (by omega) (by omega)
  rw [show x / 4294967296 * 4294967296 + x % 4294967296 = x by omega, show y / 4294967296 * 4294967296 + y % 4294967296 = y by omega] at h5
  simp only [shr32, IntKind.wrap_u64, and_mask hc.1, and_mask hc.2]
  rw [and_mask (by omega)]
  generalize x % 4294967296 * (y % 4294967296) = p00 at *
  generalize x / 4294967296 * (y % 4294967296) = p10 at *
  generalize x % 4294967296 * (y / 4294967296) = p01 at *
  generalize x / 4294967296 * (y / 4294967296) = p11 at *
  generalize x * y = z at *
  congr 4
  omega⟩
/-- A number of 128 bits. -/
@[reducible] def wideV (z : Int) : List Value := [.int .i64 (z / 18446744073709551616), .int .u64 (z % 18446744073709551616)]
def absI (x : Int) : Int := if x < 0 then -x else x
theorem absI_sq (x : Int) : absI x * absI x = x * x := by unfold absI; split; exact Int.neg_mul_neg x x; rfl
theorem conv_u64 {x : Int} (h : -9223372036854775808 ≤ x ∧ x < 0) : IntKind.u64.wrap x = x + 18446744073709551616 := by rw [IntKind.wrap_u64]; omega
set_option maxHeartbeats 4000000 in
instance magnitude_any (x : Int) : CV Try.prog 59 [.int .i64 x] (.int .u64 (absI x)) (InR .i64 x) := ⟨fun hc w => by
  refine does_of Try.func59 rfl Try.ntmps59 rfl ⟨by simp, .nil⟩ (fun n => ?_)
  simp only [slots]
  simp only [InR] at hc
  refine z_gob
  all_goals exact j_out1 rfl rfl Sub.au ⟨congrArg (Value.int .u64) (by unfold absI; split <;> (first | (simp only [IntKind.wrap_u64]; omega) | omega)), rfl⟩⟩
set_option maxHeartbeats 4000000 in
/-- The square of a number that is not too great. -/
instance mulsq_any (x : Int) : CV Try.prog 35 [.int .i64 x, .int .i64 x] (.agg (wideV (x * x)).toArray) (-2147483648 ≤ x ∧ x ≤ 2147483648) := ⟨fun hc w => by
  have h0 : 0 ≤ absI x ∧ absI x ≤ 2147483648 := by unfold absI; split <;> omega
  have h1 := mulB 2147483648 2147483648 (a := x) (b := x) (by omega) (by omega)
  have h2 := absI_sq x
  have h3 : 0 ≤ x * x := by rw [← h2]; exact Int.mul_nonneg h0.1 h0.1
  refine does_of Try.func35 rfl Try.ntmps35 rfl ⟨by simp, .nil⟩ (fun n => ?_)
  simp only [slots]
  rw [← h2] at h1 h3 ⊢
  refine z_gob
  refine z_ro
  exact ⟨rfl, rfl⟩⟩
theorem wide_eq {A B A' B' : Int} {c : Bool} (h1 : A = A') (h2 : B = B') (h3 : c = true) : retV [.agg #[.int .i64 A, .int .u64 B], .bool c] = Value.tuple #[.agg #[.int .i64 A', .int .u64 B'], .bool true] := by subst h1 h2 h3; rfl
def orB (r : Int) (k : Nat) : Int := bits .or .u64 r (IntKind.u64.wrap (1 * 2 ^ (min ((63 : Int) - k).toNat IntKind.u64.bits)))
/-- The root, bit by bit, of a number of which the upper half is 0. -/
def rootTo (s : Int) : Nat → Int
  | 0 => 0
  | k + 1 => if orB (rootTo s k) k * orB (rootTo s k) k / 18446744073709551616 = 0 ∧ orB (rootTo s k) k * orB (rootTo s k) k % 18446744073709551616 ≤ s then orB (rootTo s k) k else rootTo s k
theorem or_in (a b : Int) : 0 ≤ bits .or .u64 a b ∧ bits .or .u64 a b < 18446744073709551616 := by
  have h : ∀ z : Int, 0 ≤ IntKind.u64.wrap z ∧ IntKind.u64.wrap z < 18446744073709551616 := fun z => by rw [IntKind.wrap_u64]; omega
  exact h _
theorem rootTo_in (s : Int) : ∀ k, 0 ≤ rootTo s k ∧ rootTo s k < 18446744073709551616
  | 0 => by simp [rootTo]
  | k + 1 => by
    unfold rootTo
    split
    · exact or_in _ _
    · exact rootTo_in s k
end Go.Proofs.Ytemmnpgebpffbaa
/- Package wide: products of both signs, quotients. -/
namespace Go.Proofs.Ytemmnpgebpffbaa
open Go.RowKit
instance sub64_x (x y c : Int) : XV Try.prog 84 [.int .u64 x, .int .u64 y, .int .u64 c] (.tuple #[.int .u64 ((x - y - c) % 18446744073709551616), .int .u64 (if x < y + c then 1 else 0)]) ((0 ≤ x ∧ x < 18446744073709551616) ∧ (0 ≤ y ∧ y < 18446744073709551616) ∧ 0 ≤ c ∧ c ≤ 1) := ⟨fun hc w => by
  obtain ⟨X, rfl⟩ : ∃ n : Nat, x = n := ⟨x.toNat, by omega⟩
  obtain ⟨Y, rfl⟩ : ∃ n : Nat, y = n := ⟨y.toNat, by omega⟩
  obtain ⟨C, rfl⟩ : ∃ n : Nat, c = n := ⟨c.toNat, by omega⟩
  have := run_callFunc_extern (e := sub64Entry) Try.func84 (by kernel_rfl) (by kernel_rfl) (by kernel_rfl) (by kernel_rfl) [.int .u64 (X : Int), .int .u64 (Y : Int), .int .u64 (C : Int)].toArray w
  rw [this, run_sub64 X Y C (by omega)]
  have e1 : (((X + 18446744073709551616 - Y - C) % 18446744073709551616 : Nat) : Int) = ((X : Int) - Y - C) % 18446744073709551616 := by omega
  have e2 : ((if X < Y + C then 1 else 0 : Nat) : Int) = if (X : Int) < Y + C then 1 else 0 := by
    split <;> rename_i h
    · rw [if_pos (by omega)]; rfl
    · rw [if_neg (by omega)]; rfl
  rw [e1, e2]
  rfl⟩
theorem wideA_eq {A B A' B' : Int} (h1 : A = A') (h2 : B = B') : retV [.agg #[.int .i64 A, .int .u64 B]] = Value.agg #[.int .i64 A', .int .u64 B'] := by subst h1 h2; rfl
attribute [local irreducible] OJ J HdJ Code.wpIn wpListIn Oper.wpIn bodyPost CallsIn Does
set_option maxRecDepth 4000
set_option maxHeartbeats 8000000 in
instance negw_any (z : Int) : CV Try.prog 60 [.agg (wideV z).toArray] (.agg (wideV (-z)).toArray) (-4611686018427387904 ≤ z ∧ z ≤ 4611686018427387904) := ⟨fun hc w => by
  refine does_of Try.func60 rfl Try.ntmps60 rfl ⟨by simp, .nil⟩ (fun n => ?_)
  simp only [slots]
  refine z_gob
  refine z_ro
  refine ⟨wideA_eq ?_ (by omega), rfl⟩
  rw [IntKind.wrap_u64, IntKind.wrap_u64, IntKind.wrap_u64, IntKind.wrap_i64]
  split <;> omega⟩
theorem absI_mul (a b : Int) : absI a * absI b = absI (a * b) := by
  unfold absI
  rcases Int.lt_or_le a 0 with ha | ha <;> rcases Int.lt_or_le b 0 with hb | hb
  · rw [if_pos ha, if_pos hb, if_neg (by have := Int.mul_pos_of_neg_of_neg ha hb; omega), Int.neg_mul_neg]
  · rw [if_pos ha, if_neg (by omega)]
    rcases Int.lt_or_le 0 b with h0 | h0
    · rw [if_pos (Int.mul_neg_of_neg_of_pos ha h0), Int.neg_mul]
    · obtain rfl : b = 0 := by omega
      simp
  · rw [if_pos hb, if_neg (by omega)]
    rcases Int.lt_or_le 0 a with h0 | h0
    · rw [if_pos (Int.mul_neg_of_pos_of_neg h0 hb), Int.mul_neg]
    · obtain rfl : a = 0 := by omega
      simp
  · rw [if_neg (by omega), if_neg (by omega), if_neg (by have := Int.mul_nonneg ha hb; omega)]
theorem absI_sgn (a b : Int) (h : (a < 0) = (b < 0) ∨ a * b = 0) : absI (a * b) = a * b := by
  rcases h with h | h
  · unfold absI
    rcases Int.lt_or_le a 0 with ha | ha
    · rw [if_neg (by have := Int.mul_pos_of_neg_of_neg ha (h ▸ ha); omega)]
    · have hb : ¬ b < 0 := h ▸ (by omega : ¬ a < 0)
      rw [if_neg (by have := Int.mul_nonneg ha (by omega : 0 ≤ b); omega)]
  · rw [h]; rfl
theorem absI_neg (a b : Int) (h : (a < 0) ≠ (b < 0)) : - absI (a * b) = a * b := by
  unfold absI
  rcases Int.lt_or_le a 0 with ha | ha <;> rcases Int.lt_or_le b 0 with hb | hb
  · exact absurd (propext ⟨fun _ => hb, fun _ => ha⟩) h
  · have := Int.mul_nonpos_of_nonpos_of_nonneg (by omega : a ≤ 0) hb
    split <;> omega
  · have := Int.mul_nonpos_of_nonneg_of_nonpos ha (by omega : b ≤ 0)
    split <;> omega
  · exact absurd (propext ⟨fun _ => by omega, fun _ => by omega⟩) h
instance mulw_any (a b : Int) : CV Try.prog 35 [.int .i64 a, .int .i64 b] (.agg (wideV (a * b)).toArray) (InR .i64 a ∧ InR .i64 b ∧ -4611686018427387904 ≤ a * b ∧ a * b ≤ 4611686018427387904) := ⟨fun hc w => by
  have h1 := absI_mul a b
  have h2 : 0 ≤ absI (a * b) ∧ absI (a * b) ≤ 4611686018427387904 := by unfold absI; split <;> omega
  have ha : 0 ≤ absI a ∧ absI a < 18446744073709551616 := by unfold absI; split <;> omega
  have hb : 0 ≤ absI b ∧ absI b < 18446744073709551616 := by unfold absI; split <;> omega
  refine does_of Try.func35 rfl Try.ntmps35 rfl ⟨by simp, .nil⟩ (fun n => ?_)
  simp only [slots]
  rw [← h1] at h2
  refine z_gob
  · rename_i h
    refine z_ro
    refine ⟨?_, rfl⟩
    rw [h1, absI_neg a b (fun e => h (by rw [e]))]
    rfl
  · rename_i h
    refine z_ro
    refine ⟨?_, rfl⟩
    rw [h1, absI_sgn a b (.inl (propext (Classical.not_not.1 h)))]
    rfl⟩
/-- How a quotient is rounded: the magnitude one more? -/
def upB (mode rest by' : Int) (minus : Bool) : Bool := decide (rest ≠ 0) && ((decide (mode = 0) && minus) || (decide (mode = 1) && !minus) || (decide (mode = 2) && (decide (by' < 2 * rest) || (decide (by' = 2 * rest) && !minus))))
instance up_any (mode rest by' : Int) (minus : Bool) : CV Try.prog 100 [.int .i64 mode, .int .u64 rest, .int .u64 by', .bool minus] (.bool (upB mode rest by' minus)) (0 ≤ rest ∧ rest < by' ∧ by' < 9223372036854775808) := ⟨fun hc w => by
  refine does_of Try.func100 rfl Try.ntmps100 rfl ⟨by simp, .nil⟩ (fun n => ?_)
  simp only [slots]
  cases minus
  all_goals refine z_gob
  all_goals first
    | exact j_out1 rfl rfl (.nil _) ⟨congrArg Value.bool (by unfold upB; simp; omega), rfl⟩
    | fail⟩
theorem two_eq {A A' : Int} {c : Bool} (h1 : A = A') (h2 : c = true) : retV [.int .i64 A, .bool c] = Value.tuple #[.int .i64 A', .bool true] := by subst h1 h2; rfl
instance signed_any (m : Int) (minus : Bool) : CV Try.prog 101 [.int .u64 m, .bool minus] (.tuple #[.int .i64 (bif minus then -m else m), .bool true]) (0 ≤ m ∧ m < 9223372036854775808) := ⟨fun hc w => by
  refine does_of Try.func101 rfl Try.ntmps101 rfl ⟨by simp, .nil⟩ (fun n => ?_)
  simp only [slots]
  cases minus
  all_goals refine z_gob
  all_goals refine z_ro
  · exact ⟨two_eq rfl (decide_eq_true (by omega)), rfl⟩
  · exact ⟨two_eq (by show IntKind.i64.wrap (IntKind.u64.wrap (0 - m)) = -m; rw [IntKind.wrap_u64, IntKind.wrap_i64]; omega) (decide_eq_true (by omega)), rfl⟩⟩
instance div64_0 (lo y : Int) : CV Try.prog 99 [.int .u64 0, .int .u64 lo, .int .u64 y] (.tuple #[.int .u64 (lo / y), .int .u64 (lo % y)]) ((0 ≤ lo ∧ lo < 18446744073709551616) ∧ 0 < y ∧ y < 18446744073709551616) := ⟨fun hc w => by
  refine does_of Try.func99 rfl Try.ntmps99 rfl ⟨by simp, .nil⟩ (fun n => ?_)
  simp only [slots]
  refine z_gob
  exact j_out2 rfl rfl rfl (.nil _) ⟨rfl, rfl⟩⟩
/-- A quotient, rounded. -/
def divV (z b mode : Int) : Int := bif decide (z < 0) then -(absI z / b + if upB mode (absI z % b) b (decide (z < 0)) then 1 else 0) else absI z / b + if upB mode (absI z % b) b (decide (z < 0)) then 1 else 0
set_option maxHeartbeats 16000000 in
instance divw_any (z b mode : Int) : CV Try.prog 83 [.agg (wideV z).toArray, .int .i64 b, .int .i64 mode] (.tuple #[.int .i64 (divV z b mode), .int .i64 0]) ((-4611686018427387904 ≤ z ∧ z ≤ 4611686018427387904) ∧ (0 < b ∧ b ≤ 4611686018427387904) ∧ 0 ≤ mode ∧ mode ≤ 3) := ⟨fun hc w => by
  obtain ⟨⟨c1, c2⟩, ⟨c3, c4⟩, c5, c6⟩ := hc
  have hab : absI b = b := by unfold absI; rw [if_neg (by omega)]
  have hq : 0 ≤ absI z / b ∧ absI z / b ≤ 4611686018427387904 := by
    have h0 : 0 ≤ absI z ∧ absI z ≤ 4611686018427387904 := by unfold absI; split <;> omega
    exact ⟨Int.ediv_nonneg h0.1 (by omega), Int.le_trans (Int.ediv_le_self _ h0.1) h0.2⟩
  have hr : 0 ≤ absI z % b ∧ absI z % b < b := ⟨Int.emod_nonneg _ (by omega), Int.emod_lt_of_pos _ c3⟩
  refine does_of Try.func83 rfl Try.ntmps83 rfl ⟨by simp, .nil⟩ (fun n => ?_)
  simp only [slots]
  rcases Int.lt_or_le z 0 with hz | hz
  · have hz1 : z / 18446744073709551616 = -1 := by omega
    have ez : absI z = -z := by unfold absI; rw [if_pos hz]
    have e1 : -z / 18446744073709551616 = 0 := by omega
    have e2 : -z % 18446744073709551616 = -z := by omega
    unfold divV
    rw [ez] at hq hr
    rw [decide_eq_true hz, ez]
    refine z_tas
    refine j_set 8 _ rfl (v' := .bool true) (congrArg Value.bool (by rw [decide_eq_true (by omega : z / 18446744073709551616 < 0), decide_eq_false (by omega : ¬ b < 0)]; rfl)) ?_
    simp only [e1, e2, hab]
    refine z_tas
    all_goals refine z_ro
    all_goals first
      | (rw [if_pos (by assumption)]; exact ⟨rfl, rfl⟩)
      | (rw [if_neg (by assumption), Int.add_zero]; exact ⟨rfl, rfl⟩)
  · have hz1 : z / 18446744073709551616 = 0 := by omega
    have hz2 : z % 18446744073709551616 = z := by omega
    have ez : absI z = z := by unfold absI; rw [if_neg (by omega)]
    unfold divV
    simp only [wideV]
    rw [ez] at hq hr
    rw [decide_eq_false (by omega : ¬ z < 0), ez]
    rw [hz1, hz2]
    refine z_tas
    refine j_set 57 _ rfl (v' := .bool false) (congrArg Value.bool (by rw [decide_eq_false (by omega : ¬ b < 0)]; rfl)) ?_
    refine j_set 8 _ rfl (v' := .bool false) (congrArg Value.bool (by rw [decide_eq_false (by omega : ¬ b < 0)]; rfl)) ?_
    simp only [hab]
    refine z_tas
    all_goals refine z_ro
    all_goals first
      | (rw [if_pos (by assumption)]; exact ⟨rfl, rfl⟩)
      | (rw [if_neg (by assumption), Int.add_zero]; exact ⟨rfl, rfl⟩)⟩
instance muldiv_any (a b c mode : Int) : CV Try.prog 55 [.int .i64 a, .int .i64 b, .int .i64 c, .int .i64 mode] (.tuple #[.int .i64 (divV (a * b) c mode), .int .i64 0]) ((InR .i64 a ∧ InR .i64 b ∧ -4611686018427387904 ≤ a * b ∧ a * b ≤ 4611686018427387904) ∧ (0 < c ∧ c ≤ 4611686018427387904) ∧ 0 ≤ mode ∧ mode ≤ 3) := ⟨fun hc w => by
  obtain ⟨⟨c1, c2, c3, c4⟩, c5, c6⟩ := hc
  refine does_of Try.func55 rfl Try.ntmps55 rfl ⟨by simp, .nil⟩ (fun n => ?_)
  simp only [slots]
  refine z_tas
  refine z_ro
  exact ⟨rfl, rfl⟩⟩
/-- Rounded down. -/
theorem divV_down {z b : Int} (hb : 0 < b) : divV z b 0 = z / b := by
  have h1 := Int.mul_ediv_add_emod (absI z) b
  have h2 := Int.emod_nonneg (absI z) (by omega : b ≠ 0)
  have h3 := Int.emod_lt_of_pos (absI z) hb
  unfold divV upB
  generalize absI z / b = q at *
  generalize absI z % b = r at *
  rcases Int.lt_or_le z 0 with hz | hz
  · have ez : absI z = -z := by unfold absI; rw [if_pos hz]
    rw [ez] at h1
    rw [decide_eq_true hz]
    rcases Int.lt_or_le 0 r with hr | hr
    · simp only [show decide (r ≠ 0) = true from decide_eq_true (by omega)]
      simp only [decide_true, Bool.and_self, Bool.true_or, Bool.and_true, if_true, cond_true]
      refine ((Int.ediv_emod_unique (r := b - r) (q := -(q + 1)) hb).2 ⟨?_, by omega, by omega⟩).1.symm
      rw [Int.mul_neg, Int.mul_add, Int.mul_one]; omega
    · obtain rfl : r = 0 := by omega
      simp only [ne_eq, not_true_eq_false, decide_false, Bool.false_and, cond_true, Bool.false_eq_true, if_false, Int.add_zero]
      refine ((Int.ediv_emod_unique (r := 0) (q := -q) hb).2 ⟨?_, by omega, by omega⟩).1.symm
      rw [Int.mul_neg]; omega
  · have ez : absI z = z := by unfold absI; rw [if_neg (by omega)]
    rw [ez] at h1
    rw [decide_eq_false (by omega : ¬ z < 0)]
    simp only [Bool.and_false, Bool.or_false, Bool.false_or, Bool.not_false, Bool.and_true, cond_false, show decide ((0 : Int) = 1) = false from rfl, show decide ((0 : Int) = 2) = false from rfl, Bool.false_and, Bool.false_eq_true, if_false, Int.add_zero]
    exact ((Int.ediv_emod_unique (r := r) (q := q) hb).2 ⟨by omega, by omega, by omega⟩).1.symm
/-- Rounded to the nearer one. -/
theorem divV_near {z b : Int} (hb : 0 < b) : divV z b 2 = (2 * z + b) / (2 * b) := by
  have h1 := Int.mul_ediv_add_emod (absI z) b
  have h2 := Int.emod_nonneg (absI z) (by omega : b ≠ 0)
  have h3 := Int.emod_lt_of_pos (absI z) hb
  unfold divV upB
  generalize absI z / b = q at *
  generalize absI z % b = r at *
  have key : ∀ x s : Int, 2 * z + b = 2 * (b * x) + s → 0 ≤ s → s < 2 * b → x = (2 * z + b) / (2 * b) := fun x s e h4 h5 =>
    ((Int.ediv_emod_unique (r := s) (q := x) (by omega : 0 < 2 * b)).2 ⟨by rw [Int.mul_assoc]; omega, h4, h5⟩).1.symm
  rcases Int.lt_or_le z 0 with hz | hz
  · have ez : absI z = -z := by unfold absI; rw [if_pos hz]
    rw [ez] at h1
    rw [decide_eq_true hz]
    simp only [cond_true, Bool.not_true, Bool.and_false, Bool.or_false, show decide ((2 : Int) = 0) = false from rfl, show decide ((2 : Int) = 1) = false from rfl, show decide ((2 : Int) = 2) = true from rfl, Bool.false_and, Bool.false_or, Bool.true_and]
    rcases Int.lt_or_le b (2 * r) with hr | hr
    · rw [decide_eq_true hr, decide_eq_true (by omega : r ≠ 0)]
      rw [show (true && (decide True && true)) = true from rfl, if_pos rfl]
      exact key _ (3 * b - 2 * r) (by rw [Int.mul_neg, Int.mul_add, Int.mul_one]; omega) (by omega) (by omega)
    · rw [decide_eq_false (by omega : ¬ b < 2 * r)]
      simp only [Bool.and_false, Bool.false_eq_true, if_false, Int.add_zero]
      exact key _ (b - 2 * r) (by rw [Int.mul_neg]; omega) (by omega) (by omega)
  · have ez : absI z = z := by unfold absI; rw [if_neg (by omega)]
    rw [ez] at h1
    rw [decide_eq_false (by omega : ¬ z < 0)]
    simp only [cond_false, Bool.not_false, Bool.and_true, show decide ((2 : Int) = 0) = false from rfl, show decide ((2 : Int) = 1) = false from rfl, show decide ((2 : Int) = 2) = true from rfl, Bool.false_and, Bool.false_or, Bool.true_and]
    rcases Int.lt_or_le (2 * r) b with hr | hr
    · rw [decide_eq_false (by omega : ¬ b < 2 * r), decide_eq_false (by omega : ¬ b = 2 * r)]
      simp only [Bool.or_self, Bool.and_false, Bool.false_eq_true, if_false, Int.add_zero]
      exact key _ (b + 2 * r) (by omega) (by omega) (by omega)
    · have e : (decide (b < 2 * r) || decide (b = 2 * r)) = true := by
        rw [Bool.or_eq_true, decide_eq_true_eq, decide_eq_true_eq]; omega
      rw [e, decide_eq_true (by omega : r ≠ 0)]
      rw [show (true && (decide True && true)) = true from rfl, if_pos rfl]
      exact key _ (2 * r - b) (by rw [Int.mul_add, Int.mul_one]; omega) (by omega) (by omega)
end Go.Proofs.Ytemmnpgebpffbaa
/- Package root: Floor; the reference's Floor. -/
namespace Go.Proofs.Ytemmnpgebpffbaa
open Go.RowKit
/-- The greatest number whose square is no more. -/
def isq : Nat → Nat
  | 0 => 0
  | x + 1 => if (isq x + 1) * (isq x + 1) ≤ x + 1 then isq x + 1 else isq x
theorem isq_spec : ∀ x, isq x * isq x ≤ x ∧ x < (isq x + 1) * (isq x + 1)
  | 0 => by simp [isq]
  | x + 1 => by
    obtain ⟨h1, h2⟩ := isq_spec x
    rw [isq]
    generalize isq x = r at *
    have e1 : (r + 1) * (r + 1) = r * r + 2 * r + 1 := by rw [Nat.add_mul, Nat.mul_add]; omega
    have e2 : (r + 1 + 1) * (r + 1 + 1) = r * r + 4 * r + 4 := by rw [Nat.add_mul, Nat.mul_add, Nat.add_mul, Nat.mul_add]; omega
    split
    · exact ⟨by assumption, by omega⟩
    · exact ⟨by omega, by omega⟩
theorem isq_of {x r : Nat} (h1 : r * r ≤ x) (h2 : x < (r + 1) * (r + 1)) : isq x = r := by
  obtain ⟨g1, g2⟩ := isq_spec x
  rcases Nat.lt_trichotomy (isq x) r with h | h | h
  · have := Nat.mul_le_mul h h
    rw [Nat.succ_eq_add_one] at this
    omega
  · exact h
  · have := Nat.mul_le_mul h h
    rw [Nat.succ_eq_add_one] at this
    omega
theorem l_str {F : Fence} {n : Nat} {P : Program} {N : Nat} {ds : List Deferred} {w0 : World} {W : Nat → Prop} {σ : List (Nat × Value)} {H : List HE} {Q : Exit → Act → World → Prop} {ops : Array Oper} {rest : List Oper} {d : Nat} {ty : TypeId} {pos : String} {aft : Array Edge} {gd : Option (Nat × Bool)} [Wide F] {x y : Operand} {t : TypeId} {s : ByteArray} {k : IntKind} {i : Nat} [hu : Und P t .string]
    (hw : wantd ops σ ⟨some d, .index t x y, ty, pos, aft, gd⟩ = some true) (hx : ev σ x = some (.string s)) (hy : ev σ y = some (.int k (i : Int))) (hs : Nat.ble 256 s.size = true) (hi : i < 256) (hT : ∀ i : Fin 256, (i : Nat) < 2 ^ (s.data.getD i 0).toNat ∧ (s.data.getD i 0).toNat ≤ 8) (hdN : Nat.blt d N = true)
    (h : ∀ t : Nat, i < 2 ^ t → t ≤ 8 → J N ds w0 W ((d, .int .u8 (t : Nat)) :: σ) H (wpListIn F n P ops Q rest)) : J N ds w0 W σ H (wpListIn F n P ops Q (⟨some d, .index t x y, ty, pos, aft, gd⟩ :: rest)) :=
  l_run hw (o_val (by simp) rfl hdN (fun a w ha _ => by
    have hc : i < s.size := Nat.lt_of_lt_of_le hi (Nat.le_of_ble_eq_true hs)
    have e : s[i]? = some (s.data.getD i 0) := by
      have h1 : s[i]? = some s[i] := by simp [getElem?_pos, hc]
      have hc' : i < s.data.size := hc
      rw [h1]
      congr 1
      show s.data[i] = _
      rw [Array.getD_eq_getD_getElem?, Array.getElem?_eq_getElem hc']
      rfl
    simp [execOp, ha.eval hx, ha.eval hy, Instr.index, run_underlying hu.h, asIntOf, e]) (h _ (hT ⟨i, hi⟩).1 (hT ⟨i, hi⟩).2))
attribute [local irreducible] OJ J HdJ Code.wpIn wpListIn Oper.wpIn bodyPost CallsIn Does
set_option maxRecDepth 4000
theorem lenR {x v b t : Nat} {n : Int} (h1 : v < 2 ^ t) (h2 : t ≤ 8) (hn : n = (b : Int) + (t : Nat)) (e : v = x / 2 ^ b) (hb : b ≤ 56) : 0 ≤ n ∧ n ≤ 64 ∧ x < 2 ^ n.toNat := by
  have en : n.toNat = b + t := by omega
  refine ⟨by omega, by omega, ?_⟩
  rw [en, Nat.pow_add, Nat.mul_comm]
  rw [e] at h1
  exact (Nat.div_lt_iff_lt_mul (Nat.two_pow_pos b)).1 h1
set_option maxHeartbeats 16000000 in
theorem len64_any (x : Nat) (w : World) (hx : x < 18446744073709551616) : Does Try.prog 121 [.int .u64 x] [] w (fun v S' => ∃ n : Int, v = .int .i64 n ∧ (0 ≤ n ∧ n ≤ 64 ∧ x < 2 ^ n.toNat) ∧ S' = []) := by
  refine does_of Try.func121 rfl Try.ntmps121 rfl ⟨by simp, .nil⟩ (fun n => ?_)
  simp only [slots]
  refine z_tas
  all_goals first
    | (refine j_set 21 _ rfl (v' := .int .u8 ((x / 4294967296 / 65536 / 256 : Nat) : Int)) (congrArg (Value.int .u8) (by omega)) ?_; refine z_tas; refine l_str rfl rfl rfl (by decide +kernel) (by omega) (by decide +kernel) rfl fun t h1 h2 => ?_; refine z_tas; refine j_out1 rfl rfl (.nil _) ?_; refine ⟨_, rfl, ?_, rfl⟩; exact lenR (b := 56) h1 h2 (by omega) (by omega) (by omega))
    | (refine j_set 21 _ rfl (v' := .int .u8 ((x / 4294967296 / 65536 : Nat) : Int)) (congrArg (Value.int .u8) (by omega)) ?_; refine z_tas; refine l_str rfl rfl rfl (by decide +kernel) (by omega) (by decide +kernel) rfl fun t h1 h2 => ?_; refine z_tas; refine j_out1 rfl rfl (.nil _) ?_; refine ⟨_, rfl, ?_, rfl⟩; exact lenR (b := 48) h1 h2 (by omega) (by omega) (by omega))
    | (refine j_set 21 _ rfl (v' := .int .u8 ((x / 4294967296 / 256 : Nat) : Int)) (congrArg (Value.int .u8) (by omega)) ?_; refine z_tas; refine l_str rfl rfl rfl (by decide +kernel) (by omega) (by decide +kernel) rfl fun t h1 h2 => ?_; refine z_tas; refine j_out1 rfl rfl (.nil _) ?_; refine ⟨_, rfl, ?_, rfl⟩; exact lenR (b := 40) h1 h2 (by omega) (by omega) (by omega))
    | (refine j_set 21 _ rfl (v' := .int .u8 ((x / 4294967296 : Nat) : Int)) (congrArg (Value.int .u8) (by omega)) ?_; refine z_tas; refine l_str rfl rfl rfl (by decide +kernel) (by omega) (by decide +kernel) rfl fun t h1 h2 => ?_; refine z_tas; refine j_out1 rfl rfl (.nil _) ?_; refine ⟨_, rfl, ?_, rfl⟩; exact lenR (b := 32) h1 h2 (by omega) (by omega) (by omega))
    | (refine j_set 21 _ rfl (v' := .int .u8 ((x / 65536 / 256 : Nat) : Int)) (congrArg (Value.int .u8) (by omega)) ?_; refine z_tas; refine l_str rfl rfl rfl (by decide +kernel) (by omega) (by decide +kernel) rfl fun t h1 h2 => ?_; refine z_tas; refine j_out1 rfl rfl (.nil _) ?_; refine ⟨_, rfl, ?_, rfl⟩; exact lenR (b := 24) h1 h2 (by omega) (by omega) (by omega))
    | (refine j_set 21 _ rfl (v' := .int .u8 ((x / 65536 : Nat) : Int)) (congrArg (Value.int .u8) (by omega)) ?_; refine z_tas; refine l_str rfl rfl rfl (by decide +kernel) (by omega) (by decide +kernel) rfl fun t h1 h2 => ?_; refine z_tas; refine j_out1 rfl rfl (.nil _) ?_; refine ⟨_, rfl, ?_, rfl⟩; exact lenR (b := 16) h1 h2 (by omega) (by omega) (by omega))
    | (refine j_set 21 _ rfl (v' := .int .u8 ((x / 256 : Nat) : Int)) (congrArg (Value.int .u8) (by omega)) ?_; refine z_tas; refine l_str rfl rfl rfl (by decide +kernel) (by omega) (by decide +kernel) rfl fun t h1 h2 => ?_; refine z_tas; refine j_out1 rfl rfl (.nil _) ?_; refine ⟨_, rfl, ?_, rfl⟩; exact lenR (b := 8) h1 h2 (by omega) (by omega) (by omega))
    | (refine j_set 21 _ rfl (v' := .int .u8 ((x : Nat) : Int)) (congrArg (Value.int .u8) (by omega)) ?_; refine z_tas; refine l_str rfl rfl rfl (by decide +kernel) (by omega) (by decide +kernel) rfl fun t h1 h2 => ?_; refine z_tas; refine j_out1 rfl rfl (.nil _) ?_; refine ⟨_, rfl, ?_, rfl⟩; exact lenR (b := 0) h1 h2 (by omega) (by omega) (by omega))
    | (exfalso; omega)
theorem or_pow {r q : Nat} (hq : q ≤ 62) (hr : r < 4294967296) (hm : r % 2 ^ (q + 1) = 0) : bits .or .u64 (r : Int) (IntKind.u64.wrap (1 * 2 ^ (min (q : Int).toNat IntKind.u64.bits))) = ((r + 2 ^ q : Nat) : Int) := by
  have hp : 2 ^ q < 9223372036854775808 := Nat.lt_of_lt_of_le (Nat.pow_lt_pow_right (by decide) (by omega : q < 63)) (Nat.le_refl _)
  have e1 : IntKind.u64.wrap (1 * 2 ^ (min (q : Int).toNat IntKind.u64.bits)) = ((2 ^ q : Nat) : Int) := by
    rw [Int.toNat_natCast, Nat.min_eq_left (show q ≤ IntKind.u64.bits from (by omega : q ≤ 64)), Int.one_mul, IntKind.wrap_u64]
    have e : ((2 : Int) ^ q) = ((2 ^ q : Nat) : Int) := by rw [Int.natCast_pow]; rfl
    rw [e]
    generalize 2 ^ q = p at *
    omega
  rw [e1, bits_or_u64_nat _ _ (by omega) (by omega)]
  congr 1
  have h2 := Nat.two_pow_add_eq_or_of_lt (i := q + 1) (b := 2 ^ q) (by rw [Nat.pow_succ]; have := Nat.two_pow_pos q; omega) (r / 2 ^ (q + 1))
  rw [show 2 ^ (q + 1) * (r / 2 ^ (q + 1)) = r by have := Nat.div_add_mod r (2 ^ (q + 1)); omega] at h2
  exact h2.symm
end Go.Proofs.Ytemmnpgebpffbaa
/- Package terrain: corners, the heights around a place. -/
namespace Go.Proofs.Ytemmnpgebpffbaa
open Go.RowKit
/-- Does a place lie on a map? -/
def InsP (W H : Nat) (X Y : Int) : Prop := 0 ≤ X ∧ 0 ≤ Y ∧ X ≤ ((W : Int) - 1) * 256 ∧ Y ≤ ((H : Int) - 1) * 256
instance (W H : Nat) (X Y : Int) : Decidable (InsP W H X Y) := by unfold InsP; infer_instance
/-- One of the four heights around a place. -/
def corX (X : Int) (i : Nat) : Int := X / 256 + if X % 256 = 0 then 0 else ((i : Nat) : Int)
def corH (W H : Nat) (f : List Int) (X Y : Int) (i : Nat) : Int × Int := heightF W H f (corX X (i % 2)) (corX Y (i / 2))
/-- What is wrong with the first so many of the four. -/
def codeT (W H : Nat) (f : List Int) (X Y : Int) : Nat → Int
  | 0 => 0
  | i + 1 => if codeT W H f X Y i ≠ 0 then codeT W H f X Y i else (corH W H f X Y i).2
def codeF (W H : Nat) (f : List Int) (X Y : Int) : Int := if InsP W H X Y then codeT W H f X Y 4 else 9
def zT (W H : Nat) (f : List Int) (X Y : Int) : Nat → List Int
  | 0 => [0, 0, 0, 0]
  | i + 1 => (zT W H f X Y i).set i (corH W H f X Y i).1
theorem zT_len (W H : Nat) (f : List Int) (X Y : Int) : ∀ i, (zT W H f X Y i).length = 4
  | 0 => rfl
  | i + 1 => by rw [zT, List.length_set, zT_len W H f X Y i]
def fourF (W H : Nat) (f : List Int) (X Y : Int) : List Int := if codeF W H f X Y = 0 then zT W H f X Y 4 else [0, 0, 0, 0]
theorem heightF_in {W H : Nat} {f : List Int} (hf : In16 f) (x y : Int) : -32768 ≤ (heightF W H f x y).1 ∧ (heightF W H f x y).1 ≤ 32767 := by
  unfold heightF
  split
  · exact ⟨by decide, by decide⟩
  split
  · exact ⟨by decide, by decide⟩
  · exact hf _
instance : SzI Try.prog 2 1 := ⟨Try.t2, by kernel_rfl, by kernel_rfl⟩
theorem and255 {x : Int} (h : 0 ≤ x) (h2 : x < 4611686018427387904) : bits .and .i64 x 255 = x % 256 := bits_mask .i64 62 (by decide) (fun n h0 h1 => by rw [IntKind.wrap_i64]; omega) 8 (by decide) x h (by omega)
section
variable {P : Program} {w0 : World} {W : Nat → Prop} {H : List HE}
instance (priority := 90) (x y : Operand) (t e m b q sz j r r' : Nat) (k : IntKind) (a : Int) [hu : Und P t (.array m e)] [hI : SzI P e sz] [ha : LitI a j] [hm : NMul j sz r] [hr : NAdd q r r'] : LV P w0 W H (.indexAddr t x y) [.pointer (some ⟨b, q, none⟩), .int k a] (.pointer (some ⟨b, r', none⟩)) (j < m) := ⟨fun hc => by
  have := LV.h (P := P) (w0 := w0) (W := W) (H := H) (op := .indexAddr t x y) (vs := [.pointer (some ⟨b, q, none⟩), .int k (j : Int)]) (v := .pointer (some ⟨b, r', none⟩)) hc
  rw [← ha.h] at this
  exact this⟩
instance (priority := 90) (x y : Operand) (t e m b q sz j r r' : Nat) (k : IntKind) (a : Int) [hu : Und P t (.array m e)] [hI : SzI P e sz] [ha : LitI a j] [hm : NMul j sz r] [hr : NAdd q r r'] : MS P w0 W H (.indexAddr t x y) [.pointer (some ⟨b, q, none⟩), .int k a] (.pointer (some ⟨b, r', none⟩)) (j < m) := by
  have h0 : MS P w0 W H (.indexAddr t x y) [.pointer (some ⟨b, q, none⟩), .int k (j : Int)] (.pointer (some ⟨b, r', none⟩)) (j < m) := inferInstance
  rw [← ha.h] at h0
  exact h0
end
/-- An array of which no part is told. -/
theorem lb0 {F : Fence} {n : Nat} {P : Program} {N : Nat} {ds : List Deferred} {w0 : World} {W : Nat → Prop} {σ : List (Nat × Value)} {H : List HE} {Q : Exit → Act → World → Prop} {ops : Array Oper} {rest : List Oper} {d : Nat} {ty : TypeId} {pos : String} {aft : Array Edge} {gd : Option (Nat × Bool)} [Wide F] {t e m sz bs szt bst : Nat} {z ze : Value} {zs : List Value} [hu : Und P t (.array m e)] [hI : Inf P t szt bst z] [he : Inf P e sz bs ze] [hz : ZC z zs] (hw : wantd ops σ ⟨some d, .build t #[], ty, pos, aft, gd⟩ = some true) (hdN : Nat.blt d N = true)
    (h : J N ds w0 W ((d, .agg zs.toArray) :: σ) H (wpListIn F n P ops Q rest)) : J N ds w0 W σ H (wpListIn F n P ops Q (⟨some d, .build t #[], ty, pos, aft, gd⟩ :: rest)) := by
  refine l_run hw (o_val (by simp) rfl hdN (fun a w ha _ => ?_) h)
  obtain ⟨i, h3, h4, -⟩ := hI.h
  obtain ⟨j, h5, -, h6, -⟩ := he.h
  have hb : (Instr.build t ((#[] : Array (Nat × Operand)).map fun (i, x) => (i, a.eval x))).run P w = .ok (.agg zs.toArray) w := by
    unfold Instr.build
    have hz' : (zeroValue t).run P w = .ok z w := by simp [zeroValue, typeInfo, h3, h4]
    have hs : (sizeOf e).run P w = .ok sz w := by simp [sizeOf, typeInfo, h5, h6]
    have hc : z.cells = zs.toArray := by rw [← hz.h]
    simp only [Sem.run_bind, hz', Result.andThen_ok, run_underlying hu.h, hs, Array.map_empty, Instr.fill, Sem.run_pure, hc]
  simp only [execOp, Sem.run_bind, hb, Result.andThen_ok, Sem.run_pure]
attribute [local irreducible] OJ J HdJ Code.wpIn wpListIn Oper.wpIn bodyPost CallsIn Does
set_option maxRecDepth 4000
set_option maxHeartbeats 16000000 in
theorem inside_any (W H : Nat) (A : Option Addr) (m c : Nat) (cell ox oy X Y : Int) (w : World) (hm : 1 ≤ W ∧ W ≤ 1000000 ∧ 1 ≤ H ∧ H ≤ 1000000) :
    Does Try.prog 80 [.agg #[.int .i64 W, .int .i64 H, .slice A m c, .int .i64 cell, .int .i32 ox, .int .i32 oy], .agg #[.int .i64 X, .int .i64 Y]] [] w (fun v S' => v = .bool (decide (InsP W H X Y)) ∧ S' = []) := by
  refine does_of Try.func80 rfl Try.ntmps80 rfl ⟨by simp, .nil⟩ (fun n => ?_)
  simp only [slots]
  refine z_tas
  all_goals exact j_out1 rfl rfl (.nil _) ⟨congrArg Value.bool (by rw [Bool.eq_iff_iff]; simp only [decide_eq_true_eq, Bool.and_eq_true, Bool.false_eq_true, false_iff]; unfold InsP; omega), rfl⟩
set_option maxHeartbeats 16000000 in
theorem corner_any (X Y : Int) (w : World) (h : (0 ≤ X ∧ X < 4611686018427387904) ∧ (0 ≤ Y ∧ Y < 4611686018427387904)) :
    Does Try.prog 54 [.agg #[.int .i64 X, .int .i64 Y]] [] w (fun v S' => v = .tuple #[.int .i64 (X / 256), .int .i64 (Y / 256), .int .i64 (X % 256), .int .i64 (Y % 256)] ∧ S' = []) := by
  refine does_of Try.func54 rfl Try.ntmps54 rfl ⟨by simp, .nil⟩ (fun n => ?_)
  simp only [slots]
  rw [← and255 h.1.1 h.1.2, ← and255 h.2.1 h.2.2]
  refine z_gob
  all_goals (refine z_ro; exact ⟨rfl, rfl⟩)
theorem four_of {l : List Int} (h : l.length = 4) : ∃ a b c d, l = [a, b, c, d] := by
  match l, h with
  | [a, b, c, d], _ => exact ⟨a, b, c, d, rfl⟩
theorem ints_set (k : IntKind) (xs : List Int) (q : Nat) (v : Int) : (ints k xs).set q (.int k v) = ints k (xs.set q v) := by unfold ints; rw [List.map_set]
theorem and1 : ∀ i : Nat, i < 4 → bits .and .i64 (i : Int) 1 = ((i % 2 : Nat) : Int)
  | 0, _ => by decide
  | 1, _ => by decide
  | 2, _ => by decide
  | 3, _ => by decide
  | n + 4, h => by omega
theorem codeT_stop {W H : Nat} {f : List Int} {X Y : Int} {i : Nat} (h : codeT W H f X Y i ≠ 0) : ∀ k, codeT W H f X Y (i + k) = codeT W H f X Y i
  | 0 => rfl
  | k + 1 => by rw [← Nat.add_assoc, codeT, codeT_stop h k, if_pos h]
set_option maxHeartbeats 64000000 in
theorem four_c (K : CaT) (s : CaV) (f : List Int) (X Y b : Int) (w : World) (hown : Own (K.H s) w) (hF : CaF K.ys f K.room) (h : CaOk K.ys f K.room s b) (hb : b ≤ 900000000000000000) :
    Does Try.prog 53 [.pointer (some ⟨K.g, 0, none⟩), .agg #[.int .i64 X, .int .i64 Y]] (K.H s) w (fun v S' => ∃ s', v = .tuple #[.agg (ints .i64 (fourF (wY K.ys) (hY K.ys) f X Y)).toArray, .int .i64 (codeF (wY K.ys) (hY K.ys) f X Y)] ∧ CaOk K.ys f K.room s' (b + 4) ∧ S' = K.H s') := by
  have hrg := hF.op.rng
  unfold rangeY at hrg
  refine does_of Try.func53 rfl Try.ntmps53 rfl hown (fun n => ?_)
  simp only [slots]
  refine z_tas
  rename_i b3 b4 b6
  refine c_dv (0 :: 1 :: 2 :: 3 :: 4 :: []) ?_; intro _
  refine z_govG
  refine lk rfl rfl rfl (S := K.H s) (fun w hw ho => chart_c K s w ho) ?_
  refine z_govG
  refine lfv rfl rfl rfl (fun w _ => inside_any (wY K.ys) (hY K.ys) none 0 0 _ _ _ X Y w (by omega)) ?_
  by_cases hI : InsP (wY K.ys) (hY K.ys) X Y
  · rw [decide_eq_true hI]
    have hI2 := hI
    unfold InsP at hI2
    refine z_govG
    refine lfv rfl rfl rfl (fun w _ => corner_any X Y w (by omega)) ?_
    refine z_tas
    refine c_loop (X := Nat × CaV) (fun q => q.1 ≤ 4 ∧ codeT (wY K.ys) (hY K.ys) f X Y q.1 = 0 ∧ CaOk K.ys f K.room q.2 (b + q.1)) (fun q => [(0, .pointer (some ⟨K.g, 0, none⟩)), (4, .pointer (some ⟨b4, 0, none⟩)), (6, .pointer (some ⟨b6, 0, none⟩)), (7, .int .i64 (X / 256)), (8, .int .i64 (Y / 256)), (9, .int .i64 (X % 256)), (10, .int .i64 (Y % 256)), (29, .int .i64 q.1)])
      (fun q => K.HC q.2 [.blk b6 112 (ints .i64 (zT (wY K.ys) (hY K.ys) f X Y q.1)), .blk b4 112 [.int .i64 0, .int .i64 0, .int .i64 0, .int .i64 0], .blk b3 30 [.int .i64 X, .int .i64 Y]]) (fun q => 4 - q.1) (0, s) ⟨by omega, rfl, by simpa using h⟩ ⟨rfl, rfl, rfl, rfl, rfl, rfl, rfl, rfl, trivial⟩ (by show Sub (K.HC s (.blk b6 _ [.int .i64 0, .int .i64 0, .int .i64 0, .int .i64 0] :: _)) _; exact Sub.au) ?_
    rintro ⟨i, s1⟩ ⟨hi, hc0, hs⟩
    dsimp only at hi hc0 hs ⊢
    have hzl := zT_len (wY K.ys) (hY K.ys) f X Y i
    rcases Nat.lt_or_ge i 4 with h4 | h4
    · have ha := and1 i h4
      have hd : (i : Int) / 2 ^ 1 = ((i / 2 : Nat) : Int) := by omega
      have hci := heightF_in (W := wY K.ys) (H := hY K.ys) hF.good.1
      have ec : codeT (wY K.ys) (hY K.ys) f X Y (i + 1) = (corH (wY K.ys) (hY K.ys) f X Y i).2 := by rw [codeT, if_neg (by rw [hc0]; simp)]
      have ez : zT (wY K.ys) (hY K.ys) f X Y (i + 1) = (zT (wY K.ys) (hY K.ys) f X Y i).set i (corH (wY K.ys) (hY K.ys) f X Y i).1 := rfl
      have o1 : SetAt (ints .i64 (zT (wY K.ys) (hY K.ys) f X Y i)) i (.int .i64 (heightF (wY K.ys) (hY K.ys) f (corX X (i % 2)) (corX Y (i / 2))).1) (ints .i64 (zT (wY K.ys) (hY K.ys) f X Y (i + 1))) := ⟨by rw [ints_set, ez]; rfl, by rw [ints_len, hzl]; exact h4⟩
      have hc1 := hci (corX X (i % 2)) (corX Y (i / 2))
      refine z_tas
      all_goals
        refine j_set 44 _ rfl (v' := .int .i64 (corX X (i % 2))) (congrArg (Value.int .i64) (by unfold corX; first | rw [if_pos (by assumption)] | rw [if_neg (by assumption), ha])) ?_
        refine j_set 47 _ rfl (v' := .int .i64 (corX Y (i / 2))) (congrArg (Value.int .i64) (by unfold corX; first | rw [if_pos (by assumption)] | rw [if_neg (by assumption), hd])) ?_
        refine lf rfl rfl rfl (S := K.H s1) (fun w hw ho => height_c K s1 f (corX X (i % 2)) (corX Y (i / 2)) (b + i) w ho hF hs (by omega)) ?_
        rintro v S' ⟨s', rfl, g1, rfl⟩
        have k1 := g1.ok hF hs
        refine z_gox
        refine c_if rfl ?_ ?_ <;> intro h9
        · have e4 : codeT (wY K.ys) (hY K.ys) f X Y (i + 1 + (3 - i)) = _ := codeT_stop (by rw [ec]; exact h9) _
          rw [show i + 1 + (3 - i) = 4 by omega, ec] at e4
          have e5 : codeF (wY K.ys) (hY K.ys) f X Y = (heightF (wY K.ys) (hY K.ys) f (corX X (i % 2)) (corX Y (i / 2))).2 := by unfold codeF; rw [if_pos hI, e4]; rfl
          rw [show fourF (wY K.ys) (hY K.ys) f X Y = [0, 0, 0, 0] by unfold fourF; rw [e5, if_neg h9], e5]
          refine z_gox
          refine lb0 rfl rfl ?_
          refine z_gox
          refine j_outK (S' := K.H s') Sub.au ?_
          refine z_rk
          exact ⟨s', rfl, k1.mono (by omega), rfl⟩
        · refine z_tas
          exact c_round (i + 1, s') ⟨h4, by rw [ec]; exact Classical.not_not.1 h9, k1.mono (by omega)⟩ (by show 4 - (i + 1) < 4 - i; omega) ⟨rfl, rfl, rfl, rfl, rfl, rfl, rfl, by simp [look], trivial⟩ Sub.au
    · obtain rfl : i = 4 := by omega
      have e5 : codeF (wY K.ys) (hY K.ys) f X Y = 0 := by unfold codeF; rw [if_pos hI, hc0]
      rw [show fourF (wY K.ys) (hY K.ys) f X Y = zT (wY K.ys) (hY K.ys) f X Y 4 by unfold fourF; rw [if_pos e5], e5]
      generalize zT (wY K.ys) (hY K.ys) f X Y 4 = L at *
      obtain ⟨z0, z1, z2, z3, rfl⟩ := four_of hzl
      simp only [ints, List.map_cons, List.map_nil]
      refine z_tas
      refine j_outK (S' := K.H s1) Sub.au ?_
      refine z_rk
      exact ⟨s1, rfl, hs, rfl⟩
  · rw [decide_eq_false hI]
    have ec : codeF (wY K.ys) (hY K.ys) f X Y = 9 := if_neg hI
    have ef : fourF (wY K.ys) (hY K.ys) f X Y = [0, 0, 0, 0] := by unfold fourF; rw [ec]; rfl
    rw [ec, ef]
    refine z_govG
    refine j_outK (S' := K.H s) Sub.au ?_
    refine z_rk
    exact ⟨s, rfl, h.mono (by omega), rfl⟩
end Go.Proofs.Ytemmnpgebpffbaa
/- Package terrain: Height, Slope. -/
namespace Go.Proofs.Ytemmnpgebpffbaa
open Go.RowKit
/-- The ground at a place, times 65536. -/
def exF (a b c d fx fy : Int) : Int := (a * (256 - fx) + b * fx) * (256 - fy) + (c * (256 - fx) + d * fx) * fy
def exL : List Int → Int → Int → Int
  | [a, b, c, d], fx, fy => exF a b c d fx fy
  | _, _, _ => 0
def heightT (W H : Nat) (f : List Int) (X Y : Int) : Int := if codeF W H f X Y = 0 then (2 * (exL (fourF W H f X Y) (X % 256) (Y % 256) * 16) + 65536) / (2 * 65536) else 0
def slX : List Int → Int → Int
  | [a, b, c, d], fy => (b - a) * (256 - fy) + (d - c) * fy
  | _, _ => 0
def slY : List Int → Int → Int
  | [a, b, c, d], fx => (c - a) * (256 - fx) + (d - b) * fx
  | _, _ => 0
def slopeT (W H : Nat) (f : List Int) (X Y : Int) : Int × Int := if codeF W H f X Y = 0 then ((2 * (slX (fourF W H f X Y) (Y % 256) * 16) + 256) / (2 * 256), (2 * (slY (fourF W H f X Y) (X % 256) * 16) + 256) / (2 * 256)) else (0, 0)
theorem zT_in {W H : Nat} {f : List Int} (hf : In16 f) (X Y : Int) : ∀ i, ∀ z ∈ zT W H f X Y i, -32768 ≤ z ∧ z ≤ 32767
  | 0, z, hz => by simp [zT] at hz; omega
  | i + 1, z, hz => by
    rw [zT] at hz
    rcases List.mem_or_eq_of_mem_set hz with h | h
    · exact zT_in hf X Y i z h
    · rw [h]; exact heightF_in hf _ _
theorem fourF_in {W H : Nat} {f : List Int} (hf : In16 f) (X Y : Int) : ∃ a b c d, fourF W H f X Y = [a, b, c, d] ∧ (-32768 ≤ a ∧ a ≤ 32767) ∧ (-32768 ≤ b ∧ b ≤ 32767) ∧ (-32768 ≤ c ∧ c ≤ 32767) ∧ (-32768 ≤ d ∧ d ≤ 32767) := by
  unfold fourF
  split
  · obtain ⟨a, b, c, d, e⟩ := four_of (zT_len W H f X Y 4)
    have h := zT_in hf (W := W) (H := H) X Y 4
    rw [e] at h ⊢
    exact ⟨a, b, c, d, rfl, h a (by simp), h b (by simp), h c (by simp), h d (by simp)⟩
  · exact ⟨0, 0, 0, 0, rfl, by omega, by omega, by omega, by omega⟩
theorem exF_in {a b c d fx fy : Int} (h : (-32768 ≤ a ∧ a ≤ 32767) ∧ (-32768 ≤ b ∧ b ≤ 32767) ∧ (-32768 ≤ c ∧ c ≤ 32767) ∧ (-32768 ≤ d ∧ d ≤ 32767)) (hx : 0 ≤ fx ∧ fx < 256) (hy : 0 ≤ fy ∧ fy < 256) :
    (-8388608 ≤ a * (256 - fx) ∧ a * (256 - fx) ≤ 8388608) ∧ (-8388608 ≤ b * fx ∧ b * fx ≤ 8388608) ∧ (-8388608 ≤ c * (256 - fx) ∧ c * (256 - fx) ≤ 8388608) ∧ (-8388608 ≤ d * fx ∧ d * fx ≤ 8388608) ∧
    (-4294967296 ≤ (a * (256 - fx) + b * fx) * (256 - fy) ∧ (a * (256 - fx) + b * fx) * (256 - fy) ≤ 4294967296) ∧ (-4294967296 ≤ (c * (256 - fx) + d * fx) * fy ∧ (c * (256 - fx) + d * fx) * fy ≤ 4294967296) := by
  have m1 := mulB 32768 256 (a := a) (b := 256 - fx) (by omega) (by omega)
  have m2 := mulB 32768 256 (a := b) (b := fx) (by omega) (by omega)
  have m3 := mulB 32768 256 (a := c) (b := 256 - fx) (by omega) (by omega)
  have m4 := mulB 32768 256 (a := d) (b := fx) (by omega) (by omega)
  have m5 := mulB 16777216 256 (a := a * (256 - fx) + b * fx) (b := 256 - fy) (by omega) (by omega)
  have m6 := mulB 16777216 256 (a := c * (256 - fx) + d * fx) (b := fy) (by omega) (by omega)
  omega
attribute [local irreducible] OJ J HdJ Code.wpIn wpListIn Oper.wpIn bodyPost CallsIn Does
set_option maxRecDepth 4000
set_option maxHeartbeats 16000000 in
theorem exact_any (a b c d fx fy : Int) (w : World) (h : (-32768 ≤ a ∧ a ≤ 32767) ∧ (-32768 ≤ b ∧ b ≤ 32767) ∧ (-32768 ≤ c ∧ c ≤ 32767) ∧ (-32768 ≤ d ∧ d ≤ 32767)) (hx : 0 ≤ fx ∧ fx < 256) (hy : 0 ≤ fy ∧ fy < 256) :
    Does Try.prog 56 [.agg #[.int .i64 a, .int .i64 b, .int .i64 c, .int .i64 d], .int .i64 fx, .int .i64 fy] [] w (fun v S' => v = .int .i64 (exF a b c d fx fy) ∧ S' = []) := by
  obtain ⟨m1, m2, m3, m4, m5, m6⟩ := exF_in h hx hy
  refine does_of Try.func56 rfl Try.ntmps56 rfl ⟨by simp, .nil⟩ (fun n => ?_)
  simp only [slots]
  refine z_tas
  exact j_out1 rfl rfl (.nil _) ⟨rfl, rfl⟩
set_option maxHeartbeats 64000000 in
theorem height_t (K : CaT) (s : CaV) (f : List Int) (X Y b : Int) (w : World) (hown : Own (K.H s) w) (hF : CaF K.ys f K.room) (h : CaOk K.ys f K.room s b) (hb : b ≤ 900000000000000000) :
    Does Try.prog 33 [.pointer (some ⟨K.g, 0, none⟩), .agg #[.int .i64 X, .int .i64 Y]] (K.H s) w (fun v S' => ∃ s', v = .tuple #[.int .i64 (heightT (wY K.ys) (hY K.ys) f X Y), .int .i64 (codeF (wY K.ys) (hY K.ys) f X Y)] ∧ CaOk K.ys f K.room s' (b + 4) ∧ S' = K.H s') := by
  have hrg := hF.op.rng
  unfold rangeY at hrg
  refine does_of Try.func33 rfl Try.ntmps33 rfl hown (fun n => ?_)
  simp only [slots]
  refine z_tas
  refine lf rfl rfl rfl (S := K.H s) (fun w hw ho => four_c K s f X Y b w ho hF h hb) ?_
  rintro v S' ⟨s', rfl, k1, rfl⟩
  obtain ⟨z0, z1, z2, z3, e4, hz⟩ := fourF_in (W := wY K.ys) (H := hY K.ys) hF.good.1 X Y
  unfold heightT
  rw [e4]
  simp only [ints, List.map_cons, List.map_nil, exL]
  by_cases hc : codeF (wY K.ys) (hY K.ys) f X Y = 0
  · have hI : InsP (wY K.ys) (hY K.ys) X Y := by
      unfold codeF at hc
      split at hc
      · assumption
      · exact absurd hc (by decide)
    unfold InsP at hI
    rw [if_pos hc, hc]
    have hex := exF_in (fx := X % 256) (fy := Y % 256) hz (by omega) (by omega)
    have he : -8589934592 ≤ exF z0 z1 z2 z3 (X % 256) (Y % 256) ∧ exF z0 z1 z2 z3 (X % 256) (Y % 256) ≤ 8589934592 := by unfold exF; omega
    refine z_tas
    refine lfv rfl rfl rfl (fun w _ => corner_any X Y w (by omega)) ?_
    refine z_tas
    refine lfv rfl rfl rfl (fun w _ => exact_any z0 z1 z2 z3 (X % 256) (Y % 256) w hz (by omega) (by omega)) ?_
    refine z_tas
    refine j_out2 rfl rfl rfl Sub.au ⟨s', ?_, k1, rfl⟩
    rw [divV_near (by decide)]
  · rw [if_neg hc]
    refine z_tas
    all_goals exact j_out2 rfl rfl rfl Sub.au ⟨s', rfl, k1, rfl⟩
theorem sl_in {a b c d fy : Int} (h : (-32768 ≤ a ∧ a ≤ 32767) ∧ (-32768 ≤ b ∧ b ≤ 32767) ∧ (-32768 ≤ c ∧ c ≤ 32767) ∧ (-32768 ≤ d ∧ d ≤ 32767)) (hy : 0 ≤ fy ∧ fy < 256) : (-16777216 ≤ (b - a) * (256 - fy) ∧ (b - a) * (256 - fy) ≤ 16777216) ∧ (-16777216 ≤ (d - c) * fy ∧ (d - c) * fy ≤ 16777216) := by
  have m1 := mulB 65536 256 (a := b - a) (b := 256 - fy) (by omega) (by omega)
  have m2 := mulB 65536 256 (a := d - c) (b := fy) (by omega) (by omega)
  omega
end Go.Proofs.Ytemmnpgebpffbaa
/- How a profile lies on the ground, the best step of a search: the plain law of layer 21. -/
namespace Go.Proofs.Ytemmnpgebpffbaa
open Go.RowKit
/-- A height of a profile: how far from where it begins, and how high. -/
structure Smp where
  dx : Int
  dy : Int
  z : Int
deriving Inhabited
/-- Do the first so many heights of a profile lie on the ground? -/
def onTo (W H : Nat) (f : List Int) (X Y : Int) (l : List Smp) : Nat → Bool
  | 0 => true
  | i + 1 => onTo W H f X Y l i && codeF W H f (X + (l.getD i default).dx) (Y + (l.getD i default).dy) == 0
/-- By how much the ground is above each. -/
def apTo (W H : Nat) (f : List Int) (X Y : Int) (l : List Smp) : Nat → List Int
  | 0 => []
  | i + 1 => apTo W H f X Y l i ++ [heightT W H f (X + (l.getD i default).dx) (Y + (l.getD i default).dy) - (l.getD i default).z]
theorem apTo_len (W H : Nat) (f : List Int) (X Y : Int) (l : List Smp) : ∀ i, (apTo W H f X Y l i).length = i
  | 0 => rfl
  | i + 1 => by rw [apTo, List.length_append, apTo_len W H f X Y l i]; rfl
/-- A step, and what a profile costs there. -/
structure Stp where
  i : Int
  k : Int
  cost : Int
deriving Inhabited
/-- What a place of a search tells: nothing (off the ground), why it can't be told, or what it costs. -/
def plcF (W H : Nat) (f : List Int) (X Y : Int) (l : List Smp) (m eA eR eS : Int) : Option (Int × Int) :=
  if onTo W H f X Y l l.length = true then some (costF (apTo W H f X Y l l.length) m eA eR eS) else none
/-- Steps one behind the other: those that are told, and whether one can't be told. -/
def allTo (g : Nat → Option (Int × Int)) (p : Nat → Int × Int) : Nat → List Stp × Bool
  | 0 => ([], false)
  | n + 1 => if (allTo g p n).2 = true then allTo g p n else
    match g n with
    | none => allTo g p n
    | some (c, e) => if e = 0 then ((allTo g p n).1 ++ [⟨(p n).1, (p n).2, c⟩], false) else ((allTo g p n).1, true)
/-- The first of the least, and the least of those away from it. -/
def bstTo (l : List Stp) : Nat → Option Nat
  | 0 => none
  | i + 1 => match bstTo l i with
    | none => some i
    | some b => if (l.getD i default).cost < (l.getD b default).cost then some i else some b
def farB (a b : Stp) (away : Int) : Bool := decide (away < max (max (max (a.i - b.i) (b.i - a.i)) (a.k - b.k)) (b.k - a.k))
def secTo (l : List Stp) (b : Stp) (away : Int) : Nat → Int
  | 0 => -1
  | i + 1 => if farB (l.getD i default) b away = true ∧ (secTo l b away i < 0 ∨ (l.getD i default).cost < secTo l b away i) then (l.getD i default).cost else secTo l b away i
theorem bstTo_lt {l : List Stp} : ∀ {n b : Nat}, bstTo l n = some b → b < n
  | 0, b, h => by simp [bstTo] at h
  | n + 1, b, h => by
    rw [bstTo] at h
    split at h
    · simp at h; omega
    · rename_i c hc
      have := bstTo_lt hc
      split at h <;> simp at h <;> omega
theorem bstTo_none {l : List Stp} {n : Nat} : bstTo l n = none ↔ n = 0 := by
  cases n with
  | zero => simp [bstTo]
  | succ n =>
    rw [bstTo]
    split
    · simp
    · split <;> simp
/-- The best one, as it is kept while they come one by one. -/
def cbTo (l : List Stp) : Nat → Stp
  | 0 => ⟨0, 0, -1⟩
  | i + 1 => if (cbTo l i).cost < 0 ∨ (l.getD i default).cost < (cbTo l i).cost then l.getD i default else cbTo l i
theorem cb_bst {l : List Stp} (h : ∀ i, i < l.length → 0 ≤ (l.getD i default).cost) : ∀ {n : Nat}, n ≤ l.length → (bstTo l n = none → cbTo l n = ⟨0, 0, -1⟩) ∧ ∀ b, bstTo l n = some b → cbTo l n = l.getD b default
  | 0, _ => ⟨fun _ => rfl, fun b q => by simp [bstTo] at q⟩
  | n + 1, hn => by
    obtain ⟨h1, h2⟩ := cb_bst h (n := n) (by omega)
    refine ⟨fun q => absurd (bstTo_none.1 q) (by omega), fun b q => ?_⟩
    rw [bstTo] at q
    rw [cbTo]
    cases hb : bstTo l n with
    | none =>
      rw [hb] at q
      simp only [Option.some.injEq] at q
      subst q
      rw [h1 hb, if_pos (.inl (by decide))]
    | some c =>
      rw [hb] at q
      have hc := bstTo_lt hb
      have hc0 := h c (by omega)
      rw [h2 c hb]
      simp only at q
      split at q
      · rename_i q1
        simp only [Option.some.injEq] at q
        subst q
        rw [if_pos (.inr q1)]
      · rename_i q1
        simp only [Option.some.injEq] at q
        subst q
        rw [if_neg (by omega)]
end Go.Proofs.Ytemmnpgebpffbaa
/- Free of the middle: a profile that is found higher costs as much. The plain law. -/
namespace Go.Proofs.Ytemmnpgebpffbaa
open Go.RowKit
theorem getD_map_sub (u : Int) {d : List Int} {i : Nat} (h : i < d.length) : (d.map (· - u)).getD i 0 = d.getD i 0 - u := by
  rw [List.getD_eq_getElem?_getD, List.getD_eq_getElem?_getD, List.getElem?_map, List.getElem?_eq_getElem h]
  rfl
theorem sumTo_map (u : Int) {d : List Int} : ∀ {i : Nat}, i ≤ d.length → sumTo (d.map (· - u)) i = sumTo d i - u * (i : Int)
  | 0, _ => by simp [sumTo]
  | i + 1, h => by
    rw [sumTo, sumTo, sumTo_map u (i := i) (by omega), getD_map_sub u (show i < d.length by omega), Int.natCast_add, Int.mul_add]
    omega
theorem difX_map (u : Int) {d : List Int} {m : Int} (hm : 2 ≤ m) {i : Nat} (h : i < d.length) :
    difX d.length (sumTo (d.map (· - u)) d.length) m ((d.map (· - u)).getD i 0) = difX d.length (sumTo d d.length) m (d.getD i 0) := by
  unfold difX
  rw [if_pos hm, if_pos hm, sumTo_map u (Nat.le_refl _), getD_map_sub u h, Int.mul_sub, Int.mul_comm (d.length : Int) u]
  omega
theorem cosTo_map (u : Int) {d : List Int} {m : Int} (hm : 2 ≤ m) : ∀ {i : Nat}, i ≤ d.length → cosTo d.length (sumTo (d.map (· - u)) d.length) m (d.map (· - u)) i = cosTo d.length (sumTo d d.length) m d i
  | 0, _ => rfl
  | i + 1, h => by
    rw [cosTo, cosTo, cosTo_map u hm (i := i) (by omega), difX_map u hm (show i < d.length by omega)]
theorem cost_free (u : Int) {d : List Int} {m eA eR eS : Int} (hm : 2 ≤ m) (h1 : DifOk d d.length) (h2 : DifOk (d.map (· - u)) d.length) : costF (d.map (· - u)) m eA eR eS = costF d m eA eR eS := by
  unfold costF
  rw [List.length_map, badTo_no.2 h1, badTo_no.2 h2, cosTo_map u hm (Nat.le_refl _)]
/-- The same profile, found so much higher. -/
def upS (u : Int) (l : List Smp) : List Smp := l.map fun s => ⟨s.dx, s.dy, s.z + u⟩
theorem upS_get (u : Int) {l : List Smp} {i : Nat} (h : i < l.length) : (upS u l).getD i default = ⟨(l.getD i default).dx, (l.getD i default).dy, (l.getD i default).z + u⟩ := by
  unfold upS
  rw [List.getD_eq_getElem?_getD, List.getD_eq_getElem?_getD, List.getElem?_map, List.getElem?_eq_getElem h]
  rfl
theorem onTo_up (W H : Nat) (f : List Int) (X Y u : Int) {l : List Smp} : ∀ {i : Nat}, i ≤ l.length → onTo W H f X Y (upS u l) i = onTo W H f X Y l i
  | 0, _ => rfl
  | i + 1, h => by rw [onTo, onTo, onTo_up W H f X Y u (i := i) (by omega), upS_get u (show i < l.length by omega)]
theorem apTo_up (W H : Nat) (f : List Int) (X Y u : Int) {l : List Smp} : ∀ {i : Nat}, i ≤ l.length → apTo W H f X Y (upS u l) i = (apTo W H f X Y l i).map (· - u)
  | 0, _ => rfl
  | i + 1, h => by
    rw [apTo, apTo, apTo_up W H f X Y u (i := i) (by omega), upS_get u (show i < l.length by omega), List.map_append]
    congr 1
    show [_] = [_]
    congr 1
    show heightT W H f (X + (l.getD i default).dx) (Y + (l.getD i default).dy) - ((l.getD i default).z + u) = heightT W H f (X + (l.getD i default).dx) (Y + (l.getD i default).dy) - (l.getD i default).z - u
    omega
theorem plc_free (W H : Nat) (f : List Int) (X Y u : Int) {l : List Smp} {m eA eR eS : Int} (hm : 2 ≤ m) (h1 : DifOk (apTo W H f X Y l l.length) l.length) (h2 : DifOk ((apTo W H f X Y l l.length).map (· - u)) l.length) : plcF W H f X Y (upS u l) m eA eR eS = plcF W H f X Y l m eA eR eS := by
  have hl : (upS u l).length = l.length := by simp [upS]
  unfold plcF
  rw [hl, onTo_up W H f X Y u (Nat.le_refl _), apTo_up W H f X Y u (Nat.le_refl _)]
  rw [cost_free u hm (by rw [apTo_len]; exact h1) (by rw [apTo_len]; exact h2)]
end Go.Proofs.Ytemmnpgebpffbaa
/- The ground's height, its bounds. -/
namespace Go.Proofs.Ytemmnpgebpffbaa
open Go.RowKit
theorem heightT_in {W H : Nat} {f : List Int} (hf : In16 f) (X Y : Int) : -1048576 ≤ heightT W H f X Y ∧ heightT W H f X Y ≤ 1048576 := by
  unfold heightT
  split
  · obtain ⟨a, b, c, d, e, ha, hb, hc, hd⟩ := fourF_in hf (W := W) (H := H) X Y
    rw [e]
    simp only [exL]
    obtain ⟨h1, h2, h3, h4, h5, h6⟩ := exF_in (fx := X % 256) (fy := Y % 256) ⟨ha, hb, hc, hd⟩ (by omega) (by omega)
    have g1 := Int.mul_le_mul_of_nonneg_right (show a * (256 - X % 256) + b * (X % 256) ≤ 8388608 from by
      have := Int.mul_le_mul_of_nonneg_right ha.2 (show 0 ≤ 256 - X % 256 by omega)
      have := Int.mul_le_mul_of_nonneg_right hb.2 (show 0 ≤ X % 256 by omega)
      omega) (show 0 ≤ 256 - Y % 256 by omega)
    have g2 := Int.mul_le_mul_of_nonneg_right (show c * (256 - X % 256) + d * (X % 256) ≤ 8388608 from by
      have := Int.mul_le_mul_of_nonneg_right hc.2 (show 0 ≤ 256 - X % 256 by omega)
      have := Int.mul_le_mul_of_nonneg_right hd.2 (show 0 ≤ X % 256 by omega)
      omega) (show 0 ≤ Y % 256 by omega)
    have g3 := Int.mul_le_mul_of_nonneg_right (show -8388608 ≤ a * (256 - X % 256) + b * (X % 256) from by
      have := Int.mul_le_mul_of_nonneg_right ha.1 (show 0 ≤ 256 - X % 256 by omega)
      have := Int.mul_le_mul_of_nonneg_right hb.1 (show 0 ≤ X % 256 by omega)
      omega) (show 0 ≤ 256 - Y % 256 by omega)
    have g4 := Int.mul_le_mul_of_nonneg_right (show -8388608 ≤ c * (256 - X % 256) + d * (X % 256) from by
      have := Int.mul_le_mul_of_nonneg_right hc.1 (show 0 ≤ 256 - X % 256 by omega)
      have := Int.mul_le_mul_of_nonneg_right hd.1 (show 0 ≤ X % 256 by omega)
      omega) (show 0 ≤ Y % 256 by omega)
    unfold exF
    omega
  · omega
end Go.Proofs.Ytemmnpgebpffbaa
/- All steps of a search: the plain law. -/
namespace Go.Proofs.Ytemmnpgebpffbaa
open Go.RowKit
abbrev smpE : Smp → List Value := fun s => [.int .i64 s.dx, .int .i64 s.dy, .int .i64 s.z]
abbrev stpE : Stp → List Value := fun s => [.int .i64 s.i, .int .i64 s.k, .int .i64 s.cost]
instance : RowE smpE 3 := ⟨fun _ => rfl, by decide⟩
instance : RowE stpE 3 := ⟨fun _ => rfl, by decide⟩
/-- A search: from where, how many steps to each side, how far each. -/
structure Sch where
  x : Int
  y : Int
  far : Int
  step : Int
@[reducible] def schE (s : Sch) : List Value := [.int .i64 s.x, .int .i64 s.y, .int .i64 s.far, .int .i64 s.step]
def SmpOk (s : Smp) : Prop := (-4194304 ≤ s.z ∧ s.z ≤ 4194304) ∧ (-1073741824 ≤ s.dx ∧ s.dx ≤ 1073741824) ∧ (-1073741824 ≤ s.dy ∧ s.dy ≤ 1073741824)
instance (s : Smp) : Decidable (SmpOk s) := by unfold SmpOk; infer_instance
def badS (l : List Smp) : Nat → Bool
  | 0 => false
  | i + 1 => badS l i || !decide (SmpOk (l.getD i default))
theorem badS_no {l : List Smp} : ∀ {i : Nat}, badS l i = false ↔ ∀ j, j < i → SmpOk (l.getD j default)
  | 0 => ⟨fun _ j hj => by omega, fun _ => rfl⟩
  | i + 1 => by
    have ih := badS_no (l := l) (i := i)
    rw [badS, Bool.or_eq_false_iff, ih, Bool.not_eq_false', decide_eq_true_iff]
    constructor
    · rintro ⟨h1, h2⟩ j hj
      rcases Nat.lt_or_ge j i with h | h
      · exact h1 j h
      · obtain rfl : j = i := by omega
        exact h2
    · intro h
      exact ⟨fun j hj => h j (by omega), h i (by omega)⟩
theorem badS_yes {l : List Smp} {i n : Nat} (hi : i < n) (h : ¬ SmpOk (l.getD i default)) : badS l n = true := by
  cases hb : badS l n with
  | true => rfl
  | false => exact absurd (badS_no.1 hb i hi) h
def SchOk (s : Sch) : Prop := (0 ≤ s.far ∧ s.far ≤ 32) ∧ (1 ≤ s.step ∧ s.step ≤ 4096) ∧ (-1099511627776 ≤ s.x ∧ s.x ≤ 1099511627776) ∧ (-1099511627776 ≤ s.y ∧ s.y ≤ 1099511627776)
instance (s : Sch) : Decidable (SchOk s) := by unfold SchOk; infer_instance
/-- What is wrong with a search, and a profile. -/
def chk21 (s : Sch) (l : List Smp) : Int := if ¬ SchOk s then 2 else if l.length = 0 ∨ 64 < l.length then 5 else if badS l l.length = true then 1 else 0
theorem chk21_ok {s : Sch} {l : List Smp} (h : chk21 s l = 0) : SchOk s ∧ (0 < l.length ∧ l.length ≤ 64) ∧ ∀ j, j < l.length → SmpOk (l.getD j default) := by
  unfold chk21 at h
  split at h
  · cases h
  rename_i h1
  split at h
  · cases h
  rename_i h2
  split at h
  · cases h
  rename_i h3
  exact ⟨Classical.not_not.1 h1, by omega, badS_no.1 (by simpa using h3)⟩
section
variable {g : Nat → Option (Int × Int)} {p : Nat → Int × Int}
theorem all_stop {n : Nat} (h : (allTo g p n).2 = true) : ∀ k, allTo g p (n + k) = allTo g p n
  | 0 => rfl
  | k + 1 => by
    have ih := all_stop h k
    show allTo g p (n + k + 1) = _
    rw [allTo, ih, if_pos h]
theorem all_none {n : Nat} (h : (allTo g p n).2 = false) (hg : g n = none) : allTo g p (n + 1) = allTo g p n := by
  rw [allTo, if_neg (by rw [h]; decide), hg]
theorem all_some {n : Nat} {c : Int} (h : (allTo g p n).2 = false) (hg : g n = some (c, 0)) : allTo g p (n + 1) = ((allTo g p n).1 ++ [⟨(p n).1, (p n).2, c⟩], false) := by
  rw [allTo, if_neg (by rw [h]; decide), hg]
  rfl
theorem all_err {n : Nat} {c e : Int} (h : (allTo g p n).2 = false) (hg : g n = some (c, e)) (he : e ≠ 0) : allTo g p (n + 1) = ((allTo g p n).1, true) := by
  rw [allTo, if_neg (by rw [h]; decide), hg]
  simp [he]
theorem all_pre (n : Nat) : ∀ k, ∃ r, (allTo g p (n + k)).1 = (allTo g p n).1 ++ r
  | 0 => ⟨[], by simp⟩
  | k + 1 => by
    obtain ⟨r, hr⟩ := all_pre n k
    show ∃ r, (allTo g p (n + k + 1)).1 = _
    rw [allTo]
    split
    · exact ⟨r, hr⟩
    split
    · exact ⟨r, hr⟩
    split
    · exact ⟨r ++ [⟨(p (n + k)).1, (p (n + k)).2, _⟩], by rw [hr, List.append_assoc]⟩
    · exact ⟨r, hr⟩
theorem all_len : ∀ n, (allTo g p n).1.length ≤ n
  | 0 => Nat.le_refl _
  | n + 1 => by
    have ih := all_len n
    rw [allTo]
    split
    · omega
    split
    · omega
    split
    · simp; omega
    · show (allTo g p n).1.length ≤ n + 1
      omega
theorem all_at {n N : Nat} {c : Int} (hn : n < N) (h : (allTo g p n).2 = false) (hg : g n = some (c, 0)) : (allTo g p N).1.getD (allTo g p n).1.length default = ⟨(p n).1, (p n).2, c⟩ ∧ (allTo g p n).1.length < (allTo g p N).1.length := by
  obtain ⟨r, hr⟩ := all_pre (g := g) (p := p) (n + 1) (N - (n + 1))
  rw [show n + 1 + (N - (n + 1)) = N by omega, all_some h hg] at hr
  rw [hr]
  constructor
  · rw [List.getD_eq_getElem?_getD, List.getElem?_append_left (by simp), List.getElem?_append_right (Nat.le_refl _), Nat.sub_self]
    rfl
  · simp
theorem all_mem : ∀ (N : Nat) (x : Stp), x ∈ (allTo g p N).1 → ∃ n, n < N ∧ x.i = (p n).1 ∧ x.k = (p n).2 ∧ g n = some (x.cost, 0)
  | 0, x, h => by simp [allTo] at h
  | N + 1, x, h => by
    have ih := all_mem N x
    have up : x ∈ (allTo g p N).1 → ∃ n, n < N + 1 ∧ x.i = (p n).1 ∧ x.k = (p n).2 ∧ g n = some (x.cost, 0) := fun hx => by
      obtain ⟨n, h1, h2⟩ := ih hx
      exact ⟨n, by omega, h2⟩
    rw [allTo] at h
    split at h
    · exact up h
    split at h
    · exact up h
    rename_i c e hg
    split at h
    · rename_i he
      rcases List.mem_append.1 h with h | h
      · exact up h
      · rw [List.mem_singleton] at h
        subst h
        exact ⟨N, by omega, rfl, rfl, by rw [hg, he]⟩
    · exact up h
end
theorem costF_in {d : List Int} {m c : Int} (h : costF d m 1 2 10 = (c, 0)) : 0 ≤ c ∧ c ≤ 4611686018427387904 := by
  unfold costF at h
  split at h
  · simp at h
  split at h
  · simp at h
  split at h
  · simp at h
  · rename_i h3
    injection h with h1 _
    have := cosTo_nn d.length (sumTo d d.length) m d d.length
    omega
theorem costF_code (d : List Int) (m : Int) : (costF d m 1 2 10).2 = 0 ∨ (costF d m 1 2 10).2 = 1 ∨ (costF d m 1 2 10).2 = 2 ∨ (costF d m 1 2 10).2 = 10 := by
  unfold costF
  split
  · exact .inr (.inl rfl)
  split
  · exact .inr (.inr (.inl rfl))
  split
  · exact .inr (.inr (.inr rfl))
  · exact .inl rfl
/-- The places of a search, row by row. -/
def sideN (far : Int) : Nat := 2 * far.toNat + 1
def pS (far : Int) (n : Nat) : Int × Int := (((n % sideN far : Nat) : Int) - far, ((n / sideN far : Nat) : Int) - far)
theorem pS_at {far : Int} {i j : Nat} (h : i < sideN far) : pS far (j * sideN far + i) = ((i : Int) - far, (j : Int) - far) := by
  have hp : 0 < sideN far := by unfold sideN; omega
  unfold pS
  rw [Nat.mul_comm, Nat.mul_add_mod, Nat.mod_eq_of_lt h, Nat.mul_add_div hp, Nat.div_eq_of_lt h, Nat.add_zero]
theorem pS_in {far : Int} (hf : 0 ≤ far) {n : Nat} (h : n < sideN far * sideN far) : (-far ≤ (pS far n).1 ∧ (pS far n).1 ≤ far) ∧ (-far ≤ (pS far n).2 ∧ (pS far n).2 ≤ far) := by
  have h1 := Nat.mod_lt n (show 0 < sideN far by unfold sideN; omega)
  have h2 := Nat.div_lt_of_lt_mul h
  have h3 : (sideN far : Int) = 2 * far + 1 := by unfold sideN; push_cast; omega
  unfold pS
  dsimp only
  generalize n % sideN far = a at *
  generalize n / sideN far = b at *
  omega
def gS (W H : Nat) (f : List Int) (s : Sch) (l : List Smp) (m : Int) (n : Nat) : Option (Int × Int) :=
  plcF W H f (s.x + (pS s.far n).1 * s.step) (s.y + (pS s.far n).2 * s.step) l m 1 2 10
def allN (W H : Nat) (f : List Int) (s : Sch) (l : List Smp) (m : Int) (n : Nat) : List Stp × Bool := allTo (gS W H f s l m) (pS s.far) n
/-- All steps of a search at which a profile lies on the ground. -/
def allL (W H : Nat) (f : List Int) (s : Sch) (l : List Smp) (m : Int) : List Stp := if chk21 s l = 0 then (allN W H f s l m (sideN s.far * sideN s.far)).1 else []
theorem gS_cost {W H : Nat} {f : List Int} {s : Sch} {l : List Smp} {m : Int} {n : Nat} {c : Int} (h : gS W H f s l m n = some (c, 0)) : 0 ≤ c ∧ c ≤ 4611686018427387904 := by
  unfold gS plcF at h
  split at h
  · exact costF_in (Option.some.inj h)
  · cases h
theorem allL_in {W H : Nat} {f : List Int} {s : Sch} {l : List Smp} {m : Int} {i : Nat} (hi : i < (allL W H f s l m).length) :
    let x := (allL W H f s l m).getD i default
    (-32 ≤ x.i ∧ x.i ≤ 32) ∧ (-32 ≤ x.k ∧ x.k ≤ 32) ∧ (0 ≤ x.cost ∧ x.cost ≤ 4611686018427387904) ∧ (-s.far ≤ x.i ∧ x.i ≤ s.far) ∧ (-s.far ≤ x.k ∧ x.k ≤ s.far) := by
  intro x
  have hx : x ∈ allL W H f s l m := by
    show (allL W H f s l m).getD i default ∈ _
    rw [List.getD_eq_getElem?_getD, List.getElem?_eq_getElem hi]
    exact List.getElem_mem ..
  clear_value x
  unfold allL at hx
  split at hx
  · rename_i hc
    obtain ⟨hs, -⟩ := chk21_ok hc
    obtain ⟨hs1, -⟩ := hs
    obtain ⟨n, hn, h1, h2, h3⟩ := all_mem _ _ hx
    have h4 := pS_in hs1.1 hn
    have h5 := gS_cost h3
    omega
  · simp at hx
theorem allL_len (W H : Nat) (f : List Int) (s : Sch) (l : List Smp) (m : Int) : (allL W H f s l m).length ≤ 4225 := by
  unfold allL
  split
  · rename_i hc
    obtain ⟨⟨h1, -⟩, -⟩ := chk21_ok hc
    have := all_len (g := gS W H f s l m) (p := pS s.far) (sideN s.far * sideN s.far)
    have h2 : sideN s.far ≤ 65 := by unfold sideN; omega
    have := Nat.mul_le_mul h2 h2
    unfold allN
    omega
  · simp
/-- Which of the steps is best; -1: there is none. -/
def bst21 (l : List Stp) : Int := match bstTo l l.length with
  | none => -1
  | some b => b
theorem DifOk_ap {W H : Nat} {f : List Int} (hf : In16 f) {X Y : Int} {l : List Smp} (hl : ∀ j, j < l.length → SmpOk (l.getD j default)) : ∀ n, n ≤ l.length → ∀ j, j < n → -5242880 ≤ (apTo W H f X Y l n).getD j 0 ∧ (apTo W H f X Y l n).getD j 0 ≤ 5242880
  | 0, _, j, hj => by omega
  | n + 1, hn, j, hj => by
    have ih := DifOk_ap (W := W) (H := H) (X := X) (Y := Y) hf hl n (by omega)
    rw [apTo]
    rcases Nat.lt_or_ge j n with h | h
    · have := ih j h
      rw [List.getD_eq_getElem?_getD, List.getElem?_append_left (by rw [apTo_len]; exact h), ← List.getD_eq_getElem?_getD]
      exact this
    · obtain rfl : j = n := by omega
      rw [List.getD_eq_getElem?_getD, List.getElem?_append_right (by rw [apTo_len]; exact Nat.le_refl _), apTo_len, Nat.sub_self]
      have h1 := heightT_in hf (W := W) (H := H) (X + (l.getD j default).dx) (Y + (l.getD j default).dy)
      have h2 := (hl j (by omega)).1
      show -5242880 ≤ heightT W H f (X + (l.getD j default).dx) (Y + (l.getD j default).dy) - (l.getD j default).z ∧ heightT W H f (X + (l.getD j default).dx) (Y + (l.getD j default).dy) - (l.getD j default).z ≤ 5242880
      omega
end Go.Proofs.Ytemmnpgebpffbaa
/- Numbers as 129 bits, the lowest first: the plain law of the reference of layer 3. -/
namespace Go.Proofs.Ytemmnpgebpffbaa
def bit3N (n i : Nat) : Nat := n / 2 ^ i % 2
/-- A number's bits. -/
def bits3N (n : Nat) : List Int := (List.range 129).map fun i => ((bit3N n i : Nat) : Int)
theorem bits3N_len (n : Nat) : (bits3N n).length = 129 := by simp [bits3N]
theorem bits3N_get (n : Nat) {i : Nat} (h : i < 129) : (bits3N n).getD i 0 = ((bit3N n i : Nat) : Int) := by
  unfold bits3N
  rw [List.getD_eq_getElem?_getD, List.getElem?_map, List.getElem?_range h]
  rfl
theorem bit3N_lt (n i : Nat) : bit3N n i < 2 := Nat.mod_lt _ (by decide)
/-- What is carried into place i. -/
def car3N (m n i : Nat) : Nat := (m % 2 ^ i + n % 2 ^ i) / 2 ^ i
theorem car_zero (m n : Nat) : car3N m n 0 = 0 := by simp [car3N, Nat.mod_one]
theorem car_lt (m n i : Nat) : car3N m n i < 2 := by
  unfold car3N
  have h := Nat.two_pow_pos i
  have h1 := Nat.mod_lt m h
  have h2 := Nat.mod_lt n h
  exact Nat.div_lt_of_lt_mul (by omega)
theorem mod_succ (m i : Nat) : m % 2 ^ (i + 1) = m % 2 ^ i + 2 ^ i * bit3N m i := by
  unfold bit3N
  rw [Nat.mod_pow_succ]
theorem add_bit (m n i : Nat) : (bit3N m i + bit3N n i + car3N m n i) % 2 = bit3N (m + n) i ∧ (bit3N m i + bit3N n i + car3N m n i) / 2 = car3N m n (i + 1) := by
  have hp := Nat.two_pow_pos i
  constructor
  · have e : (m + n) / 2 ^ i = m / 2 ^ i + n / 2 ^ i + car3N m n i := by
      unfold car3N
      have h1 := Nat.div_add_mod m (2 ^ i)
      have h2 := Nat.div_add_mod n (2 ^ i)
      have h3 : m + n = (m % 2 ^ i + n % 2 ^ i) + 2 ^ i * (m / 2 ^ i + n / 2 ^ i) := by rw [Nat.mul_add]; omega
      conv => lhs; rw [h3]
      rw [Nat.add_mul_div_left _ _ hp]
      omega
    unfold bit3N
    rw [e]
    omega
  · have e : car3N m n (i + 1) = ((m % 2 ^ i + n % 2 ^ i) + 2 ^ i * (bit3N m i + bit3N n i)) / (2 ^ i * 2) := by
      unfold car3N
      rw [mod_succ, mod_succ, Nat.mul_add]
      congr 1
      · omega
    rw [e, ← Nat.div_div_eq_div_mul, Nat.add_mul_div_left _ _ hp]
    unfold car3N
    congr 1
    omega
theorem bit3N_zero (i : Nat) : bit3N 0 i = 0 := by simp [bit3N]
/-- Two numbers of which all bits are the same. -/
theorem bits_inj {m n : Nat} : ∀ k, m < 2 ^ k → n < 2 ^ k → (∀ i, i < k → bit3N m i = bit3N n i) → m = n := by
  intro k
  induction k generalizing m n with
  | zero => intro h1 h2 _; simp at h1 h2; omega
  | succ k ih =>
    intro h1 h2 h
    have e1 := mod_succ m k
    have e2 := mod_succ n k
    rw [Nat.mod_eq_of_lt h1] at e1
    rw [Nat.mod_eq_of_lt h2] at e2
    have hp := Nat.two_pow_pos k
    have hb : ∀ i, i < k → bit3N (m % 2 ^ k) i = bit3N (n % 2 ^ k) i := fun i hi => by
      have key : ∀ x : Nat, bit3N (x % 2 ^ k) i = bit3N x i := fun x => by
        unfold bit3N
        have : 2 ^ k = 2 ^ i * 2 ^ (k - i) := by rw [← Nat.pow_add]; congr 1; omega
        rw [this, Nat.mod_mul_right_div_self, Nat.mod_mod_of_dvd]
        exact ⟨2 ^ (k - i - 1), by rw [← Nat.pow_succ']; congr 1; omega⟩
      rw [key, key]
      exact h i (by omega)
    have := ih (Nat.mod_lt m hp) (Nat.mod_lt n hp) hb
    rw [e1, e2, this, h k (by omega)]
theorem zero_iff {n : Nat} (h : n < 2 ^ 129) : (∀ i, i < 129 → bit3N n i = 0) ↔ n = 0 :=
  ⟨fun q => bits_inj 129 h (by decide) (fun i hi => by rw [q i hi, bit3N_zero]), fun e i _ => by rw [e, bit3N_zero]⟩
theorem bits3N_inj {m n : Nat} (h1 : m < 2 ^ 129) (h2 : n < 2 ^ 129) (h : bits3N m = bits3N n) : m = n :=
  bits_inj 129 h1 h2 (fun i hi => by
    have := congrArg (fun l => l.getD i 0) h
    simp only [bits3N_get m hi, bits3N_get n hi] at this
    omega)
/-- Held against each other from the highest place down. -/
theorem less_step (m n i : Nat) : m % 2 ^ (i + 1) < n % 2 ^ (i + 1) ↔ (bit3N m i < bit3N n i ∨ (bit3N m i = bit3N n i ∧ m % 2 ^ i < n % 2 ^ i)) := by
  have hp := Nat.two_pow_pos i
  have h1 := Nat.mod_lt m hp
  have h2 := Nat.mod_lt n hp
  have b1 := bit3N_lt m i
  have b2 := bit3N_lt n i
  rw [mod_succ, mod_succ]
  generalize bit3N m i = a at *
  generalize bit3N n i = b at *
  generalize 2 ^ i = p at *
  obtain rfl | rfl : a = 0 ∨ a = 1 := by omega
  · obtain rfl | rfl : b = 0 ∨ b = 1 := by omega
    · omega
    · omega
  · obtain rfl | rfl : b = 0 ∨ b = 1 := by omega
    · omega
    · omega
/-- A product, place by place. -/
theorem mul_step (a b i : Nat) : a * (b % 2 ^ (i + 1)) = a * (b % 2 ^ i) + bit3N b i * (a * 2 ^ i) := by
  rw [mod_succ, Nat.mul_add]
  congr 1
  rw [Nat.mul_comm (bit3N b i), Nat.mul_assoc]
/-- A number of 64 bits out of places, from the highest down. -/
theorem word_step (n k i : Nat) (h : i < 64) : n / 2 ^ k / 2 ^ i % 2 ^ (64 - i) = 2 * (n / 2 ^ k / 2 ^ (i + 1) % 2 ^ (64 - (i + 1))) + bit3N n (k + i) := by
  unfold bit3N
  have e : 64 - i = (64 - (i + 1)) + 1 := by omega
  rw [e, Nat.pow_succ, Nat.mul_comm (2 ^ _) 2, Nat.mod_mul, Nat.pow_succ 2 i, ← Nat.div_div_eq_div_mul (n / 2 ^ k), Nat.pow_add, Nat.div_div_eq_div_mul n]
  omega
/-- What is borrowed at place i. -/
def bor3N (m n i : Nat) : Nat := if m % 2 ^ i < n % 2 ^ i then 1 else 0
theorem bor_zero (m n : Nat) : bor3N m n 0 = 0 := by simp [bor3N, Nat.mod_one]
theorem sub_bit {m n : Nat} (h : n ≤ m) (i : Nat) :
    (((bit3N m i : Nat) : Int) - (bit3N n i : Nat) - (bor3N m n i : Nat) < 0 ↔ bor3N m n (i + 1) = 1) ∧
    ((bit3N (m - n) i : Nat) : Int) = (if ((bit3N m i : Nat) : Int) - (bit3N n i : Nat) - (bor3N m n i : Nat) < 0 then ((bit3N m i : Nat) : Int) - (bit3N n i : Nat) - (bor3N m n i : Nat) + 2 else ((bit3N m i : Nat) : Int) - (bit3N n i : Nat) - (bor3N m n i : Nat)) := by
  have hp := Nat.two_pow_pos i
  have b1 := bit3N_lt m i
  have b2 := bit3N_lt n i
  have hl := less_step m n i
  constructor
  · unfold bor3N
    by_cases h1 : m % 2 ^ (i + 1) < n % 2 ^ (i + 1)
    · rw [if_pos h1]
      rw [hl] at h1
      constructor
      · intro _; rfl
      · intro _
        rcases h1 with h1 | ⟨h1, h2⟩
        · split <;> omega
        · rw [if_pos h2]; omega
    · rw [if_neg h1]
      rw [hl] at h1
      constructor
      · intro h3
        exfalso
        apply h1
        by_cases h2 : m % 2 ^ i < n % 2 ^ i
        · rw [if_pos h2] at h3
          rcases Nat.lt_or_ge (bit3N m i) (bit3N n i) with h4 | h4
          · exact .inl h4
          · exact .inr ⟨by omega, h2⟩
        · rw [if_neg h2] at h3
          exact .inl (by omega)
      · intro h3; exact absurd h3 (by decide)
  · have e : m = n + (m - n) := by omega
    have hs := add_bit n (m - n) i
    rw [← e] at hs
    have b3 := bit3N_lt (m - n) i
    have hcar : car3N n (m - n) i = bor3N m n i := by
      unfold car3N bor3N
      have m1 := Nat.mod_lt n hp
      have m2 := Nat.mod_lt (m - n) hp
      have e2 : m % 2 ^ i = (n % 2 ^ i + (m - n) % 2 ^ i) % 2 ^ i := by conv => lhs; rw [e]; rw [Nat.add_mod]
      rcases Nat.lt_or_ge (n % 2 ^ i + (m - n) % 2 ^ i) (2 ^ i) with h1 | h1
      · rw [Nat.mod_eq_of_lt h1] at e2
        rw [Nat.div_eq_of_lt h1, if_neg (by omega)]
      · have e3 : (n % 2 ^ i + (m - n) % 2 ^ i) % 2 ^ i = n % 2 ^ i + (m - n) % 2 ^ i - 2 ^ i := by
          rw [Nat.mod_eq_sub_mod h1, Nat.mod_eq_of_lt (by omega)]
        rw [e3] at e2
        have e4 : (n % 2 ^ i + (m - n) % 2 ^ i) / 2 ^ i = 1 := by
          refine Nat.div_eq_of_lt_le (by omega) (by omega)
        rw [e4, if_pos (by omega)]
    rw [hcar] at hs
    have b4 : bor3N m n i < 2 := by unfold bor3N; split <;> omega
    have hs1 := hs.1
    generalize bit3N m i = A at *
    generalize bit3N n i = B at *
    generalize bit3N (m - n) i = D at *
    generalize bor3N m n i = C at *
    split <;> omega
/-- A number without its sign, halved again and again. -/
theorem tdiv_cast (n m : Nat) : (n : Int).tdiv (m : Int) = ((n / m : Nat) : Int) := by
  rw [Int.tdiv_eq_ediv_of_nonneg (Int.natCast_nonneg n), Int.natCast_ediv]
theorem tdiv_nat (n : Nat) (i : Nat) : ((n : Int).tdiv ((2 ^ i : Nat) : Int)).tdiv 2 = (n : Int).tdiv ((2 ^ (i + 1) : Nat) : Int) := by
  rw [tdiv_cast, tdiv_cast, show (2 : Int) = ((2 : Nat) : Int) from rfl, tdiv_cast, Nat.div_div_eq_div_mul, Nat.pow_succ]
theorem tdiv_step (x : Int) (i : Nat) : (x.tdiv ((2 ^ i : Nat) : Int)).tdiv 2 = x.tdiv ((2 ^ (i + 1) : Nat) : Int) := by
  rcases Int.lt_or_le x 0 with h | h
  · obtain ⟨n, rfl⟩ : ∃ n : Nat, x = -(n : Int) := ⟨x.natAbs, by omega⟩
    rw [Int.neg_tdiv, Int.neg_tdiv, Int.neg_tdiv, tdiv_nat]
  · obtain ⟨n, rfl⟩ : ∃ n : Nat, x = (n : Int) := ⟨x.toNat, by omega⟩
    exact tdiv_nat n i
/-- The places of a number of 64 bits, one by one. -/
theorem tmod_bit (x : Int) (i : Nat) : ((x.tdiv ((2 ^ i : Nat) : Int)).tmod 2 ≠ 0) ↔ bit3N x.natAbs i = 1 := by
  have key : ∀ n : Nat, ((n : Int).tdiv ((2 ^ i : Nat) : Int)) = ((n / 2 ^ i : Nat) : Int) := fun n => tdiv_cast n _
  have km : ∀ n : Nat, ((n : Int).tmod 2) = ((n % 2 : Nat) : Int) := fun n => by
    rw [Int.tmod_eq_emod_of_nonneg (Int.natCast_nonneg n)]; omega
  unfold bit3N
  rcases Int.lt_or_le x 0 with h | h
  · obtain ⟨n, rfl⟩ : ∃ n : Nat, x = -(n : Int) := ⟨x.natAbs, by omega⟩
    rw [Int.neg_tdiv, key, Int.neg_tmod, km, Int.natAbs_neg, Int.natAbs_natCast]
    generalize n / 2 ^ i = q
    omega
  · obtain ⟨n, rfl⟩ : ∃ n : Nat, x = (n : Int) := ⟨x.toNat, by omega⟩
    rw [key, km, Int.natAbs_natCast]
    generalize n / 2 ^ i = q
    omega
end Go.Proofs.Ytemmnpgebpffbaa
/- Package theodoliteref03 on numbers that are not below 0: bits in memory, sums, products. -/
namespace Go.Proofs.Ytemmnpgebpffbaa
open Go.RowKit
/-- The places of a number, in memory. -/
abbrev numE (c : Bool) (n : Nat) : List Value := .bool c :: ints .i64 (bits3N n)
theorem ints_bits_len (n : Nat) : (ints .i64 (bits3N n)).length = 129 := by simp [ints, bits3N_len]
class Lt129 (i : Nat) : Prop where h : i < 129
instance (n : Nat) : SameLen (ints .i64 (bits3N n)) 129 := ⟨ints_bits_len n⟩
instance (n : Nat) : Tk (ints .i64 (bits3N n)) 129 (ints .i64 (bits3N n)) := ⟨by rw [List.take_of_length_le (by rw [ints_bits_len]; exact Nat.le_refl _)], ints_bits_len n⟩
theorem bits_get (n : Nat) {i : Nat} (h : i < 129) : (ints .i64 (bits3N n))[i]? = some (.int .i64 (bit3N n i : Nat)) := by
  have := bits3N_get n h
  rw [List.getD_eq_getElem?_getD, List.getElem?_eq_getElem (by rw [bits3N_len]; exact h)] at this
  simp only [Option.getD_some] at this
  simp [ints, bits3N_len, h, this]
instance (n i : Nat) [h : Lt129 i] : Get (ints .i64 (bits3N n)) i (.int .i64 (bit3N n i : Nat)) := ⟨bits_get n h.h⟩
instance (u : Value) (r : List Value) (q : Nat) (v : Value) [h : Get r q v] : Get (u :: r) (1 + q) v := ⟨by rw [Nat.add_comm]; simpa using h.h⟩
instance (u : Value) (r : List Value) (q : Nat) (v : Value) (o : List Value) [h : SetAt r q v o] : SetAt (u :: r) (1 + q) v (u :: o) := ⟨by obtain ⟨h1, h2⟩ := h.h; rw [Nat.add_comm]; simp [h1]; omega⟩
instance (m n : Nat) : Over (ints .i64 (bits3N m)) 0 (ints .i64 (bits3N n)) (ints .i64 (bits3N n)) := ⟨by
  have h1 := ints_bits_len m
  have h2 := ints_bits_len n
  refine ⟨?_, by omega⟩
  rw [List.take_zero, List.nil_append, Nat.zero_add, h2, ← h1, List.drop_length, List.append_nil]⟩
instance (i : Nat) : LitI ((i : Nat) : Int) i := ⟨rfl⟩
instance : SzI Try.prog 3 1 := ⟨Try.t3, by kernel_rfl, by kernel_rfl⟩
def z129 : Value := .agg (ints .i64 (bits3N 0)).toArray
def zNum : Value := .agg (numE false 0).toArray
instance : Inf Try.prog 48 129 1032 z129 := ⟨Try.t48, by kernel_rfl, by kernel_rfl, rfl, rfl⟩
instance : Inf Try.prog 50 130 1040 zNum := ⟨Try.t50, by kernel_rfl, by kernel_rfl, rfl, rfl⟩
instance : ZC z129 (ints .i64 (bits3N 0)) := ⟨rfl⟩
instance : ZC zNum (numE false 0) := ⟨rfl⟩
theorem bit3N_mod (s k j : Nat) : bit3N (s % 2 ^ k) j = if j < k then bit3N s j else 0 := by
  unfold bit3N
  split
  · rename_i h
    rw [show 2 ^ k = 2 ^ j * 2 ^ (k - j) by rw [← Nat.pow_add]; congr 1; omega, Nat.mod_mul_right_div_self, Nat.mod_mod_of_dvd]
    exact ⟨2 ^ (k - j - 1), by rw [← Nat.pow_succ']; congr 1; omega⟩
  · rename_i h
    have : s % 2 ^ k < 2 ^ j := Nat.lt_of_lt_of_le (Nat.mod_lt _ (Nat.two_pow_pos k)) (Nat.pow_le_pow_right (by decide) (by omega))
    rw [Nat.div_eq_of_lt this]
theorem bits3N_ext {m n : Nat} (h : ∀ i, i < 129 → bit3N m i = bit3N n i) : bits3N m = bits3N n := by
  unfold bits3N
  refine List.map_congr_left fun i hi => ?_
  rw [h i (List.mem_range.1 hi)]
theorem bits3N_mod (n : Nat) : bits3N (n % 2 ^ 129) = bits3N n := bits3N_ext fun i hi => by rw [bit3N_mod, if_pos hi]
theorem bits3N_mod1 (n : Nat) : bits3N (n % 2 ^ 0) = bits3N 0 := by rw [Nat.pow_zero, Nat.mod_one]
theorem bits_set (s : Nat) {i : Nat} (hi : i < 129) : (bits3N (s % 2 ^ i)).set i (bit3N s i : Nat) = bits3N (s % 2 ^ (i + 1)) := by
  refine List.ext_getElem (by simp [bits3N_len]) fun j h1 h2 => ?_
  have hj : j < 129 := by simpa [bits3N_len] using h2
  rw [List.getElem_set]
  simp only [bits3N, List.getElem_map, List.getElem_range, bit3N_mod]
  split
  · rename_i h
    subst h
    rw [if_pos (Nat.lt_succ_self _)]
  · rename_i h
    by_cases hji : j < i
    · rw [if_pos hji, if_pos (by omega)]
    · rw [if_neg hji, if_neg (by omega)]
theorem set_bits (s : Nat) {i : Nat} (hi : i < 129) {x : Int} (hx : x = (bit3N s i : Nat)) : SetAt (ints .i64 (bits3N (s % 2 ^ i))) i (.int .i64 x) (ints .i64 (bits3N (s % 2 ^ (i + 1)))) := ⟨by
  subst hx
  refine ⟨?_, by rw [ints_bits_len]; exact hi⟩
  rw [← bits_set s hi]
  simp [ints]⟩
theorem bit_keep (s : Nat) {i : Nat} (h : bit3N s i = 0) : bits3N (s % 2 ^ (i + 1)) = bits3N (s % 2 ^ i) := bits3N_ext fun j hj => by
  rw [bit3N_mod, bit3N_mod]
  by_cases hji : j < i
  · rw [if_pos hji, if_pos (by omega)]
  · rw [if_neg hji]
    split
    · rw [show j = i by omega, h]
    · rfl
section
variable {P : Program} (w : World)
theorem eqItems_ints (d : Nat) {e : TypeId} {k k' : IntKind} (hu : P.underlying e = some (.int k')) (xs ys : List Int) : ∀ is : List Nat, (∀ i ∈ is, i < xs.length ∧ i < ys.length) →
    (Op.eqItems (d + 1) e 1 (ints k xs).toArray (ints k ys).toArray is).run P w = .ok (is.all fun i => xs.getD i 0 == ys.getD i 0) w
  | [], _ => by simp [Op.eqItems]
  | i :: is, h => by
    have hi := h i (by simp)
    have ih := eqItems_ints d (k := k) hu xs ys is (fun j hj => h j (by simp [hj]))
    have hp : P.plainKey e = true := by simp [Program.plainKey, hu]
    have e1 : (part e (ints k xs).toArray (i * 1)).run P w = .ok (.int k (xs.getD i 0)) w := run_part_plain w hp (by simp [ints, hi.1, List.getD_eq_getElem?_getD])
    have e2 : (part e (ints k ys).toArray (i * 1)).run P w = .ok (.int k (ys.getD i 0)) w := run_part_plain w hp (by simp [ints, hi.2, List.getD_eq_getElem?_getD])
    simp only [Op.eqItems, Sem.run_bind, e1, e2, Result.andThen_ok, run_equalIn_int w d e k k' _ _ hu, List.all_cons]
    by_cases hc : xs.getD i 0 = ys.getD i 0
    · have hb : (xs.getD i 0 == ys.getD i 0) = true := by simpa using hc
      rw [hb]
      simpa using ih
    · have hb : (xs.getD i 0 == ys.getD i 0) = false := by simpa using hc
      rw [hb]
      simp
end
theorem all_bits {m n : Nat} (hm : m < 680564733841876926926749214863536422912) (hn : n < 680564733841876926926749214863536422912) : ((List.range 129).all fun i => (bits3N m).getD i 0 == (bits3N n).getD i 0) = decide (m = n) := by
  rw [Bool.eq_iff_iff, List.all_eq_true, decide_eq_true_iff]
  constructor
  · intro h
    refine bits_inj 129 hm hn fun i hi => ?_
    have := h i (List.mem_range.2 hi)
    rw [bits3N_get m hi, bits3N_get n hi, beq_iff_eq] at this
    omega
  · rintro rfl i _
    simp
theorem pv_eqBits (t u : TypeId) (x y : Operand) (m n : Nat) (ht : t = 48) : PV Try.prog (.binOp .eql t x y u) [.agg (ints .i64 (bits3N m)).toArray, .agg (ints .i64 (bits3N n)).toArray] (.bool (decide (m = n))) (m < 680564733841876926926749214863536422912 ∧ n < 680564733841876926926749214863536422912) := ⟨by
  subst ht
  rintro ⟨hm, hn⟩ ρ ⟨dst, op', ty, pos, aft, gd⟩ rfl h w
  obtain ⟨h1, h2⟩ := map2 h
  have hS : Try.prog.underlying 48 = some (.array 129 3) := by kernel_rfl
  have hE : Try.prog.underlying 3 = some (.int .i64) := by kernel_rfl
  obtain ⟨i, hi⟩ := info_of_underlying hE
  have hc : Try.prog.cellsOf 3 = 1 := by kernel_rfl
  have hm2 : Try.prog.eqGuardType Try.prog.depth 48 = false := by kernel_rfl
  simp only [execOp, h1, h2, Sem.run_bind, run_eqGuard_agg w _ _ _ _ _ _ hm2, Result.andThen_ok]
  rw [run_eql_struct, show (10000 : Nat) = 9999 + 1 from rfl, run_equalIn_array w 9999 _ _ hS hi, hc, show (9999 : Nat) = 9998 + 1 from rfl,
    eqItems_ints w 9998 hE (bits3N m) (bits3N n) (List.range 129) (fun i hi => by rw [bits3N_len, bits3N_len]; exact ⟨List.mem_range.1 hi, List.mem_range.1 hi⟩), all_bits hm hn]
  rfl⟩
instance eqBits_pv (u : TypeId) (x y : Operand) (m n : Nat) : PV Try.prog (.binOp .eql 48 x y u) [.agg (ints .i64 (bits3N m)).toArray, .agg (ints .i64 (bits3N n)).toArray] (.bool (decide (m = n))) (m < 680564733841876926926749214863536422912 ∧ n < 680564733841876926926749214863536422912) := pv_eqBits _ u x y m n rfl
instance {w0 : World} {W : Nat → Prop} {H : List HE} (u : TypeId) (x y : Operand) (m n : Nat) : MS Try.prog w0 W H (.binOp .eql 48 x y u) [.agg (ints .i64 (bits3N m)).toArray, .agg (ints .i64 (bits3N n)).toArray] (.bool (decide (m = n))) (m < 680564733841876926926749214863536422912 ∧ n < 680564733841876926926749214863536422912) := ⟨by
  intro hc F n N ds σ dd ty pos aft gd K Q _ hv hdN h
  exact o_val (by simp) rfl hdN (fun a w ha _ => pq_of (o := ⟨some dd, _, ty, pos, aft, gd⟩) hv hc a.eval (fun x _ u hu => ha.eval hu) w) h⟩
theorem mod129 {n : Nat} (h : n < 680564733841876926926749214863536422912) : n % 2 ^ 129 = n := Nat.mod_eq_of_lt h
attribute [local irreducible] OJ J HdJ Code.wpIn wpListIn Oper.wpIn bodyPost CallsIn Does
set_option maxRecDepth 4000
set_option maxHeartbeats 32000000 in
instance add3_cv (m n : Nat) : CV Try.prog 46 [.agg (ints .i64 (bits3N m)).toArray, .agg (ints .i64 (bits3N n)).toArray] (.agg (ints .i64 (bits3N (m + n))).toArray) True := ⟨fun _ w => by
  refine does_of Try.func46 rfl Try.ntmps46 rfl ⟨by simp, .nil⟩ (fun _ => ?_)
  simp only [slots]
  refine z_tas
  rename_i b2 b3 b4 b5
  refine c_loop (X := Nat) (fun i => i ≤ 129) (fun i => [(2, .pointer (some ⟨b2, 0, none⟩)), (3, .pointer (some ⟨b3, 0, none⟩)), (4, .pointer (some ⟨b4, 0, none⟩)), (5, .pointer (some ⟨b5, 0, none⟩)), (6, .int .i64 (car3N m n i : Nat)), (7, .int .i64 i)])
    (fun i => [.blk b2 48 (ints .i64 (bits3N m)), .blk b3 48 (ints .i64 (bits3N n)), .blk b4 48 (ints .i64 (bits3N 0)), .blk b5 48 (ints .i64 (bits3N ((m + n) % 2 ^ i)))]) (fun i => 129 - i) 0 (by omega) ⟨rfl, rfl, rfl, rfl, by rw [car_zero]; rfl, rfl, trivial⟩ (by rw [bits3N_mod1]; exact Sub.au) ?_
  intro i hi
  rcases Nat.lt_or_ge i 129 with h | h
  · have iL : Lt129 i := ⟨h⟩
    obtain ⟨a1, a2⟩ := add_bit m n i
    have b1 := bit3N_lt m i
    have b2' := bit3N_lt n i
    have b3' := car_lt m n i
    have o1 : SetAt (ints .i64 (bits3N ((m + n) % 2 ^ i))) i (.int .i64 ((((bit3N m i : Nat) : Int) + (bit3N n i : Nat) + (car3N m n i : Nat)) % 2)) (ints .i64 (bits3N ((m + n) % 2 ^ (i + 1)))) := set_bits (m + n) h (by omega)
    refine z_tas
    refine c_round (i + 1) h (by show 129 - (i + 1) < 129 - i; omega) ⟨rfl, rfl, rfl, rfl, ?_, by simp [look], trivial⟩ Sub.au
    simp only [look, List.lookup, Nat.beq]
    congr 2
    omega
  · obtain rfl : i = 129 := by omega
    rw [bits3N_mod]
    refine z_tas
    refine z_ro
    exact ⟨rfl, rfl⟩⟩
set_option maxHeartbeats 32000000 in
instance shift3_cv (m : Nat) : CV Try.prog 47 [.agg (ints .i64 (bits3N m)).toArray] (.agg (ints .i64 (bits3N (2 * m))).toArray) True := ⟨fun _ w => by
  rw [show 2 * m = m + m by omega]
  refine does_of Try.func47 rfl Try.ntmps47 rfl ⟨by simp, .nil⟩ (fun _ => ?_)
  simp only [slots]
  refine z_tas
  refine z_ro
  exact ⟨rfl, rfl⟩⟩
set_option maxHeartbeats 32000000 in
instance zero3_cv (c : Bool) (m : Nat) : CV Try.prog 44 [.agg (numE c m).toArray] (.bool (decide (m = 0))) (m < 680564733841876926926749214863536422912) := ⟨fun hm w => by
  refine does_of Try.func44 rfl Try.ntmps44 rfl ⟨by simp, .nil⟩ (fun _ => ?_)
  simp only [slots]
  refine z_tas
  rename_i b1
  refine c_loop (X := Nat) (fun i => i ≤ 129 ∧ ∀ j, j < i → bit3N m j = 0) (fun i => [(1, .pointer (some ⟨b1, 0, none⟩)), (3, .int .i64 i)])
    (fun i => [.blk b1 50 (numE c m)]) (fun i => 129 - i) 0 ⟨by omega, fun j hj => by omega⟩ ⟨rfl, rfl, trivial⟩ Sub.au ?_
  rintro i ⟨hi, hj⟩
  rcases Nat.lt_or_ge i 129 with h | h
  · have iL : Lt129 i := ⟨h⟩
    have h0 : bit3N m i ≠ 0 → m ≠ 0 := fun h e => h (by rw [e, bit3N_zero])
    generalize hb : bit3N m i = b at *
    refine z_tas
    · refine j_out1 rfl rfl (.nil _) ⟨congrArg Value.bool ?_, rfl⟩
      have := h0 (by omega)
      simp [this]
    · refine c_round (i + 1) ⟨h, fun j hjj => ?_⟩ (by show 129 - (i + 1) < 129 - i; omega) ⟨rfl, by simp [look], trivial⟩ Sub.au
      rcases Nat.lt_or_ge j i with h1 | h1
      · exact hj j h1
      · rw [show j = i by omega, hb]; omega
  · obtain rfl : i = 129 := by omega
    have := (zero_iff hm).1 hj
    refine z_tas
    exact j_out1 rfl rfl (.nil _) ⟨congrArg Value.bool (by simp [this]), rfl⟩⟩
theorem tdiv_in {x : Int} (h : InR .i64 x) (i : Nat) : InR .i64 (x.tdiv ((2 ^ i : Nat) : Int)) := by
  have h1 : -9223372036854775808 ≤ x ∧ x ≤ 9223372036854775807 := h
  have hp : (1 : Int) ≤ ((2 ^ i : Nat) : Int) := by have := Nat.two_pow_pos i; omega
  show -9223372036854775808 ≤ _ ∧ _ ≤ 9223372036854775807
  generalize ((2 ^ i : Nat) : Int) = p at *
  rcases Int.lt_or_le x 0 with h | h
  · obtain ⟨y, rfl⟩ : ∃ y, x = -y := ⟨-x, by omega⟩
    rw [Int.neg_tdiv, Int.tdiv_eq_ediv_of_nonneg (by omega)]
    have h3 : 0 ≤ y / p := Int.ediv_nonneg (by omega) (by omega)
    have h4 : y / p ≤ y := Int.ediv_le_self _ (by omega)
    omega
  · rw [Int.tdiv_eq_ediv_of_nonneg h]
    have h3 : 0 ≤ x / p := Int.ediv_nonneg h (by omega)
    have h4 : x / p ≤ x := Int.ediv_le_self _ h
    omega
theorem tdiv_0 (x : Int) : x.tdiv ((2 ^ 0 : Nat) : Int) = x := by simp
theorem tdiv_z {x : Int} {i : Nat} (h : x.tdiv ((2 ^ i : Nat) : Int) = 0) : x.natAbs % 2 ^ i = x.natAbs := by
  refine Nat.mod_eq_of_lt ?_
  have hp := Nat.two_pow_pos i
  have h1 := congrArg Int.natAbs h
  rw [Int.natAbs_tdiv, Int.natAbs_natCast] at h1
  exact (Nat.div_eq_zero_iff_lt hp).1 h1
set_option maxHeartbeats 32000000 in
theorem rof_any (x : Int) (hx : InR .i64 x) (w : World) : Does Try.prog 37 [.int .i64 x] [] w (fun v S' => v = .agg (numE (decide (x < 0)) x.natAbs).toArray ∧ S' = []) := by
  refine does_of Try.func37 rfl Try.ntmps37 rfl ⟨by simp, .nil⟩ (fun _ => ?_)
  simp only [slots]
  generalize hneg : decide (x < 0) = c
  have iN : ∀ w0 W H t u a b, MS Try.prog w0 W H (.binOp .lss t a b u) [.int .i64 x, .int .i64 0] (.bool c) True := by subst hneg; intros; infer_instance
  refine z_tas
  rename_i b2 b3
  refine c_loop (X := Nat) (fun i => i ≤ 65) (fun i => [(2, .pointer (some ⟨b2, 0, none⟩)), (3, .pointer (some ⟨b3, 0, none⟩)), (4, .int .i64 (x.tdiv ((2 ^ i : Nat) : Int))), (5, .int .i64 i)])
    (fun i => [.blk b2 50 (numE false 0), .blk b3 50 (numE c (x.natAbs % 2 ^ i))]) (fun i => 65 - i) 0 (by omega) ⟨rfl, rfl, by rw [tdiv_0]; rfl, rfl, trivial⟩ (by simp only [numE, bits3N_mod1]; exact Sub.au) ?_
  intro i hi
  have hin := tdiv_in hx i
  have hz := tdiv_z (x := x) (i := i)
  have hs := tdiv_step x i
  have hin2 := tdiv_in hx (i + 1)
  have hb := tmod_bit x i
  rcases Nat.lt_or_ge i 65 with h | h
  · have iL : Lt129 i := ⟨by omega⟩
    have o1 : bit3N x.natAbs i = 1 → SetAt (ints .i64 (bits3N (x.natAbs % 2 ^ i))) i (.int .i64 1) (ints .i64 (bits3N (x.natAbs % 2 ^ (i + 1)))) := fun h1 => set_bits x.natAbs (by omega) (by rw [h1]; rfl)
    have o2 := bit_keep x.natAbs (i := i)
    have b1 := bit3N_lt x.natAbs i
    rw [← hs] at hin2
    generalize hy : x.tdiv ((2 ^ i : Nat) : Int) = y at *
    by_cases hb1 : y.tmod 2 ≠ 0
    · have iS := o1 (hb.1 hb1)
      refine z_tas
      · refine c_round (i + 1) h (by show 65 - (i + 1) < 65 - i; omega) ⟨rfl, rfl, ?_, by simp [look], trivial⟩ Sub.au
        simp only [look, List.lookup, Nat.beq]
        rw [← hs, wrap_in hin2]
      · rename_i hy0
        exfalso
        apply hb1
        rw [Classical.not_not.1 hy0]
        rfl
    · have hb0 : bit3N x.natAbs i = 0 := by
        have : ¬ bit3N x.natAbs i = 1 := fun h => hb1 (hb.2 h)
        omega
      have e0 := o2 hb0
      have iR : ∀ w0 W H t u a b, MS Try.prog w0 W H (.binOp .neq t a b u) [.int .i64 (y.tmod 2), .int .i64 0] (.bool false) True := by
        rw [Classical.not_not.1 hb1]
        intros; infer_instance
      refine z_tas
      · refine c_round (i + 1) h (by show 65 - (i + 1) < 65 - i; omega) ⟨rfl, rfl, ?_, by simp [look], trivial⟩ (by simp only [numE, e0]; exact Sub.au)
        simp only [look, List.lookup, Nat.beq]
        rw [← hs, wrap_in hin2]
      · rename_i hy0
        rw [hz (Classical.not_not.1 hy0)]
        refine z_ro
        exact ⟨rfl, rfl⟩
  · obtain rfl : i = 65 := by omega
    have h1 : -9223372036854775808 ≤ x ∧ x ≤ 9223372036854775807 := hx
    rw [show x.natAbs % 2 ^ 65 = x.natAbs from Nat.mod_eq_of_lt (by show x.natAbs < 36893488147419103232; omega)]
    refine z_tas
    refine z_ro
    exact ⟨rfl, rfl⟩
end Go.Proofs.Ytemmnpgebpffbaa
/- Package theodoliteref03: products, held against each other, sums, both parts. -/
namespace Go.Proofs.Ytemmnpgebpffbaa
open Go.RowKit
theorem mul_mod_zero (a b : Nat) : bits3N (a * (b % 2 ^ 0)) = bits3N 0 := by rw [Nat.pow_zero, Nat.mod_one, Nat.mul_zero]
theorem two_mul_pow (a i : Nat) : 2 * (a * 2 ^ i) = a * 2 ^ (i + 1) := by rw [Nat.pow_succ, Nat.mul_left_comm, Nat.mul_comm 2 (2 ^ i)]
attribute [local irreducible] OJ J HdJ Code.wpIn wpListIn Oper.wpIn bodyPost CallsIn Does
set_option maxRecDepth 4000
set_option maxHeartbeats 64000000 in
theorem rmul_any (a b : Int) (ha : InR .i64 a) (hb : InR .i64 b) (c : Bool) (hs : decide (a < 0) = c) (ht : decide (b < 0) = c) (w : World) :
    Does Try.prog 20 [.int .i64 a, .int .i64 b] [] w (fun v S' => v = .agg (numE false (a.natAbs * b.natAbs)).toArray ∧ S' = []) := by
  have h1 : -9223372036854775808 ≤ a ∧ a ≤ 9223372036854775807 := ha
  have h2 : -9223372036854775808 ≤ b ∧ b ≤ 9223372036854775807 := hb
  have ia : CV Try.prog 37 [.int .i64 a] (.agg (numE c a.natAbs).toArray) True := ⟨fun _ w => by have := rof_any a ha w; rwa [hs] at this⟩
  have ib : CV Try.prog 37 [.int .i64 b] (.agg (numE c b.natAbs).toArray) True := ⟨fun _ w => by have := rof_any b hb w; rwa [ht] at this⟩
  have hm : b.natAbs % 2 ^ 65 = b.natAbs := Nat.mod_eq_of_lt (by show b.natAbs < 36893488147419103232; omega)
  have hp : a.natAbs * b.natAbs < 680564733841876926926749214863536422912 := by
    have := Nat.mul_le_mul (show a.natAbs ≤ 9223372036854775808 by omega) (show b.natAbs ≤ 9223372036854775808 by omega)
    omega
  refine does_of Try.func20 rfl Try.ntmps20 rfl ⟨by simp, .nil⟩ (fun _ => ?_)
  simp only [slots]
  clear hs ht
  refine z_tas
  rename_i b4 b5 b6 b7 b8
  refine c_loop (X := Nat) (fun i => i ≤ 65) (fun i => [(4, .pointer (some ⟨b4, 0, none⟩)), (5, .pointer (some ⟨b5, 0, none⟩)), (6, .pointer (some ⟨b6, 0, none⟩)), (7, .pointer (some ⟨b7, 0, none⟩)), (8, .pointer (some ⟨b8, 0, none⟩)), (9, .int .i64 i)])
    (fun i => [.blk b4 50 (numE false 0), .blk b5 50 (numE c a.natAbs), .blk b6 50 (numE c b.natAbs), .blk b7 50 (numE false (a.natAbs * (b.natAbs % 2 ^ i))), .blk b8 48 (ints .i64 (bits3N (a.natAbs * 2 ^ i)))]) (fun i => 65 - i) 0 (by omega) ⟨rfl, rfl, rfl, rfl, rfl, rfl, trivial⟩ (by simp only [numE, Nat.pow_zero, Nat.mod_one, Nat.mul_zero, Nat.mul_one]; exact Sub.au) ?_
  intro i hi
  rcases Nat.lt_or_ge i 65 with h | h
  · have iL : Lt129 i := ⟨by omega⟩
    have hst := mul_step a.natAbs b.natAbs i
    have hb1 := bit3N_lt b.natAbs i
    have e2 := two_mul_pow a.natAbs i
    refine z_tas
    all_goals rw [e2]
    · refine c_round (i + 1) h (by show 65 - (i + 1) < 65 - i; omega) ⟨rfl, rfl, rfl, rfl, rfl, by simp [look], trivial⟩ ?_
      have : bit3N b.natAbs i = 1 := by omega
      rw [hst, this, Nat.one_mul]
      exact Sub.au
    · refine c_round (i + 1) h (by show 65 - (i + 1) < 65 - i; omega) ⟨rfl, rfl, rfl, rfl, rfl, by simp [look], trivial⟩ ?_
      have : bit3N b.natAbs i = 0 := by omega
      rw [hst, this, Nat.zero_mul, Nat.add_zero]
      exact Sub.au
  · obtain rfl : i = 65 := by omega
    rw [hm]
    refine z_tas
    refine z_ro
    exact ⟨rfl, rfl⟩
/-- Which of two numbers is greater. -/
def cmpI (m n : Nat) : Int := if m < n then -1 else if m = n then 0 else 1
set_option maxHeartbeats 64000000 in
instance less3_cv (m n : Nat) : CV Try.prog 45 [.agg (ints .i64 (bits3N m)).toArray, .agg (ints .i64 (bits3N n)).toArray] (.bool (decide (m < n))) (m < 680564733841876926926749214863536422912 ∧ n < 680564733841876926926749214863536422912) := ⟨fun hc w => by
  refine does_of Try.func45 rfl Try.ntmps45 rfl ⟨by simp, .nil⟩ (fun _ => ?_)
  simp only [slots]
  refine z_tas
  rename_i b2 b3
  refine c_loop (X := Nat) (fun k => k ≤ 129 ∧ (m < n ↔ m % 2 ^ k < n % 2 ^ k)) (fun k => [(2, .pointer (some ⟨b2, 0, none⟩)), (3, .pointer (some ⟨b3, 0, none⟩)), (5, .int .i64 ((k : Int) - 1))])
    (fun k => [.blk b2 48 (ints .i64 (bits3N m)), .blk b3 48 (ints .i64 (bits3N n))]) (fun k => k) 129 ⟨Nat.le_refl _, by rw [mod129 hc.1, mod129 hc.2]⟩ ⟨rfl, rfl, rfl, trivial⟩ Sub.au ?_
  rintro k ⟨hk, hl⟩
  rcases Nat.eq_zero_or_pos k with h | h
  · subst h
    rw [Nat.pow_zero, Nat.mod_one, Nat.mod_one] at hl
    refine z_tas
    exact j_out1 rfl rfl (.nil _) ⟨congrArg Value.bool (by simp; omega), rfl⟩
  · obtain ⟨i, rfl⟩ : ∃ i, k = i + 1 := ⟨k - 1, by omega⟩
    have iL : Lt129 i := ⟨by omega⟩
    have hs := less_step m n i
    rw [show (((i + 1 : Nat) : Int) - 1) = (i : Int) by omega]
    refine z_tas
    · refine j_out1 rfl rfl (.nil _) ⟨congrArg Value.bool ?_, rfl⟩
      rw [Bool.eq_iff_iff, decide_eq_true_iff, decide_eq_true_iff, hl, hs]
      omega
    · refine c_round i ⟨by omega, ?_⟩ (Nat.lt_succ_self _) ⟨rfl, rfl, by simp [look], trivial⟩ Sub.au
      rw [hl, hs]
      omega⟩
set_option maxHeartbeats 64000000 in
instance cmp3_cv (m n : Nat) : CV Try.prog 19 [.agg (numE false m).toArray, .agg (numE false n).toArray] (.int .i64 (cmpI m n)) (m < 680564733841876926926749214863536422912 ∧ n < 680564733841876926926749214863536422912) := ⟨fun hc w => by
  refine does_of Try.func19 rfl Try.ntmps19 rfl ⟨by simp, .nil⟩ (fun _ => ?_)
  simp only [slots]
  unfold cmpI
  refine z_tas
  all_goals first
    | exact j_out1 rfl rfl (.nil _) ⟨congrArg (Value.int .i64) (by split <;> (try split) <;> omega), rfl⟩
    | skip
  all_goals (refine c_dv (0 :: 1 :: 2 :: 3 :: 4 :: 5 :: 6 :: 7 :: []) ?_; intro _)
  all_goals (refine z_govG)
  all_goals exact j_out1 rfl rfl (.nil _) ⟨congrArg (Value.int .i64) (by simp only [Bool.false_eq_true, iff_false, Classical.not_not] at *; split <;> (try split) <;> omega), rfl⟩⟩
theorem high_bit {n i : Nat} {k : Nat} (h : n < 2 ^ k) (hk : k ≤ i) : bit3N n i = 0 := by
  unfold bit3N
  rw [Nat.div_eq_of_lt (Nat.lt_of_lt_of_le h (Nat.pow_le_pow_right (by decide) hk))]
set_option maxHeartbeats 64000000 in
theorem fits_any (c : Bool) (m k : Nat) (hm : m < 2 ^ k) (hk : k < 129) (w : World) : Does Try.prog 62 [.agg (numE c m).toArray, .int .i64 k] [] w (fun v S' => v = .bool true ∧ S' = []) := by
  refine does_of Try.func62 rfl Try.ntmps62 rfl ⟨by simp, .nil⟩ (fun _ => ?_)
  simp only [slots]
  refine z_tas
  rename_i b2
  refine c_loop (X := Nat) (fun i => k + 1 ≤ i ∧ i ≤ 129) (fun i => [(1, .int .i64 k), (2, .pointer (some ⟨b2, 0, none⟩)), (5, .int .i64 i)])
    (fun i => [.blk b2 50 (numE c m)]) (fun i => 129 - i) (k + 1) ⟨by omega, by omega⟩ ⟨rfl, rfl, rfl, trivial⟩ Sub.au ?_
  rintro i ⟨hi1, hi⟩
  rcases Nat.lt_or_ge i 129 with h | h
  · have iL : Lt129 i := ⟨h⟩
    have iG : Get (ints .i64 (bits3N m)) i (.int .i64 0) := ⟨by rw [bits_get m h, high_bit hm (show k ≤ i by omega)]; rfl⟩
    refine z_tas
    exact c_round (i + 1) ⟨by omega, h⟩ (by show 129 - (i + 1) < 129 - i; omega) ⟨rfl, rfl, by simp [look], trivial⟩ Sub.au
  · obtain rfl : i = 129 := by omega
    have iL : Lt129 k := ⟨hk⟩
    have iG : Get (ints .i64 (bits3N m)) k (.int .i64 0) := ⟨by rw [bits_get m hk, high_bit hm (Nat.le_refl k)]; rfl⟩
    refine z_tas
    exact j_out1 rfl rfl (.nil _) ⟨rfl, rfl⟩
instance fits127_cv (c : Bool) (m : Nat) : CV Try.prog 62 [.agg (numE c m).toArray, .int .i64 127] (.bool true) (m < 170141183460469231731687303715884105728) := ⟨fun h w => fits_any c m 127 h (by decide) w⟩
instance fits63_cv (c : Bool) (m : Nat) : CV Try.prog 62 [.agg (numE c m).toArray, .int .i64 63] (.bool true) (m < 9223372036854775808) := ⟨fun h w => fits_any c m 63 h (by decide) w⟩
set_option maxHeartbeats 64000000 in
instance radd_cv (m n : Nat) : CV Try.prog 38 [.agg (numE false m).toArray, .agg (numE false n).toArray] (.tuple #[.agg (numE false (m + n)).toArray, .bool true]) (m + n < 170141183460469231731687303715884105728) := ⟨fun hc w => by
  refine does_of Try.func38 rfl Try.ntmps38 rfl ⟨by simp, .nil⟩ (fun _ => ?_)
  simp only [slots]
  refine z_tas
  all_goals (rename_i b2 b3 b4 b6 hz; refine c_dvL [.blk b6 50 (numE false (m + n))] (0 :: 1 :: 2 :: 3 :: 4 :: []) Sub.au ?_; intro _)
  all_goals (refine z_govG)
  all_goals (refine z_ro; exact ⟨rfl, rfl⟩)⟩
set_option maxHeartbeats 64000000 in
theorem word_any (n fr : Nat) (hf : fr ≤ 64) (w : World) : Does Try.prog 63 [.agg (ints .i64 (bits3N n)).toArray, .int .i64 fr] [] w (fun v S' => v = .int .u64 ((n / 2 ^ fr % 2 ^ 64 : Nat) : Int) ∧ S' = []) := by
  refine does_of Try.func63 rfl Try.ntmps63 rfl ⟨by simp, .nil⟩ (fun _ => ?_)
  simp only [slots]
  refine z_tas
  rename_i b2
  refine c_loop (X := Nat) (fun k => k ≤ 64) (fun k => [(1, .int .i64 fr), (2, .pointer (some ⟨b2, 0, none⟩)), (5, .int .u64 ((n / 2 ^ fr / 2 ^ k % 2 ^ (64 - k) : Nat) : Int)), (6, .int .i64 ((k : Int) - 1))])
    (fun k => [.blk b2 48 (ints .i64 (bits3N n))]) (fun k => k) 64 (Nat.le_refl _) ⟨rfl, rfl, by rw [Nat.sub_self, Nat.pow_zero, Nat.mod_one]; rfl, rfl, trivial⟩ Sub.au ?_
  intro k hk
  rcases Nat.eq_zero_or_pos k with h | h
  · subst h
    rw [Nat.pow_zero, Nat.div_one]
    refine z_tas
    exact j_out1 rfl rfl (.nil _) ⟨rfl, rfl⟩
  · obtain ⟨i, rfl⟩ : ∃ i, k = i + 1 := ⟨k - 1, by omega⟩
    have iL : Lt129 (fr + i) := ⟨by omega⟩
    have hs := word_step n fr i (by omega)
    have hlt : n / 2 ^ fr / 2 ^ i % 2 ^ (64 - i) < 18446744073709551616 := Nat.lt_of_lt_of_le (Nat.mod_lt _ (Nat.two_pow_pos _)) (Nat.pow_le_pow_right (by decide) (show 64 - i ≤ 64 by omega))
    have hb := bit3N_lt n (fr + i)
    rw [show (((i + 1 : Nat) : Int) - 1) = (i : Int) by omega]
    rw [hs] at hlt
    generalize n / 2 ^ fr / 2 ^ (i + 1) % 2 ^ (64 - (i + 1)) = y at *
    refine z_tas
    refine c_round i (by omega) (Nat.lt_succ_self _) ⟨rfl, rfl, ?_, by simp [look], trivial⟩ Sub.au
    rw [hs]
    simp only [look, List.lookup, Nat.beq]
    push_cast
    rfl
instance word0_cv (n : Nat) : CV Try.prog 63 [.agg (ints .i64 (bits3N n)).toArray, .int .i64 0] (.int .u64 ((n % 18446744073709551616 : Nat) : Int)) True := ⟨fun _ w => by
  have := word_any n 0 (by decide) w
  rw [Nat.pow_zero, Nat.div_one] at this
  exact this⟩
instance word64_cv (n : Nat) : CV Try.prog 63 [.agg (ints .i64 (bits3N n)).toArray, .int .i64 64] (.int .u64 ((n / 18446744073709551616 : Nat) : Int)) (n < 340282366920938463463374607431768211456) := ⟨fun h w => by
  have := word_any n 64 (by decide) w
  rw [Nat.mod_eq_of_lt (Nat.div_lt_of_lt_mul (by show n < 18446744073709551616 * 18446744073709551616; omega))] at this
  exact this⟩
set_option maxHeartbeats 64000000 in
instance parts_cv (n : Nat) : CV Try.prog 39 [.agg (numE false n).toArray] (.tuple #[.int .i64 ((n / 18446744073709551616 : Nat) : Int), .int .u64 ((n % 18446744073709551616 : Nat) : Int)]) (n < 170141183460469231731687303715884105728) := ⟨fun hc w => by
  have h1 : n / 18446744073709551616 < 9223372036854775808 := by omega
  refine does_of Try.func39 rfl Try.ntmps39 rfl ⟨by simp, .nil⟩ (fun _ => ?_)
  simp only [slots]
  refine z_tas
  exact j_out2 rfl rfl rfl (.nil _) ⟨rfl, rfl⟩⟩
end Go.Proofs.Ytemmnpgebpffbaa
/- Package wide: products of any two numbers. -/
namespace Go.Proofs.Ytemmnpgebpffbaa
open Go.RowKit
attribute [local irreducible] OJ J HdJ Code.wpIn wpListIn Oper.wpIn bodyPost CallsIn Does
set_option maxRecDepth 4000
set_option maxHeartbeats 8000000 in
instance (priority := 2000) negW_any (z : Int) : CV Try.prog 60 [.agg (wideV z).toArray] (.agg (wideV (-z)).toArray) (-85070591730234615865843651857942052864 ≤ z ∧ z ≤ 85070591730234615865843651857942052864) := ⟨fun hc w => by
  refine does_of Try.func60 rfl Try.ntmps60 rfl ⟨by simp, .nil⟩ (fun n => ?_)
  simp only [slots]
  refine z_gob
  refine z_ro
  refine ⟨wideA_eq ?_ (by omega), rfl⟩
  rw [IntKind.wrap_u64, IntKind.wrap_u64, IntKind.wrap_u64, IntKind.wrap_i64]
  split <;> omega⟩
theorem absI_in {a : Int} (h : InR .i64 a) : 0 ≤ absI a ∧ absI a ≤ 9223372036854775808 := by
  have h1 : -9223372036854775808 ≤ a ∧ a ≤ 9223372036854775807 := h
  unfold absI
  split <;> omega
instance (priority := 2000) mulW_any (a b : Int) : CV Try.prog 35 [.int .i64 a, .int .i64 b] (.agg (wideV (a * b)).toArray) (InR .i64 a ∧ InR .i64 b) := ⟨fun hc w => by
  have h1 := absI_mul a b
  have ha := absI_in hc.1
  have hb := absI_in hc.2
  have h2 : 0 ≤ absI a * absI b ∧ absI a * absI b ≤ 85070591730234615865843651857942052864 := by
    have := mulB 9223372036854775808 9223372036854775808 (a := absI a) (b := absI b) (by omega) (by omega)
    have := Int.mul_nonneg ha.1 hb.1
    omega
  have hc1 := hc.1
  have hc2 := hc.2
  refine does_of Try.func35 rfl Try.ntmps35 rfl ⟨by simp, .nil⟩ (fun n => ?_)
  simp only [slots]
  refine z_gob
  · rename_i h
    refine z_ro
    refine ⟨?_, rfl⟩
    rw [h1, absI_neg a b (fun e => h (by rw [e]))]
    rfl
  · rename_i h
    refine z_ro
    refine ⟨?_, rfl⟩
    rw [h1, absI_sgn a b (.inl (propext (Classical.not_not.1 h)))]
    rfl⟩
end Go.Proofs.Ytemmnpgebpffbaa
/- Packages match and theodoliteref21: what is wrong with a search, what differences cost. -/
namespace Go.Proofs.Ytemmnpgebpffbaa
open Go.RowKit
def in21 (x far : Int) : Bool := decide (-far ≤ x ∧ x ≤ far)
instance (x far : Int) : BoolP (in21 x far) (-far ≤ x ∧ x ≤ far) := ⟨by simp [in21]⟩
instance {P : Program} {w0 : World} {W : Nat → Prop} {H : List HE} (x y u v : Operand) (ts : Array TypeId) (k : IntKind) (p q r s : Int) : MS P w0 W H (.call ⟨.builtin .max, #[x, y, u, v], ts⟩) [.int k p, .int k q, .int k r, .int k s] (.int k (max (max (max p q) r) s)) True := ⟨fun _ _ _ _ _ _ _ _ _ _ _ _ _ _ h1 h2 h3 => by
  refine o_val (by simp) rfl h2 (fun a w ha _ => ?_) h3
  have hm : ∀ p q : Int, (if p < q then q else p) = max p q := fun p q => by omega
  have he := vals_map ha (show vals _ [x, y, u, v] = some _ from h1)
  simp only [List.map_cons, List.map_nil, List.cons.injEq, and_true] at he
  obtain ⟨e1, e2, e3, e4⟩ := he
  simp [execOp, e1, e2, e3, e4, resolve, invoke, builtin, Builtin.max_, Builtin.max2, hm]⟩
attribute [local irreducible] OJ J HdJ Code.wpIn wpListIn Oper.wpIn bodyPost CallsIn Does
set_option maxRecDepth 4000
set_option maxHeartbeats 16000000 in
instance rin21_cv (x far : Int) : CV Try.prog 36 [.int .i64 x, .int .i64 far] (.bool (in21 x far)) (0 ≤ far ∧ far < 9223372036854775808) := ⟨fun hf w => by
  refine does_of Try.func36 rfl Try.ntmps36 rfl ⟨by simp, .nil⟩ (fun n => ?_)
  simp only [slots]
  refine z_tas
  all_goals exact j_out1 rfl rfl (.nil _) ⟨congrArg Value.bool (by unfold in21; rw [Bool.eq_iff_iff]; simp only [decide_eq_true_eq, Bool.and_eq_true, Bool.false_eq_true, false_iff, true_iff]; omega), rfl⟩⟩
theorem chk21_1 {s : Sch} {l : List Smp} (h : ¬ SchOk s) : chk21 s l = 2 := if_pos h
theorem chk21_2 {s : Sch} {l : List Smp} (h : SchOk s) (h2 : l.length = 0 ∨ 64 < l.length) : chk21 s l = 5 := by unfold chk21; rw [if_neg (not_not_intro h), if_pos h2]
theorem chk21_3 {s : Sch} {l : List Smp} (h : SchOk s) (h2 : ¬ (l.length = 0 ∨ 64 < l.length)) (h3 : badS l l.length = true) : chk21 s l = 1 := by unfold chk21; rw [if_neg (not_not_intro h), if_neg h2, if_pos h3]
theorem chk21_4 {s : Sch} {l : List Smp} (h : SchOk s) (h2 : ¬ (l.length = 0 ∨ 64 < l.length)) (h3 : badS l l.length = false) : chk21 s l = 0 := by unfold chk21; rw [if_neg (not_not_intro h), if_neg h2, h3]; rfl
set_option maxHeartbeats 64000000 in
theorem mcheck_any (s : Sch) (Al : Option Addr) (cl : Nat) (l : List Smp) (w : World) (hr : RoA w (blocks []) Al l.length cl 3 (flat smpE l)) (hm : l.length ≤ 1000000) :
    Does Try.prog 15 [.agg (schE s).toArray, .slice Al l.length cl] [] w (fun v S' => v = .int .i64 (chk21 s l) ∧ S' = []) := by
  refine does_of Try.func15 rfl Try.ntmps15 rfl ⟨by simp, .nil⟩ (fun n => ?_)
  simp only [slots]
  by_cases hs : SchOk s
  · have hs' := hs
    obtain ⟨⟨s1, s2⟩, ⟨s3, s4⟩, ⟨s5, s6⟩, ⟨s7, s8⟩⟩ := hs'
    by_cases h2 : l.length = 0 ∨ 64 < l.length
    · rw [chk21_2 hs h2]
      refine z_tas
      all_goals exact j_out1 rfl rfl (.nil _) ⟨rfl, rfl⟩
    · have h3 := chk21_3 (s := s) (l := l) hs h2
      have h4 := chk21_4 (s := s) (l := l) hs h2
      obtain ⟨bL, oL, rfl, hL⟩ := hr.at_ (by omega : 0 < l.length)
      refine z_tas
      rename_i b2 _ _ _ _ _ _ _ _ _ _
      refine c_loop (X := Nat) (fun i => i ≤ l.length ∧ ∀ j, j < i → SmpOk (l.getD j default)) (fun i => [(2, .pointer (some ⟨b2, 0, none⟩)), (57, .slice (some ⟨bL, oL, none⟩) l.length cl), (58, .int .i64 l.length), (59, .int .i64 i)])
        (fun i => [.blk b2 33 (schE s)]) (fun i => l.length - i) 0 ⟨by omega, fun j hj => by omega⟩ ⟨rfl, rfl, rfl, rfl, trivial⟩ Sub.au ?_
      rintro i ⟨hi, hj⟩
      rcases Nat.lt_or_ge i l.length with h | h
      · have hb : ¬ SmpOk (l.getD i default) → badS l l.length = true := badS_yes h
        have hsx : SmpOk (l.getD i default) ↔ ((-4194304 ≤ (l.getD i default).z ∧ (l.getD i default).z ≤ 4194304) ∧ (-1073741824 ≤ (l.getD i default).dx ∧ (l.getD i default).dx ≤ 1073741824) ∧ (-1073741824 ≤ (l.getD i default).dy ∧ (l.getD i default).dy ≤ 1073741824)) := Iff.rfl
        refine z_tas
        all_goals first
          | (refine c_round (i + 1) ⟨h, fun j hjj => ?_⟩ (by show l.length - (i + 1) < l.length - i; omega) ⟨rfl, rfl, rfl, by simp [look], trivial⟩ Sub.au
             rcases Nat.lt_or_ge j i with h1 | h1
             · exact hj j h1
             · rw [show j = i by omega, hsx]; omega)
          | (rw [h3 (hb (by rw [hsx]; omega))]; exact j_out1 rfl rfl (.nil _) ⟨rfl, rfl⟩)
      · obtain rfl : i = l.length := by omega
        rw [h4 (badS_no.2 hj)]
        refine z_tas
        exact j_out1 rfl rfl (.nil _) ⟨rfl, rfl⟩
  · rw [chk21_1 hs]
    have hs' : ¬ ((0 ≤ s.far ∧ s.far ≤ 32) ∧ (1 ≤ s.step ∧ s.step ≤ 4096) ∧ (-1099511627776 ≤ s.x ∧ s.x ≤ 1099511627776) ∧ (-1099511627776 ≤ s.y ∧ s.y ≤ 1099511627776)) := hs
    refine z_tas
    all_goals first
      | exact j_out1 rfl rfl (.nil _) ⟨rfl, rfl⟩
      | (exfalso; omega)
set_option maxHeartbeats 64000000 in
theorem rcheck21_any (s : Sch) (Al : Option Addr) (cl : Nat) (l : List Smp) (w : World) (hr : RoA w (blocks []) Al l.length cl 3 (flat smpE l)) (hm : l.length ≤ 1000000) :
    Does Try.prog 16 [.agg (schE s).toArray, .slice Al l.length cl] [] w (fun v S' => v = .int .i64 (chk21 s l) ∧ S' = []) := by
  refine does_of Try.func16 rfl Try.ntmps16 rfl ⟨by simp, .nil⟩ (fun n => ?_)
  simp only [slots]
  by_cases hs : SchOk s
  · have hs' := hs
    obtain ⟨⟨s1, s2⟩, ⟨s3, s4⟩, ⟨s5, s6⟩, ⟨s7, s8⟩⟩ := hs'
    by_cases h2 : l.length = 0 ∨ 64 < l.length
    · rw [chk21_2 hs h2]
      refine z_tas
      all_goals exact j_out1 rfl rfl (.nil _) ⟨rfl, rfl⟩
    · have h3 := chk21_3 (s := s) (l := l) hs h2
      have h4 := chk21_4 (s := s) (l := l) hs h2
      obtain ⟨bL, oL, rfl, hL⟩ := hr.at_ (by omega : 0 < l.length)
      refine z_tas
      rename_i b2 _ _ _ _ _ _ _ _
      refine c_loop (X := Nat) (fun i => i ≤ l.length ∧ ∀ j, j < i → SmpOk (l.getD j default)) (fun i => [(1, .slice (some ⟨bL, oL, none⟩) l.length cl), (2, .pointer (some ⟨b2, 0, none⟩)), (5, .int .i64 i)])
        (fun i => [.blk b2 33 (schE s)]) (fun i => l.length - i) 0 ⟨by omega, fun j hj => by omega⟩ ⟨rfl, rfl, rfl, trivial⟩ Sub.au ?_
      rintro i ⟨hi, hj⟩
      rcases Nat.lt_or_ge i l.length with h | h
      · have hb : ¬ SmpOk (l.getD i default) → badS l l.length = true := badS_yes h
        have hsx : SmpOk (l.getD i default) ↔ ((-4194304 ≤ (l.getD i default).z ∧ (l.getD i default).z ≤ 4194304) ∧ (-1073741824 ≤ (l.getD i default).dx ∧ (l.getD i default).dx ≤ 1073741824) ∧ (-1073741824 ≤ (l.getD i default).dy ∧ (l.getD i default).dy ≤ 1073741824)) := Iff.rfl
        refine z_tas
        all_goals first
          | (refine c_round (i + 1) ⟨h, fun j hjj => ?_⟩ (by show l.length - (i + 1) < l.length - i; omega) ⟨rfl, rfl, by simp [look], trivial⟩ Sub.au
             rcases Nat.lt_or_ge j i with h1 | h1
             · exact hj j h1
             · rw [show j = i by omega, hsx]; omega)
          | (rw [h3 (hb (by rw [hsx]; omega))]; exact j_out1 rfl rfl (.nil _) ⟨rfl, rfl⟩)
      · obtain rfl : i = l.length := by omega
        rw [h4 (badS_no.2 hj)]
        refine z_tas
        exact j_out1 rfl rfl (.nil _) ⟨rfl, rfl⟩
  · rw [chk21_1 hs]
    have hs' : ¬ ((0 ≤ s.far ∧ s.far ≤ 32) ∧ (1 ≤ s.step ∧ s.step ≤ 4096) ∧ (-1099511627776 ≤ s.x ∧ s.x ≤ 1099511627776) ∧ (-1099511627776 ≤ s.y ∧ s.y ≤ 1099511627776)) := hs
    refine z_tas
    all_goals first
      | exact j_out1 rfl rfl (.nil _) ⟨rfl, rfl⟩
      | (exfalso; omega)
end Go.Proofs.Ytemmnpgebpffbaa
