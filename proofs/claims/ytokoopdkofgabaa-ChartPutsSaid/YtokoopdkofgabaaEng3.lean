/- The engine: rules for operations that leave memory alone, and loads. -/
import Derived.Test.YtokoopdkofgabaaEng2
import Derived.Deep.MidRow
import Derived.Laws.Entries
namespace Go.Proofs.Ytokoopdkofgabaa
open Go.RowKit

/-- The fence lets all in, as an instance. -/
class Wide (F : Fence) : Prop where out : Wd F
class Und (P : Program) (t : TypeId) (d : outParam TypeDesc) : Prop where h : P.underlying t = some d
class Inf (P : Program) (t : TypeId) (size bytes : outParam Nat) (z : outParam Value) : Prop where h : ∃ i, P.info? t = some i ∧ i.zero = some z ∧ i.size = size ∧ i.bytes = bytes
class Cl (P : Program) (f : FuncId) : Prop where h : ∀ args w, (callFunc f args).run P w = .ok (.enter f args) w
/-- Field f of struct type s lies from cell off on. -/
class Fa (P : Program) (s f : Nat) (off : outParam Nat) : Prop where h : ∃ fs fld i, P.underlying s = some (.struct fs) ∧ fs[f]? = some fld ∧ P.info? fld.type = some i ∧ i.size ≠ 0 ∧ fld.offset = off

def aggB : TypeDesc → Bool
  | .struct _ | .array _ _ => true
  | _ => false

/-- Is an operation's guard met? -/
def wantd (ops : Array Oper) (σ : List (Nat × Value)) (o : Oper) : Option Bool :=
  match o.guard with
  | none => some true
  | some (j, b) =>
    match (ops[j]?).bind (·.dst) with
    | some t => match look σ t with
      | some (.bool c) => some (c == b)
      | some (.tuple _) => some false
      | _ => none
    | none => none

def OJ (F : Fence) (n : Nat) (P : Program) (N : Nat) (ds : List Deferred) (w0 : World) (W : Nat → Prop) (σ : List (Nat × Value)) (H : List HE) (o : Oper) (K : Act → World → Prop) (Q : Exit → Act → World → Prop) : Prop :=
  J N ds w0 W σ H (fun a w => o.wpIn F n P a w K Q)

section
variable {F : Fence} {n : Nat} {P : Program} {N : Nat} {ds : List Deferred} {w0 : World} {W : Nat → Prop} {σ : List (Nat × Value)} {H : List HE} {Q : Exit → Act → World → Prop} {K : Act → World → Prop}
variable {ops : Array Oper} {rest : List Oper} {o : Oper}

theorem wanted_of {e : Bool} {a : Act} (ha : Tm N ds σ a) (hw : wantd ops σ o = some e) : Region.wanted o (yielded ops a.tmps) = e := by
  unfold wantd at hw
  unfold Region.wanted
  cases hg : o.guard with
  | none => simp [hg] at hw; simp [hw]
  | some g =>
    obtain ⟨j, b⟩ := g
    simp only [hg] at hw ⊢
    cases ht : (ops[j]?).bind (·.dst) with
    | none => simp [ht] at hw
    | some t =>
      simp only [ht] at hw
      cases hl : look σ t with
      | none => simp [hl] at hw
      | some v =>
        simp only [hl] at hw
        cases v <;> simp at hw
        case bool c =>
          have hc := ha.at_ t _ hl
          simp only [yielded, ht, Option.bind_some, hc]
          rw [← hw]
          cases c <;> cases b <;> rfl
        case tuple vs =>
          have hc := ha.at_ t _ hl
          simp only [yielded, ht, Option.bind_some, hc]
          rw [hw]; rfl

theorem l_nil (h : J N ds w0 W σ H (Q .normal)) : J N ds w0 W σ H (wpListIn F n P ops Q []) := fun a w ha hw => wpListIn_nil (h a w ha hw)
theorem l_run (hw : wantd ops σ o = some true) (h : OJ F n P N ds w0 W σ H o (wpListIn F n P ops Q rest) Q) : J N ds w0 W σ H (wpListIn F n P ops Q (o :: rest)) :=
  fun a w ha hs => wpListIn_step fun K hK => by
    rw [if_pos (wanted_of ha hw)]
    exact Oper.wpIn_mono hK (h a w ha hs)
theorem l_skip [hF : Wide F] {d : Nat} (hw : wantd ops σ o = some false) (hd : o.dst = some d) (hdN : Nat.blt d N = true) (h : J N ds w0 W ((d, undef) :: σ) H (wpListIn F n P ops Q rest)) : J N ds w0 W σ H (wpListIn F n P ops Q (o :: rest)) :=
  fun a w ha hs => wpListIn_step fun K hK => by
    rw [wanted_of ha hw]
    refine ⟨fun f _ => hF.out.fn f, hK _ _ ?_⟩
    rw [hd]
    exact h _ _ (ha.put d undef (by simpa using hdN)) hs
theorem l_skip0 [hF : Wide F] (hw : wantd ops σ o = some false) (hd : o.dst = none) (h : J N ds w0 W σ H (wpListIn F n P ops Q rest)) : J N ds w0 W σ H (wpListIn F n P ops Q (o :: rest)) :=
  fun a w ha hs => wpListIn_step fun K hK => by
    rw [wanted_of ha hw]
    refine ⟨fun f _ => hF.out.fn f, hK _ _ ?_⟩
    rw [hd]
    exact h _ _ (ha.put_none undef) hs

/-- A slot that holds a truth value, taken both ways. -/
theorem j_case (t : Nat) {c : Bool} {q : Act → World → Prop} (hl : look σ t = some (.bool c)) (ht : c = true → J N ds w0 W ((t, .bool true) :: σ) H q) (hf : c = false → J N ds w0 W ((t, .bool false) :: σ) H q) : J N ds w0 W σ H q := by
  intro a w ha hw
  cases c with
  | true =>
    refine ht rfl a w ⟨ha.size, ha.defers, fun s v hs => ?_⟩ hw
    rw [look_cons] at hs
    by_cases h : t = s
    · subst h; rw [if_pos rfl] at hs; obtain rfl := by simpa using hs
      exact ha.at_ t _ hl
    · rw [if_neg h] at hs; exact ha.at_ s v hs
  | false =>
    refine hf rfl a w ⟨ha.size, ha.defers, fun s v hs => ?_⟩ hw
    rw [look_cons] at hs
    by_cases h : t = s
    · subst h; rw [if_pos rfl] at hs; obtain rfl := by simpa using hs
      exact ha.at_ t _ hl
    · rw [if_neg h] at hs; exact ha.at_ s v hs
/-- A slot's value, told otherwise. -/
theorem j_set (t : Nat) (v : Value) {q : Act → World → Prop} (hl : look σ t = some v) {v' : Value} (he : v = v') (h : J N ds w0 W ((t, v') :: σ) H q) : J N ds w0 W σ H q := by
  subst he
  intro a w ha hw
  refine h a w ⟨ha.size, ha.defers, fun s u hs => ?_⟩ hw
  rw [look_cons] at hs
  by_cases h : t = s
  · subst h; rw [if_pos rfl] at hs; obtain rfl := by simpa using hs
    exact ha.at_ t _ hl
  · rw [if_neg h] at hs; exact ha.at_ s u hs
/-- The heap's list, told otherwise. -/
theorem j_perm {H' : List HE} {q : Act → World → Prop} (hp : Sub H' H) (h : J N ds w0 W σ H' q) : J N ds w0 W σ H q := fun a w ha hw => h a w ha (hw.sub hp)

theorem o_val [hF : Wide F] {d : Nat} {v : Value} (hnd : ∀ c, o.op ≠ .defer c) (hd : o.dst = some d) (hdN : Nat.blt d N = true)
    (hrun : ∀ a w, Tm N ds σ a → St w0 W H w → (execOp a.eval o).run P w = .ok (.value v) w) (h : J N ds w0 W ((d, v) :: σ) H K) : OJ F n P N ds w0 W σ H o K Q := by
  intro a w ha hw
  refine ⟨fun f _ => hF.out.fn f, ?_⟩
  rw [Oper.semAt_plain F _ _ hnd, hrun a w ha hw, Oper.uponIn_value, hd]
  exact h _ _ (ha.put d v (by simpa using hdN)) hw

variable {d : Nat} {ty : TypeId} {pos : String} {aft : Array Edge} {gd : Option (Nat × Bool)}

theorem r_move [Wide F] {x : Operand} {v : Value} (hx : ev σ x = some v) (hdN : Nat.blt d N = true) (h : J N ds w0 W ((d, v) :: σ) H K) : OJ F n P N ds w0 W σ H ⟨some d, .move x, ty, pos, aft, gd⟩ K Q :=
  o_val (by simp) rfl hdN (fun a w ha _ => by simp [execOp, ha.eval hx]) h
theorem r_assign [Wide F] {x : Operand} {v : Value} (hx : ev σ x = some v) (hdN : Nat.blt d N = true) (h : J N ds w0 W ((d, v) :: σ) H K) : OJ F n P N ds w0 W σ H ⟨some d, .assign x, ty, pos, aft, gd⟩ K Q :=
  o_val (by simp) rfl hdN (fun a w ha _ => by simp [execOp, ha.eval hx]) h
theorem r_pickT [Wide F] {c x y : Operand} {v : Value} (hc : ev σ c = some (.bool true)) (hx : ev σ x = some v) (hdN : Nat.blt d N = true) (h : J N ds w0 W ((d, v) :: σ) H K) : OJ F n P N ds w0 W σ H ⟨some d, .pick c x y, ty, pos, aft, gd⟩ K Q :=
  o_val (by simp) rfl hdN (fun a w ha _ => by simp [execOp, ha.eval hx, ha.eval hc, asBool]) h
theorem r_pickF [Wide F] {c x y : Operand} {v : Value} (hc : ev σ c = some (.bool false)) (hx : ev σ y = some v) (hdN : Nat.blt d N = true) (h : J N ds w0 W ((d, v) :: σ) H K) : OJ F n P N ds w0 W σ H ⟨some d, .pick c x y, ty, pos, aft, gd⟩ K Q :=
  o_val (by simp) rfl hdN (fun a w ha _ => by simp [execOp, ha.eval hx, ha.eval hc, asBool]) h
theorem r_nil [Wide F] {x : Operand} {p : Addr} (hx : ev σ x = some (.pointer (some p))) (hdN : Nat.blt d N = true) (h : J N ds w0 W ((d, .pointer (some p)) :: σ) H K) : OJ F n P N ds w0 W σ H ⟨some d, .nilCheck x, ty, pos, aft, gd⟩ K Q :=
  o_val (by simp) rfl hdN (fun a w ha _ => by simp [execOp, ha.eval hx]) h
/-- Two ints of one kind. -/
def binv (op : BinOp) (k : IntKind) (a b : Int) : Option Value :=
  match op with
  | .add => some (.int k (k.wrap (a + b)))
  | .sub => some (.int k (k.wrap (a - b)))
  | .mul => some (.int k (k.wrap (a * b)))
  | .and => some (.int k (bits .and k a b))
  | .or => some (.int k (bits .or k a b))
  | .xor => some (.int k (bits .xor k a b))
  | .andNot => some (.int k (bits .andNot k a b))
  | .eql => some (.bool (a == b))
  | .neq => some (.bool (a != b))
  | .lss => some (.bool (decide (a < b)))
  | .leq => some (.bool (decide (a ≤ b)))
  | .gtr => some (.bool (decide (b < a)))
  | .geq => some (.bool (decide (b ≤ a)))
  | _ => none
theorem run_binv {op : BinOp} {k : IntKind} {a b : Int} {v : Value} (h : binv op k a b = some v) (t : TypeId) (x y : Operand) (w : World) :
    (do eqGuard op t x y (.int k a) (.int k b); binOp op t (.int k a) (.int k b) : Sem Value).run P w = .ok v w := by
  cases op <;> simp [binv] at h <;> subst h <;> simp [eqGuard, binOp, Op.intArith, Op.intBits, Op.intCmp, bits]
theorem r_bin [Wide F] {op : BinOp} {t u : TypeId} {x y : Operand} {k : IntKind} {a b : Int} {v : Value} (hx : ev σ x = some (.int k a)) (hy : ev σ y = some (.int k b)) (hv : binv op k a b = some v) (hdN : Nat.blt d N = true)
    (h : J N ds w0 W ((d, v) :: σ) H K) : OJ F n P N ds w0 W σ H ⟨some d, .binOp op t x y u, ty, pos, aft, gd⟩ K Q :=
  o_val (by simp) rfl hdN (fun a w ha _ => by
    have := run_binv (P := P) hv t x y w
    simp only [execOp, ha.eval hx, ha.eval hy]
    rw [Sem.run_bind, this]; rfl) h

/-- A number that fits its kind. -/
@[reducible] def InR : IntKind → Int → Prop
  | .i64, c => -9223372036854775808 ≤ c ∧ c ≤ 9223372036854775807
  | .i32, c => -2147483648 ≤ c ∧ c ≤ 2147483647
  | .i16, c => -32768 ≤ c ∧ c ≤ 32767
  | .i8, c => -128 ≤ c ∧ c ≤ 127
  | .u64, c => 0 ≤ c ∧ c ≤ 18446744073709551615
  | .u32, c => 0 ≤ c ∧ c ≤ 4294967295
  | .u16, c => 0 ≤ c ∧ c ≤ 65535
  | .u8, c => 0 ≤ c ∧ c ≤ 255
theorem wrap_in {k : IntKind} {c : Int} (h : InR k c) : k.wrap c = c := by
  cases k <;> simp only [InR] at h <;> simp [IntKind.wrap, IntKind.bits, IntKind.signed] <;> omega
/-- No more than a kind has bits. -/
@[reducible] def LeB : IntKind → Nat → Prop
  | .i64, b | .u64, b => b ≤ 64
  | .i32, b | .u32, b => b ≤ 32
  | .i16, b | .u16, b => b ≤ 16
  | .i8, b | .u8, b => b ≤ 8
theorem leB {k : IntKind} {b : Nat} (h : LeB k b) : b ≤ k.bits := by cases k <;> exact h
def ariv (op : BinOp) (a b : Int) : Option Int :=
  match op with
  | .add => some (a + b)
  | .sub => some (a - b)
  | .mul => some (a * b)
  | _ => none
theorem r_ari [Wide F] {op : BinOp} {t u : TypeId} {x y : Operand} {k : IntKind} {a b c : Int} (hx : ev σ x = some (.int k a)) (hy : ev σ y = some (.int k b)) (hv : ariv op a b = some c) (hc : InR k c) (hdN : Nat.blt d N = true)
    (h : J N ds w0 W ((d, .int k c) :: σ) H K) : OJ F n P N ds w0 W σ H ⟨some d, .binOp op t x y u, ty, pos, aft, gd⟩ K Q :=
  r_bin hx hy (by cases op <;> simp [ariv] at hv <;> subst hv <;> simp [binv, wrap_in hc]) hdN h
theorem r_quo [Wide F] {t u : TypeId} {x y : Operand} {k : IntKind} {a b : Int} (hx : ev σ x = some (.int k a)) (hy : ev σ y = some (.int k b)) (hb : b ≠ 0) (hdN : Nat.blt d N = true)
    (h : J N ds w0 W ((d, .int k (k.wrap (a.tdiv b))) :: σ) H K) : OJ F n P N ds w0 W σ H ⟨some d, .binOp .quo t x y u, ty, pos, aft, gd⟩ K Q :=
  o_val (by simp) rfl hdN (fun a w ha _ => by simp [execOp, ha.eval hx, ha.eval hy, eqGuard, binOp, Op.intDiv, hb]) h
theorem r_rem [Wide F] {t u : TypeId} {x y : Operand} {k : IntKind} {a b : Int} (hx : ev σ x = some (.int k a)) (hy : ev σ y = some (.int k b)) (hb : b ≠ 0) (hdN : Nat.blt d N = true)
    (h : J N ds w0 W ((d, .int k (a.tmod b)) :: σ) H K) : OJ F n P N ds w0 W σ H ⟨some d, .binOp .rem t x y u, ty, pos, aft, gd⟩ K Q :=
  o_val (by simp) rfl hdN (fun a w ha _ => by simp [execOp, ha.eval hx, ha.eval hy, eqGuard, binOp, Op.intDiv, hb]) h
theorem r_quo_in [Wide F] {t u : TypeId} {x y : Operand} {k : IntKind} {a b : Int} (hx : ev σ x = some (.int k a)) (hy : ev σ y = some (.int k b)) (ha0 : 0 ≤ a) (hb : 0 < b) (hc : InR k a) (hdN : Nat.blt d N = true)
    (h : J N ds w0 W ((d, .int k (a / b)) :: σ) H K) : OJ F n P N ds w0 W σ H ⟨some d, .binOp .quo t x y u, ty, pos, aft, gd⟩ K Q :=
  r_quo hx hy (by omega) hdN (by
    rw [Int.tdiv_eq_ediv_of_nonneg ha0, wrap_in]
    · exact h
    · have h1 : 0 ≤ a / b := Int.ediv_nonneg ha0 (by omega)
      have h2 : a / b ≤ a := Int.ediv_le_self _ ha0
      cases k <;> simp only [InR] at hc ⊢ <;> omega)
theorem r_rem_in [Wide F] {t u : TypeId} {x y : Operand} {k : IntKind} {a b : Int} (hx : ev σ x = some (.int k a)) (hy : ev σ y = some (.int k b)) (ha0 : 0 ≤ a) (hb : 0 < b) (hdN : Nat.blt d N = true)
    (h : J N ds w0 W ((d, .int k (a % b)) :: σ) H K) : OJ F n P N ds w0 W σ H ⟨some d, .binOp .rem t x y u, ty, pos, aft, gd⟩ K Q :=
  r_rem hx hy (by omega) hdN (by rw [Int.tmod_eq_emod_of_nonneg ha0]; exact h)
theorem r_shl [Wide F] {t u : TypeId} {x y : Operand} {k k' : IntKind} {a b : Int} (hx : ev σ x = some (.int k a)) (hy : ev σ y = some (.int k' b)) (hb : 0 ≤ b) (hdN : Nat.blt d N = true)
    (h : J N ds w0 W ((d, .int k (k.wrap (a * 2 ^ (min b.toNat k.bits)))) :: σ) H K) : OJ F n P N ds w0 W σ H ⟨some d, .binOp .shl t x y u, ty, pos, aft, gd⟩ K Q :=
  o_val (by simp) rfl hdN (fun a w ha _ => by simp [execOp, ha.eval hx, ha.eval hy, eqGuard, binOp, Op.shift, show ¬ b < 0 by omega]) h
theorem r_shr [Wide F] {t u : TypeId} {x y : Operand} {k k' : IntKind} {a b : Int} (hx : ev σ x = some (.int k a)) (hy : ev σ y = some (.int k' b)) (hb : 0 ≤ b) (hdN : Nat.blt d N = true)
    (h : J N ds w0 W ((d, .int k (a.fdiv (2 ^ (min b.toNat k.bits)))) :: σ) H K) : OJ F n P N ds w0 W σ H ⟨some d, .binOp .shr t x y u, ty, pos, aft, gd⟩ K Q :=
  o_val (by simp) rfl hdN (fun a w ha _ => by simp [execOp, ha.eval hx, ha.eval hy, eqGuard, binOp, Op.shift, show ¬ b < 0 by omega]) h
theorem run_equalB (w : World) (d : Nat) {t : TypeId} (a b : Bool) (ht : P.underlying t = some .bool) : (Op.equalIn (d + 1) t (.bool a) (.bool b)).run P w = .ok (a == b) w := by
  simp [Op.equalIn, run_underlying ht]
theorem run_neqB (w : World) {t : TypeId} (a b : Bool) (ht : P.underlying t = some .bool) : (binOp .neq t (.bool a) (.bool b)).run P w = .ok (.bool (!(a == b))) w := by
  simp only [binOp]
  simp [Op.equal, Op.maxDepth, run_equalB w 9999 a b ht]
theorem run_guardB (op : BinOp) (t : TypeId) (x y : Operand) (a b : Bool) (w : World) : (eqGuard op t x y (.bool a) (.bool b)).run P w = .ok () w := by
  cases op <;> rfl
theorem r_shrN [Wide F] {t u : TypeId} {x y : Operand} {k k' : IntKind} {a b : Nat} (hx : ev σ x = some (.int k (a : Int))) (hy : ev σ y = some (.int k' (b : Int))) (hb : b ≤ k.bits) (hdN : Nat.blt d N = true)
    (h : J N ds w0 W ((d, .int k ((a / 2 ^ b : Nat) : Int)) :: σ) H K) : OJ F n P N ds w0 W σ H ⟨some d, .binOp .shr t x y u, ty, pos, aft, gd⟩ K Q :=
  r_shr hx hy (by omega) hdN (by
    rw [Int.toNat_natCast, Nat.min_eq_left hb, Int.fdiv_eq_ediv_of_nonneg _ (Int.le_of_lt (Int.pow_pos (by decide)))]
    have e : ((a : Int) / 2 ^ b) = ((a / 2 ^ b : Nat) : Int) := by push_cast; rfl
    rw [e]; exact h)
theorem r_neB [Wide F] {t u : TypeId} {x y : Operand} {p q : Bool} [Und P t .bool] (hx : ev σ x = some (.bool p)) (hy : ev σ y = some (.bool q)) (hdN : Nat.blt d N = true)
    (h : J N ds w0 W ((d, .bool (!(p == q))) :: σ) H K) : OJ F n P N ds w0 W σ H ⟨some d, .binOp .neq t x y u, ty, pos, aft, gd⟩ K Q :=
  o_val (by simp) rfl hdN (fun a w ha _ => by
    have := run_neqB w p q (Und.h (P := P) (t := t))
    simp only [execOp, ha.eval hx, ha.eval hy, Sem.run_bind, run_guardB, Result.andThen_ok, this, Sem.run_pure]) h
theorem r_not [Wide F] {t : TypeId} {x : Operand} {a : Bool} (hx : ev σ x = some (.bool a)) (hdN : Nat.blt d N = true)
    (h : J N ds w0 W ((d, .bool (!a)) :: σ) H K) : OJ F n P N ds w0 W σ H ⟨some d, .unOp .not t x, ty, pos, aft, gd⟩ K Q :=
  o_val (by simp) rfl hdN (fun a w ha _ => by simp [execOp, ha.eval hx, Op.unary]) h
theorem r_neg [Wide F] {t : TypeId} {x : Operand} {k : IntKind} {a : Int} (hx : ev σ x = some (.int k a)) (hdN : Nat.blt d N = true)
    (h : J N ds w0 W ((d, .int k (k.wrap (0 - a))) :: σ) H K) : OJ F n P N ds w0 W σ H ⟨some d, .unOp .neg t x, ty, pos, aft, gd⟩ K Q :=
  o_val (by simp) rfl hdN (fun a w ha _ => by simp [execOp, ha.eval hx, Op.unary, Op.intArith]) h
theorem r_conv [Wide F] {s t : TypeId} {x : Operand} {k k' : IntKind} {a : Int} {dd : TypeDesc} [Und P s dd] [Und P t (.int k')] (hx : ev σ x = some (.int k a)) (hdN : Nat.blt d N = true)
    (h : J N ds w0 W ((d, .int k' (k'.wrap a)) :: σ) H K) : OJ F n P N ds w0 W σ H ⟨some d, .convert s t x, ty, pos, aft, gd⟩ K Q :=
  o_val (by simp) rfl hdN (fun a w ha _ => by
    have h1 := Und.h (P := P) (t := s)
    have h2 := Und.h (P := P) (t := t)
    simp [execOp, ha.eval hx, convert, run_underlying h1, run_underlying h2, Conv.intToInt]) h
theorem r_conv_in [Wide F] {s t : TypeId} {x : Operand} {k k' : IntKind} {a : Int} {dd : TypeDesc} [Und P s dd] [Und P t (.int k')] (hx : ev σ x = some (.int k a)) (hc : InR k' a) (hdN : Nat.blt d N = true)
    (h : J N ds w0 W ((d, .int k' a) :: σ) H K) : OJ F n P N ds w0 W σ H ⟨some d, .convert s t x, ty, pos, aft, gd⟩ K Q :=
  r_conv hx hdN (by rw [wrap_in hc]; exact h)
theorem add_none (b o j : Nat) : (⟨b, o, none⟩ : Addr).add j = ⟨b, o + j, none⟩ := by unfold Addr.add; split <;> simp_all
theorem r_fieldAddr [Wide F] {s f off b q : Nat} {x : Operand} [hfa : Fa P s f off] (hx : ev σ x = some (.pointer (some ⟨b, q, none⟩))) (hdN : Nat.blt d N = true)
    (h : J N ds w0 W ((d, .pointer (some ⟨b, q + off, none⟩)) :: σ) H K) : OJ F n P N ds w0 W σ H ⟨some d, .fieldAddr s x f, ty, pos, aft, gd⟩ K Q :=
  o_val (by simp) rfl hdN (fun a w ha _ => by
    obtain ⟨fs, fld, i, h1, h2, h3, h4, h5⟩ := hfa.h
    simp [execOp, ha.eval hx, Instr.fieldAt, run_underlying h1, h2, Instr.sureAddr, fieldPlace, sizeOf, typeInfo, h3, h4, h5, add_none]) h
theorem r_extract [Wide F] {x : Operand} {i : Nat} {vs : Array Value} {v : Value} (hx : ev σ x = some (.tuple vs)) (hv : vs[i]? = some v) (hdN : Nat.blt d N = true)
    (h : J N ds w0 W ((d, v) :: σ) H K) : OJ F n P N ds w0 W σ H ⟨some d, .extract x i, ty, pos, aft, gd⟩ K Q :=
  o_val (by simp) rfl hdN (fun a w ha _ => by simp [execOp, ha.eval hx, Instr.extract, hv]) h
theorem r_makeFunc [Wide F] {fn : Fn} {first captured : Array Operand} {xs ys : Array Value} (hx : ∀ a, Tm N ds σ a → first.map a.eval = xs ∧ captured.map a.eval = ys) (hdN : Nat.blt d N = true)
    (h : J N ds w0 W ((d, .func fn xs ys) :: σ) H K) : OJ F n P N ds w0 W σ H ⟨some d, .makeFunc fn first captured, ty, pos, aft, gd⟩ K Q :=
  o_val (by simp) rfl hdN (fun a w ha _ => by
    obtain ⟨h1, h2⟩ := hx a ha
    have e1 : (Array.map (fun x => a.eval x) first) = xs := h1
    have e2 : (Array.map (fun x => a.eval x) captured) = ys := h2
    simp [execOp, Instr.makeFunc, e1, e2]) h
/-- len of a slice. -/
theorem r_len [Wide F] {x : Operand} {t e : TypeId} {A : Option Addr} {m c : Nat} [Und P t (.slice e)] (hx : ev σ x = some (.slice A m c)) (hdN : Nat.blt d N = true)
    (h : J N ds w0 W ((d, .int .i64 m) :: σ) H K) : OJ F n P N ds w0 W σ H ⟨some d, .call ⟨.builtin .len, #[x], #[t]⟩, ty, pos, aft, gd⟩ K Q :=
  o_val (by simp) rfl hdN (fun a w ha _ => by
    have h1 := Und.h (P := P) (t := t)
    simp [execOp, ha.eval hx, resolve, invoke, builtin, Builtin.len_, run_underlying h1, goInt]) h
theorem r_min [Wide F] {x y : Operand} {ts : Array TypeId} {k : IntKind} {p q : Int} (hx : ev σ x = some (.int k p)) (hy : ev σ y = some (.int k q)) (hdN : Nat.blt d N = true)
    (h : J N ds w0 W ((d, .int k (min p q)) :: σ) H K) : OJ F n P N ds w0 W σ H ⟨some d, .call ⟨.builtin .min, #[x, y], ts⟩, ty, pos, aft, gd⟩ K Q :=
  o_val (by simp) rfl hdN (fun a w ha _ => by
    have e : (if q < p then q else p) = min p q := by omega
    simp [execOp, ha.eval hx, ha.eval hy, resolve, invoke, builtin, Builtin.min_, Builtin.min2, e]) h
theorem r_indexAt [Wide F] {x y : Operand} {t e : TypeId} {b q m c sz bs : Nat} {z : Value} {k : IntKind} {v : Int} (i : Nat) [Und P t (.slice e)] [hI : Inf P e sz bs z] (hx : ev σ x = some (.slice (some ⟨b, q, none⟩) m c)) (hy : ev σ y = some (.int k v)) (hv : v = (i : Int)) (hi : i < m) (hdN : Nat.blt d N = true)
    (h : J N ds w0 W ((d, .pointer (some ⟨b, q + i * sz, none⟩)) :: σ) H K) : OJ F n P N ds w0 W σ H ⟨some d, .indexAddr t x y, ty, pos, aft, gd⟩ K Q :=
  o_val (by simp) rfl hdN (fun a w ha _ => by
    subst hv
    have h1 := Und.h (P := P) (t := t)
    obtain ⟨ii, h2, -, h3, -⟩ := hI.h
    simp [execOp, ha.eval hx, ha.eval hy, Instr.indexAt, run_underlying h1, asIntOf, sizeOf, typeInfo, h2, h3, hi, add_none]) h
/-- The address of a slice's element. -/
theorem r_indexAddr [Wide F] {x y : Operand} {t e : TypeId} {b q m c sz bs : Nat} {z : Value} {k : IntKind} {i : Nat} [Und P t (.slice e)] [hI : Inf P e sz bs z] (hx : ev σ x = some (.slice (some ⟨b, q, none⟩) m c)) (hy : ev σ y = some (.int k i)) (hi : i < m) (hdN : Nat.blt d N = true)
    (h : J N ds w0 W ((d, .pointer (some ⟨b, q + i * sz, none⟩)) :: σ) H K) : OJ F n P N ds w0 W σ H ⟨some d, .indexAddr t x y, ty, pos, aft, gd⟩ K Q :=
  o_val (by simp) rfl hdN (fun a w ha _ => by
    have h1 := Und.h (P := P) (t := t)
    obtain ⟨ii, h2, -, h3, -⟩ := hI.h
    simp [execOp, ha.eval hx, ha.eval hy, Instr.indexAt, run_underlying h1, asIntOf, sizeOf, typeInfo, h2, h3, hi, add_none]) h
end

instance : Wide Fence.wide := ⟨wd_wide⟩
instance {F : Fence} [h : Wide F] (l : Nat) : Wide (F.inRound l) := ⟨h.out.round l⟩
end Go.Proofs.Ytokoopdkofgabaa
