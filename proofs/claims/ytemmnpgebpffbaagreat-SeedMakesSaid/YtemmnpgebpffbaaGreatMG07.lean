import Derived.LoopNIn
import Derived.Laws.BitsAllLaws
import Derived.Test.YtemmnpgebpffbaaGreatMG06
set_option linter.unusedVariables false
set_option linter.unusedSimpArgs false
/- The engine: a region that draws its order, in which several operations that turn memory have no order among them. -/
namespace Go.Proofs.YtemmnpgebpffbaaGreat
open Go.RowKit

/-- A step that yields v and leaves the world, in any world of these. -/
class LV (P : Program) (w0 : World) (W : Nat → Prop) (H : List HE) (op : Op) (vs : List Value) (v : outParam Value) (c : outParam Prop) : Prop where
  h : c → ∀ (ρ : Operand → Value) (o : Oper), o.op = op → op.operands.toList.map ρ = vs → ∀ w, St w0 W H w → (execOp ρ o).run P w = .ok (.value v) w
section
variable {P : Program} {w0 : World} {W : Nat → Prop} {H : List HE}
instance (priority := 50) (op : Op) (vs : List Value) (v : Value) (c : Prop) [h : PV P op vs v c] : LV P w0 W H op vs v c := ⟨fun hc ρ o e hv w _ => h.h hc ρ o e hv w⟩
theorem lv_load {t : TypeId} {dd : TypeDesc} {x : Operand} {b q : Nat} {v : Value} [Und P t dd] (ha : aggB dd = false) (hc : Cell w0 W H b q v) : ∀ (ρ : Operand → Value) (o : Oper), o.op = .load t x → (Op.load t x).operands.toList.map ρ = [.pointer (some ⟨b, q, none⟩)] → ∀ w, St w0 W H w → (execOp ρ o).run P w = .ok (.value v) w := by
  rintro ρ ⟨dst, op', ty, pos, aft, gd⟩ rfl h w hw
  simp [execOp, map1 h, Instr.loadAt, Instr.sureAddr, run_loadPlain (Und.h (P := P) (t := t)) ha (hc w hw)]
theorem lv_loadAgg {t sz bs : Nat} {z : Value} {dd : TypeDesc} {x : Operand} {b q : Nat} {cs : List Value} [Und P t dd] [Inf P t sz bs z] (ha : aggB dd = true) (hc : Range w0 W H b q cs) (hl : cs.length = sz) : ∀ (ρ : Operand → Value) (o : Oper), o.op = .load t x → (Op.load t x).operands.toList.map ρ = [.pointer (some ⟨b, q, none⟩)] → ∀ w, St w0 W H w → (execOp ρ o).run P w = .ok (.value (.agg cs.toArray)) w := by
  rintro ρ ⟨dst, op', ty, pos, aft, gd⟩ rfl h w hw
  have hr : dd.isRow = true := by cases dd <;> simp_all [aggB]
  have := run_loadAt_mid (P := P) w b q t cs dd (hc w hw) (Und.h (P := P) (t := t)) hr (by rw [hl]; exact Inf.size)
  simp [execOp, map1 h, this]
instance (priority := 100) (t tb b q : Nat) (dd : TypeDesc) (x : Operand) (v : Value) (cs : List Value) (k : HE → List HE) [Und P t dd] [hd : NoAgg dd] [h : At b H tb cs k] [hg : Get cs q v] : LV P w0 W H (.load t x) [.pointer (some ⟨b, q, none⟩)] v True :=
  ⟨fun _ => let ⟨_, h4, _⟩ := h.h; lv_load (t := t) hd.h (Cell.blk h4 hg.h)⟩
instance (priority := 100) (t tb b q sz bs : Nat) (z : Value) (dd : TypeDesc) (x : Operand) (o cs : List Value) (k : HE → List HE) [Und P t dd] [hd : YesAgg dd] [Inf P t sz bs z] [h : At b H tb cs k] [hg : Cut cs q sz o] : LV P w0 W H (.load t x) [.pointer (some ⟨b, q, none⟩)] (.agg o.toArray) True :=
  ⟨fun _ => let ⟨_, h4, _⟩ := h.h; lv_loadAgg (t := t) hd.h (Range.cut h4 hg.h.1) hg.h.2⟩
instance (priority := 50) (t b q m c e s : Nat) (dd : TypeDesc) (x : Operand) (v : Value) (p : Prop) (xs : List Value) (k : HE → List HE) [Und P t dd] [hd : NoAgg dd] [h : AtRow b H m c e s xs k] [hg : Elem xs q v p] : LV P w0 W H (.load t x) [.pointer (some ⟨b, q, none⟩)] v p :=
  ⟨fun hc => let ⟨_, h4, _⟩ := h.h; lv_load (t := t) hd.h (Cell.row h4 (hg.h hc))⟩
instance (priority := 30) (t b q : Nat) (dd : TypeDesc) (x : Operand) (v : Value) (p : Prop) [Und P t dd] [hd : NoAgg dd] [hr : RoGet w0 W b q v p] : LV P w0 W H (.load t x) [.pointer (some ⟨b, q, none⟩)] v p :=
  ⟨fun hc => let ⟨e1, e2, e3⟩ := hr.h hc; lv_load (t := t) hd.h (Cell.old e1 e2 e3)⟩
instance (s f off b q r : Nat) (x : Operand) [hfa : Fa P s f off] [hr : NAdd q off r] : LV P w0 W H (.fieldAddr s x f) [.pointer (some ⟨b, q, none⟩)] (.pointer (some ⟨b, r, none⟩)) True := ⟨by
  rintro _ ρ ⟨dst, op', ty, pos, aft, gd⟩ rfl h w _
  obtain ⟨fs, fld, i, h1, h2, h3, h4, h5⟩ := hfa.h
  rw [← hr.h]
  simp [execOp, map1 h, Instr.fieldAt, run_underlying h1, h2, Instr.sureAddr, fieldPlace, sizeOf, typeInfo, h3, h4, h5, add_none]⟩
instance (priority := 100) (x y : Operand) (t e b q m c sz bs j r r' : Nat) (z : Value) (k : IntKind) [hu : Und P t (.slice e)] [hI : Inf P e sz bs z] [hm : NMul j sz r] [hr : NAdd q r r'] : LV P w0 W H (.indexAddr t x y) [.slice (some ⟨b, q, none⟩) m c, .int k (j : Int)] (.pointer (some ⟨b, r', none⟩)) (j < m) := ⟨by
  rintro hi ρ ⟨dst, op', ty, pos, aft, gd⟩ rfl h w _
  obtain ⟨hx, hy⟩ := map2 h
  have h1 := hu.h
  obtain ⟨ii, h2, -, h3, -⟩ := hI.h
  rw [← hr.h, ← hm.h]
  simp [execOp, hx, hy, Instr.indexAt, run_underlying h1, asIntOf, sizeOf, typeInfo, h2, h3, hi, add_none]⟩
instance (x : Operand) (p : Addr) : LV P w0 W H (.nilCheck x) [.pointer (some p)] (.pointer (some p)) True := ⟨by
  rintro _ ρ ⟨dst, op', ty, pos, aft, gd⟩ rfl h w _
  simp [execOp, map1 h, Instr.sureAddr]⟩
end
/-- An operation that yields v, in any of these worlds. -/
def LQ (P : Program) (w0 : World) (W : Nat → Prop) (H : List HE) (σ : List (Nat × Value)) (o : Oper) (v : Value) : Prop :=
  ∀ ρ : Operand → Value, (∀ x ∈ o.op.operands.toList, ∀ u, ev σ x = some u → ρ x = u) → ∀ w, St w0 W H w → (execOp ρ o).run P w = .ok (.value v) w
theorem lq_of {P : Program} {w0 : World} {W : Nat → Prop} {H : List HE} {σ : List (Nat × Value)} {o : Oper} {vs : List Value} {v : Value} {c : Prop} [hp : LV P w0 W H o.op vs v c] (hv : vals σ o.op.operands.toList = some vs) (hc : c) : LQ P w0 W H σ o v := by
  intro ρ h w hw
  refine hp.h hc ρ o rfl ?_ w hw
  have key : ∀ (l : List Operand) (vs : List Value), vals σ l = some vs → (∀ x ∈ l, ∀ u, ev σ x = some u → ρ x = u) → l.map ρ = vs := by
    intro l
    induction l with
    | nil => intro vs hv _; simp [vals] at hv; simp [hv]
    | cons x r ih =>
      intro vs hv h
      simp only [vals] at hv
      cases hx : ev σ x with
      | none => simp [hx] at hv
      | some u =>
        cases hr : vals σ r with
        | none => simp [hx, hr] at hv
        | some us =>
          simp [hx, hr] at hv
          subst hv
          rw [List.map_cons, h x (List.mem_cons_self ..) u hx, ih us hr fun y hy => h y (List.mem_cons_of_mem _ hy)]
  exact key _ _ hv h
/-- Light operations, in the text's order. -/
def HdL (P : Program) (N : Nat) (w0 : World) (W : Nat → Prop) (HL : List HE) (ops : Array Oper) : List Oper → List (Nat × Value) → (List (Nat × Value) → Prop) → Prop
  | [], σ, T => T σ
  | o :: rest, σ, T => ∃ d v, o.dst = some d ∧ d < N ∧ ((wantd ops σ o = some true ∧ LQ P w0 W HL σ o v) ∨ (wantd ops σ o = some false ∧ v = undef)) ∧ HdL P N w0 W HL ops rest ((d, v) :: σ) T
section
variable {P : Program} {N : Nat} {w0 : World} {W : Nat → Prop} {HL : List HE} {ops : Array Oper} {σ : List (Nat × Value)} {T : List (Nat × Value) → Prop}
theorem x_nil (h : T σ) : HdL P N w0 W HL ops [] σ T := h
theorem x_run {rest : List Oper} {d : Nat} {op : Op} {ty : TypeId} {pos : String} {aft : Array Edge} {gd : Option (Nat × Bool)} {vs : List Value} {v : Value} {c : Prop}
    (hw : wantd ops σ ⟨some d, op, ty, pos, aft, gd⟩ = some true) (hv : vals σ op.operands.toList = some vs) [hp : LV P w0 W HL op vs v c] (hdN : Nat.blt d N = true) (hc : c) (h : HdL P N w0 W HL ops rest ((d, v) :: σ) T) : HdL P N w0 W HL ops (⟨some d, op, ty, pos, aft, gd⟩ :: rest) σ T :=
  ⟨d, v, rfl, by simpa using hdN, .inl ⟨hw, lq_of (vs := vs) (c := c) hv hc⟩, h⟩
theorem x_skip {rest : List Oper} {d : Nat} {o : Oper} (hd : o.dst = some d) (hdN : Nat.blt d N = true) (hw : wantd ops σ o = some false) (h : HdL P N w0 W HL ops rest ((d, undef) :: σ) T) : HdL P N w0 W HL ops (o :: rest) σ T :=
  ⟨d, undef, hd, by simpa using hdN, .inr ⟨hw, rfl⟩, h⟩
end
theorem lq_ext {P : Program} {w0 : World} {W : Nat → Prop} {HL : List HE} {σ τ : List (Nat × Value)} {o : Oper} {v : Value} (he : ∀ t, look σ t = look τ t) (h : LQ P w0 W HL σ o v) : LQ P w0 W HL τ o v := fun ρ hρ w hw => h ρ (fun x hx u hu => hρ x hx u (by cases x <;> simp only [ev] at hu ⊢ <;> first | (rw [← he]; exact hu) | exact hu)) w hw
theorem HdL.ext {P : Program} {N : Nat} {w0 : World} {W : Nat → Prop} {HL : List HE} {ops : Array Oper} {ds : List Deferred} {H : List HE} {k : Act → World → Prop} : ∀ (l : List Oper) (σ τ : List (Nat × Value)), (∀ t, look σ t = look τ t) → HdL P N w0 W HL ops l σ (fun τ => J N ds w0 W τ H k) → HdL P N w0 W HL ops l τ (fun τ => J N ds w0 W τ H k)
  | [], _, _, he, h => J.ext he h
  | o :: rest, σ, τ, he, h => by
    obtain ⟨d, v, hd, hdN, hq, hr⟩ := h
    refine ⟨d, v, hd, hdN, ?_, HdL.ext rest _ _ (look_ext he d v) hr⟩
    rcases hq with ⟨h1, h2⟩ | ⟨h1, h2⟩
    · exact .inl ⟨by rw [← wantd_ext he]; exact h1, lq_ext he h2⟩
    · exact .inr ⟨by rw [← wantd_ext he]; exact h1, h2⟩
theorem x_case {P : Program} {N : Nat} {w0 : World} {W : Nat → Prop} {HL : List HE} {ops : Array Oper} {ds : List Deferred} {H : List HE} {k : Act → World → Prop} {l : List Oper} {σ : List (Nat × Value)} (t : Nat) {c : Bool} (hl : look σ t = some (.bool c)) (ht : c = true → HdL P N w0 W HL ops l ((t, .bool true) :: σ) (fun τ => J N ds w0 W τ H k))
    (hf : c = false → HdL P N w0 W HL ops l ((t, .bool false) :: σ) (fun τ => J N ds w0 W τ H k)) : HdL P N w0 W HL ops l σ (fun τ => J N ds w0 W τ H k) := by
  cases c with
  | true => exact HdL.ext l _ _ (look_set hl) (ht rfl)
  | false => exact HdL.ext l _ _ (look_set hl) (hf rfl)
theorem x_set {P : Program} {N : Nat} {w0 : World} {W : Nat → Prop} {HL : List HE} {ops : Array Oper} {ds : List Deferred} {H : List HE} {k : Act → World → Prop} {l : List Oper} {σ : List (Nat × Value)} (t : Nat) (v : Value) (hl : look σ t = some v) {v' : Value} (e : v = v') (h : HdL P N w0 W HL ops l ((t, v') :: σ) (fun τ => J N ds w0 W τ H k)) : HdL P N w0 W HL ops l σ (fun τ => J N ds w0 W τ H k) := by
  subst e
  exact HdL.ext l _ _ (look_set hl) h
/-- All light operations come ahead of this one. -/
def litB (ops : Array Oper) (mask : List Bool) (i : Nat) : Bool := (List.range ops.size).all fun j => !mAt mask j || edgeB ops i j
/-- Heavy operations, in each order that may be. -/
def wpT (F : Fence) (n : Nat) (P : Program) (w0 : World) (W : Nat → Prop) (HL : List HE) (ops : Array Oper) (mask : List Bool) (Q : Exit → Act → World → Prop) : Nat → List Nat → Act → World → Prop
  | 0, _, b, w => Q .normal b w
  | m + 1, rest, b, w => (rest = [] → Q .normal b w) ∧ ∀ i ∈ rest, (∀ j ∈ rest, edgeB ops i j = false) → wpListIn F n P ops (nq fun _ b' w' => (litB ops mask i = true ∨ St w0 W HL w') ∧ wpT F n P w0 W HL ops mask Q m (rest.erase i) b' w') (opsAt ops [i]) b w
theorem wpT_nil {F : Fence} {n : Nat} {P : Program} {w0 : World} {W : Nat → Prop} {HL : List HE} {ops : Array Oper} {mask : List Bool} {Q : Exit → Act → World → Prop} {m : Nat} {b : Act} {w : World} (h : wpT F n P w0 W HL ops mask Q m [] b w) : Q .normal b w := by
  cases m with
  | zero => exact h
  | succ m => exact h.1 rfl
def maskOkX (ops : Array Oper) (mask : List Bool) : Bool :=
  mask.length == ops.size &&
  ((List.range ops.size).all fun i => backB ops i) &&
  ((List.range ops.size).all fun i => match ops[i]? with
    | none => true
    | some o => plainB o && ((List.range ops.size).all fun j => match dstAt ops j with
        | none => true
        | some d => (match mAt mask i || mAt mask j, Nat.beq i j with | true, false => o.dst != some d | _, _ => true) &&
            (!(o.looksAt ops).contains d || (match mAt mask i, mAt mask j with
              | _, true => Nat.blt j i && edgeB ops i j
              | true, false => false
              | false, false => true))) &&
        (!mAt mask i || o.dst.isSome))
theorem HdL.vals {P : Program} {N : Nat} {w0 : World} {W : Nat → Prop} {HL : List HE} {ops : Array Oper} {T : List (Nat × Value) → Prop} : ∀ (l : List Oper) (σ : List (Nat × Value)), HdL P N w0 W HL ops l σ T →
    ∃ (vs : List (Nat × Value)), vs.length = l.length ∧ T (vs.reverse ++ σ) ∧ ∀ k o, l[k]? = some o → ∃ d v, vs[k]? = some (d, v) ∧ o.dst = some d ∧ d < N ∧
      ((wantd ops ((vs.take k).reverse ++ σ) o = some true ∧ LQ P w0 W HL ((vs.take k).reverse ++ σ) o v) ∨ (wantd ops ((vs.take k).reverse ++ σ) o = some false ∧ v = undef))
  | [], σ, h => ⟨[], rfl, h, by simp⟩
  | o :: rest, σ, h => by
    obtain ⟨d, v, hd, hdN, hq, hr⟩ := h
    obtain ⟨vs, h1, h2, h3⟩ := HdL.vals rest ((d, v) :: σ) hr
    refine ⟨(d, v) :: vs, by simp [h1], by simpa using h2, fun k o' hk => ?_⟩
    cases k with
    | zero =>
      simp at hk; subst hk
      exact ⟨d, v, rfl, hd, hdN, by simpa using hq⟩
    | succ k =>
      obtain ⟨d', v', e1, e2, e3, e4⟩ := h3 k o' (by simpa using hk)
      exact ⟨d', v', by simpa using e1, e2, e3, by simpa using e4⟩
theorem anyX {F : Fence} {n : Nat} {P : Program} {N : Nat} {w0 : World} {W : Nat → Prop} {HL : List HE} {Q : Exit → Act → World → Prop} {ops : Array Oper} {mask : List Bool} {V : Nat → Option (Nat × Value)} {L : Nat → Option Value} [hF : Wide F]
    (hback : ∀ i, backB ops i = true) (hplain : ∀ (i : Nat) (o : Oper), ops[i]? = some o → plainB o = true)
    (hdst : ∀ (i j d : Nat), (mAt mask i = true ∨ mAt mask j = true) → i ≠ j → dstAt ops i = some d → dstAt ops j ≠ some d)
    (hlook : ∀ (i : Nat) (o : Oper) (j d : Nat), ops[i]? = some o → dstAt ops j = some d → d ∈ o.looksAt ops → (mAt mask j = true → j < i ∧ edgeB ops i j = true) ∧ (mAt mask i = true → mAt mask j = true))
    (hV : ∀ (i : Nat) (o : Oper), mAt mask i = true → ops[i]? = some o → ∃ d v, V i = some (d, v) ∧ o.dst = some d ∧ d < N ∧
      ∀ a : Act, (∀ t ∈ o.looksAt ops, ∀ u, L t = some u → a.tmps[t]? = some u) → (Region.wanted o (yielded ops a.tmps) = true ∧ ∀ w, St w0 W HL w → (execOp a.eval o).run P w = .ok (.value v) w) ∨ (Region.wanted o (yielded ops a.tmps) = false ∧ v = undef))
    (hVo : ∀ i d v, V i = some (d, v) → mAt mask i = true ∧ dstAt ops i = some d) :
    ∀ (fuel : Nat) (listed : Array Bool) (a b : Act) (w : World) (rest : List Nat) (m : Nat), undone listed ops.size ≤ fuel → listed.size = ops.size → (∀ j, j < ops.size → listed[j]? = some true ∨ listed[j]? = some false) →
      (∀ j ∈ rest, j < ops.size ∧ mAt mask j = false ∧ listed[j]? = some false) → (∀ j, j < ops.size → mAt mask j = false → listed[j]? = some false → j ∈ rest) → rest.Nodup → rest.length ≤ m → ((∀ j, j < ops.size → mAt mask j = true → listed[j]? = some true) ∨ St w0 W HL w) →
      Sim N ops mask V L listed a b → wpT F n P w0 W HL ops mask Q m rest b w → wpAnyIn F n P .any ops Q fuel listed a w := by
  have hready : ∀ (listed : Array Bool) (i j : Nat), i ∈ Region.ready .any ops listed → edgeB ops i j = true → (listed[j]? = some true ∨ listed[j]? = some false) → listed[j]? = some true := by
    intro listed i j hi he hl
    obtain ⟨-, o, hio, hie⟩ := mem_ready.1 hi
    unfold edgeB at he
    rw [hio] at he
    simp only [Array.any_eq_true'] at he
    obtain ⟨e, hemem, hee⟩ := he
    simp only [Bool.and_eq_true, beq_iff_eq] at hee
    have := hie e hemem hee.1
    rw [hee.2] at this
    rcases hl with e1 | e1
    · exact e1
    · rw [getD_of_some e1] at this; cases this
  intro fuel
  induction fuel with
  | zero =>
    intro listed a b w rest m hu hsz hl hr1 hr2 hnd hmm hst hsim hwp
    have hall := undone_zero hl (by omega)
    have hrest : rest = [] := by
      cases rest with
      | nil => rfl
      | cons x r => have := hr1 x (List.mem_cons_self ..); rw [hall x this.1] at this; cases this.2.2
    subst hrest
    have hab : a = b := by
      have h1 : a.tmps = b.tmps := Array.ext_getElem? fun t => hsim.ag t fun j d _ hd hf => by
        have hjs : j < ops.size := by
          unfold dstAt at hd
          cases ho : ops[j]? with
          | none => simp [ho] at hd
          | some o => exact (Array.getElem?_eq_some_iff.1 ho).1
        rw [hall j hjs] at hf; cases hf
      cases a; cases b; simp at h1; have := hsim.df; simp at this; simp [h1, this]
    subst hab
    have hrd : Region.ready .any ops listed = [] := by
      apply List.eq_nil_iff_forall_not_mem.2
      intro j hj
      obtain ⟨hj1, o, ho, -⟩ := mem_ready.1 hj
      have hjs : j < ops.size := (Array.getElem?_eq_some_iff.1 ho).1
      rw [getD_of_some (hall j hjs)] at hj1
      cases hj1
    exact ⟨hrd, wpT_nil hwp⟩
  | succ fuel ih =>
    intro listed a b w rest m hu hsz hl hr1 hr2 hnd hmm hst hsim hwp
    refine ⟨fun hrd => ?_, fun i hi => ?_⟩
    · have hall : ∀ j, j < ops.size → listed[j]? = some true := by
        intro j hj
        rcases hl j hj with e | e
        · exact e
        · exfalso
          obtain ⟨x, hx1, hx2, hx3⟩ := exists_min (p := fun j => listed[j]? = some false) ops.size ⟨j, hj, e⟩
          have := ready_first (ops := ops) (listed := listed) hx1 (hback x) hx2 (fun y hy => (hl y (by omega)).resolve_right (hx3 y hy))
          rw [hrd] at this
          cases this
      have hrest : rest = [] := by
        cases rest with
        | nil => rfl
        | cons x r => have := hr1 x (List.mem_cons_self ..); rw [hall x this.1] at this; cases this.2.2
      subst hrest
      have hab : a = b := by
        have h1 : a.tmps = b.tmps := Array.ext_getElem? fun t => hsim.ag t fun j d _ hd hf => by
          have hjs : j < ops.size := by
            unfold dstAt at hd
            cases ho : ops[j]? with
            | none => simp [ho] at hd
            | some o => exact (Array.getElem?_eq_some_iff.1 ho).1
          rw [hall j hjs] at hf; cases hf
        cases a; cases b; simp at h1; have := hsim.df; simp at this; simp [h1, this]
      subst hab
      exact wpT_nil hwp
    · obtain ⟨hiu, o, hio, -⟩ := mem_ready.1 hi
      have his : i < ops.size := (Array.getElem?_eq_some_iff.1 hio).1
      have hifalse : listed[i]? = some false := by
        rcases hl i his with e | e
        · rw [getD_of_some e] at hiu; cases hiu
        · exact e
      have hus := undone_set his hifalse
      have hl' : ∀ j, j < ops.size → (listed.setIfInBounds i true)[j]? = some true ∨ (listed.setIfInBounds i true)[j]? = some false := by
        intro j hj
        rw [Array.getElem?_setIfInBounds]
        split
        · rw [if_pos (by omega)]; exact .inl rfl
        · exact hl j hj
      have hset : ∀ j, (listed.setIfInBounds i true)[j]? = some false → j ≠ i ∧ listed[j]? = some false := by
        intro j hj
        rw [Array.getElem?_setIfInBounds] at hj
        by_cases e : i = j
        · rw [if_pos e, if_pos (by omega)] at hj; cases hj
        · rw [if_neg e] at hj; exact ⟨fun e' => e e'.symm, hj⟩
      have hset2 : ∀ j, j ≠ i → listed[j]? = some false → (listed.setIfInBounds i true)[j]? = some false := by
        intro j hj h
        rw [Array.getElem?_setIfInBounds, if_neg (fun e => hj e.symm)]; exact h
      have hset3 : ∀ j : Nat, listed[j]? = some true → (listed.setIfInBounds i true)[j]? = some true := by
        intro j h
        rw [Array.getElem?_setIfInBounds]
        split
        · rw [if_pos (by omega)]
        · exact h
      have hagree : ∀ t ∈ o.looksAt ops, a.tmps[t]? = b.tmps[t]? := by
        intro t ht
        refine hsim.ag t fun j d hmj hdj hfj e => ?_
        subst e
        have hjs : j < ops.size := by
          unfold dstAt at hdj
          cases ho : ops[j]? with
          | none => simp [ho] at hdj
          | some o => exact (Array.getElem?_eq_some_iff.1 ho).1
        have := hready listed i j hi ((hlook i o j d hio hdj ht).1 hmj).2 (hl j hjs)
        rw [hfj] at this; cases this
      refine wpOpIn_step hio fun K' hK' => ?_
      have hnd' : ∀ c, o.op ≠ .defer c := by
        intro c e
        have := hplain i o hio
        unfold plainB at this; rw [e] at this; cases this
      by_cases hmi : mAt mask i = true
      · obtain ⟨d, v, hVi, hd, hdN, hex⟩ := hV i o hmi hio
        have hst1 : St w0 W HL w := hst.resolve_left fun h => by rw [h i his hmi] at hifalse; cases hifalse
        have hdi : dstAt ops i = some d := by simp [dstAt, hio, hd]
        have hsim' : Sim N ops mask V L (listed.setIfInBounds i true) (a.put (some d) v) b := by
          refine ⟨by simp [Act.put, hsim.sa], hsim.sb, by simp [Act.put, hsim.df], fun t ht => ?_, hsim.bv, hsim.ob⟩
          simp only [Act.put, Array.getElem?_setIfInBounds]
          by_cases e : d = t
          · subst e
            rw [if_pos rfl, if_pos (by rw [hsim.sa]; exact hdN), hsim.bv i d v hVi]
          · rw [if_neg e]
            refine hsim.ag t fun j d' hmj hdj hfj => ?_
            by_cases hji : j = i
            · subst hji; rw [hdi] at hdj; injection hdj with hdj; subst hdj; exact e
            · exact ht j d' hmj hdj (hset2 j hji hfj)
        have hnext : K' (a.put (some d) v) w := hK' _ _ (ih _ _ b w rest m (by omega) (by simpa using hsz) hl' (fun j hj => by
          obtain ⟨q1, q2, q3⟩ := hr1 j hj
          exact ⟨q1, q2, hset2 j (fun e => by subst e; rw [hmi] at q2; cases q2) q3⟩) (fun j hj hm hf => hr2 j hj hm (hset j hf).2) hnd hmm (.inr hst1) hsim' hwp)
        rcases hex a (fun t ht u hu => by
          rw [hagree t ht]
          exact hsim.ob t u hu fun k hk hdk => by
            have := (hlook i o k t hio hdk ht).2 hmi
            rw [hk] at this; cases this) with ⟨hw1, hrun⟩ | ⟨hw1, hv⟩
        · rw [if_pos hw1]
          refine ⟨fun f _ => hF.out.fn f, ?_⟩
          rw [Oper.semAt_plain F _ _ hnd', hrun w hst1, Oper.uponIn_value, hd]
          exact hnext
        · rw [hw1]
          simp only [Bool.false_eq_true, if_false]
          refine ⟨fun f _ => hF.out.fn f, ?_⟩
          rw [hd, ← hv]
          exact hnext
      · have hmi' : mAt mask i = false := by simpa using hmi
        have hir : i ∈ rest := hr2 i his hmi' hifalse
        cases m with
        | zero => exact absurd (List.length_pos_of_mem hir) (by omega)
        | succ m =>
          have hwp := hwp.2 i hir (fun j hj => by
            cases he : edgeB ops i j with
            | false => rfl
            | true =>
              have hj1 := hr1 j hj
              have := hready listed i j hi he (hl j hj1.1)
              rw [hj1.2.2] at this; cases this)
          have hopsAt : opsAt ops [i] = [o] := by simp [opsAt, hio]
          rw [hopsAt] at hwp
          have hwt : Region.wanted o (yielded ops a.tmps) = Region.wanted o (yielded ops b.tmps) := by
            unfold Region.wanted
            cases hg : o.guard with
            | none => rfl
            | some g =>
              obtain ⟨j, c⟩ := g
              simp only [yielded]
              cases hj : (ops[j]?).bind (·.dst) with
              | none => rfl
              | some t =>
                have : t ∈ o.looksAt ops := by
                  unfold Oper.looksAt
                  rw [hg]
                  exact List.mem_append_right _ (by simp [hj])
                simp only [Option.bind_some, hagree t this]
          have hev : execOp a.eval o = execOp b.eval o := by
            refine execOp_congr o (fun cs c e => ?_) fun x hx => eval_of fun t e => ?_
            · have := hplain i o hio
              unfold plainB at this; rw [e] at this; cases this
            · subst e
              exact hagree t (List.mem_append_left _ (List.mem_filterMap.2 ⟨.tmp t, by simpa using hx, rfl⟩))
          have hsimH : ∀ (a' b' : Act), a'.tmps = a.tmps → b'.tmps = b.tmps → a'.defers = b'.defers → ∀ v, Sim N ops mask V L (listed.setIfInBounds i true) (a'.put o.dst v) (b'.put o.dst v) := by
            intro a' b' ea eb ed v
            cases hd : o.dst with
            | none =>
              refine ⟨by simp [Act.put, ea, hsim.sa], by simp [Act.put, eb, hsim.sb], by simp [Act.put, ed], fun t ht => ?_, fun j d v hj => by simpa [Act.put, eb] using hsim.bv j d v hj, fun t u hu hk => by simpa [Act.put, eb] using hsim.ob t u hu hk⟩
              simp only [Act.put, ea, eb]
              exact hsim.ag t fun j d hmj hdj hfj => ht j d hmj hdj (hset2 j (fun e => by subst e; rw [hmi'] at hmj; cases hmj) hfj)
            | some d =>
              have hdi : dstAt ops i = some d := by simp [dstAt, hio, hd]
              refine ⟨by simp [Act.put, ea, hsim.sa], by simp [Act.put, eb, hsim.sb], by simp [Act.put, ed], fun t ht => ?_, fun j d' v' hj => ?_, fun t u hu hk => ?_⟩
              · simp only [Act.put, ea, eb, Array.getElem?_setIfInBounds, hsim.sa, hsim.sb]
                by_cases e : d = t
                · rw [if_pos e, if_pos e]
                · rw [if_neg e, if_neg e]
                  exact hsim.ag t fun j d hmj hdj hfj => ht j d hmj hdj (hset2 j (fun e => by subst e; rw [hmi'] at hmj; cases hmj) hfj)
              · simp only [Act.put, eb, Array.getElem?_setIfInBounds]
                have hne : d ≠ d' := by
                  obtain ⟨q1, q2⟩ := hVo j d' v' hj
                  intro e; subst e
                  exact hdst i j d (.inr q1) (fun e => by subst e; rw [hmi'] at q1; cases q1) hdi q2
                rw [if_neg hne]; exact hsim.bv j d' v' hj
              · simp only [Act.put, eb, Array.getElem?_setIfInBounds]
                have hne : d ≠ t := fun e => hk i hmi' (by rw [← e]; exact hdi)
                rw [if_neg hne]; exact hsim.ob t u hu hk
          have hnext : ∀ (a' b' : Act), a'.tmps = a.tmps → b'.tmps = b.tmps → a'.defers = b'.defers → ∀ v w', wpListIn F n P ops (nq fun _ b'' w'' => (litB ops mask i = true ∨ St w0 W HL w'') ∧ wpT F n P w0 W HL ops mask Q m (rest.erase i) b'' w'') [] (b'.put o.dst v) w' → K' (a'.put o.dst v) w' := by
            intro a' b' ea eb ed v w' hh
            obtain ⟨hst', hh⟩ := hh
            exact hK' _ _ (ih _ _ _ w' (rest.erase i) m (by omega) (by simpa using hsz) hl' (fun j hj => by
              have hj2 := (List.Nodup.mem_erase_iff hnd).1 hj
              obtain ⟨q1, q2, q3⟩ := hr1 j hj2.2
              exact ⟨q1, q2, hset2 j hj2.1 q3⟩) (fun j hj hm hf => by
              obtain ⟨q1, q2⟩ := hset j hf
              exact (List.Nodup.mem_erase_iff hnd).2 ⟨q1, hr2 j hj hm q2⟩) (hnd.erase i) (by have := List.length_erase_of_mem hir; have := List.length_pos_of_mem hir; omega) (hst'.imp (fun hlb j hj hm => by
              have he : edgeB ops i j = true := by
                have := List.all_eq_true.1 hlb j (List.mem_range.2 hj)
                rw [hm] at this
                simpa using this
              have h1 := hready listed i j hi he (hl j hj)
              exact (hset3 j h1)) id) (hsimH a' b' ea eb ed v) hh)
          simp only [wpListIn] at hwp
          rw [hwt]
          by_cases hw : Region.wanted o (yielded ops b.tmps) = true
          · rw [if_pos hw] at hwp ⊢
            refine ⟨fun f _ => hF.out.fn f, ?_⟩
            have h2 := hwp.2
            rw [Oper.semAt_plain F _ _ hnd', ← hev] at h2
            rw [Oper.semAt_plain F _ _ hnd']
            exact uponIn_sim h2 (fun v w' hh => hnext a b rfl rfl hsim.df v w' hh) (fun x w' hh => hnext { a with defers := x :: a.defers } { b with defers := x :: b.defers } rfl rfl (by simp [hsim.df]) undef w' hh)
          · rw [if_neg hw] at hwp ⊢
            exact ⟨fun f _ => hF.out.fn f, hnext a b rfl rfl hsim.df undef w hwp.2⟩
theorem c_drx {F : Fence} {n : Nat} {P : Program} {N : Nat} {ds : List Deferred} {w0 : World} {W : Nat → Prop} {σ : List (Nat × Value)} {H : List HE} {Q : Exit → Act → World → Prop} {id : Nat} {l : List Oper} (HL : List HE) (mask : List Bool) (rest : List Nat) [hF : Wide F]
    (hs : Sub HL H) (hrest : hvIdx l.toArray mask = rest) (hmx : P.follows .mixedOrders = true) (hok : maskOkX l.toArray mask = true)
    (h : HdL P N w0 W HL l.toArray (opsAt l.toArray (pvIdx l.toArray mask)) σ (fun τ => J N ds w0 W τ H (wpT F n P w0 W HL l.toArray mask Q rest.length rest))) : J N ds w0 W σ H ((Code.region id l.toArray true).wpIn F n P Q) := by
  subst hrest
  intro a w ha hst
  refine wpIn_region_any hmx ?_
  generalize l.toArray = ops at h hok
  unfold maskOkX at hok
  simp only [Bool.and_eq_true, beq_iff_eq] at hok
  obtain ⟨⟨hlen, hback0⟩, hall⟩ := hok
  have hback : ∀ i, backB ops i = true := by
    intro i
    rcases Nat.lt_or_ge i ops.size with hi | hi
    · exact List.all_eq_true.1 hback0 i (List.mem_range.2 hi)
    · unfold backB; rw [Array.getElem?_eq_none hi]
  have hmlt : ∀ i, mAt mask i = true → i < ops.size := by
    intro i hi
    rw [← hlen]
    unfold mAt at hi
    rcases Nat.lt_or_ge i mask.length with h1 | h1
    · exact h1
    · rw [List.getD_eq_getElem?_getD, List.getElem?_eq_none h1] at hi; cases hi
  have hdlt : ∀ j d, dstAt ops j = some d → j < ops.size := by
    intro j d hd
    unfold dstAt at hd
    cases ho : ops[j]? with
    | none => simp [ho] at hd
    | some o => exact (Array.getElem?_eq_some_iff.1 ho).1
  have hper : ∀ (i : Nat) (o : Oper), ops[i]? = some o → plainB o = true ∧ (mAt mask i = true → o.dst.isSome = true) ∧ ∀ (j d : Nat), dstAt ops j = some d →
      ((mAt mask i = true ∨ mAt mask j = true) → i ≠ j → o.dst ≠ some d) ∧ (d ∈ o.looksAt ops → (mAt mask j = true → j < i ∧ edgeB ops i j = true) ∧ (mAt mask i = true → mAt mask j = true)) := by
    intro i o ho
    have his : i < ops.size := (Array.getElem?_eq_some_iff.1 ho).1
    have h1 := List.all_eq_true.1 hall i (List.mem_range.2 his)
    rw [ho] at h1
    simp only [Bool.and_eq_true] at h1
    obtain ⟨⟨h2, h3⟩, h4⟩ := h1
    refine ⟨h2, fun hm => by rw [hm] at h4; simpa using h4, fun j d hd => ?_⟩
    have h5 := List.all_eq_true.1 h3 j (List.mem_range.2 (hdlt j d hd))
    rw [hd] at h5
    simp only [Bool.and_eq_true] at h5
    obtain ⟨h6, h7⟩ := h5
    refine ⟨fun hm hne => ?_, fun hlk => ?_⟩
    · have e1 : (mAt mask i || mAt mask j) = true := by rcases hm with e | e <;> simp [e]
      have e2 : Nat.beq i j = false := by
        cases hb : Nat.beq i j with
        | false => rfl
        | true => exact absurd (Nat.eq_of_beq_eq_true hb) hne
      rw [e1, e2] at h6
      simpa using h6
    · have e3 : (o.looksAt ops).contains d = true := by simpa using hlk
      rw [e3] at h7
      simp only [Bool.not_true, Bool.false_or] at h7
      refine ⟨fun hm => ?_, fun hm => ?_⟩
      · rw [hm] at h7
        simpa using h7
      · rw [hm] at h7
        cases hj : mAt mask j with
        | true => rfl
        | false => rw [hj] at h7; cases h7
  obtain ⟨vs, hvl, hT, hvs⟩ := HdL.vals _ _ h
  have hps : ∀ i ∈ pvIdx ops mask, i < ops.size := fun i hi => List.mem_range.1 (List.mem_filter.1 hi).1
  rw [opsAt_len _ hps] at hvl
  have hinc : (pvIdx ops mask).Pairwise (· < ·) := List.Pairwise.filter _ (List.pairwise_lt_range)
  have hget : ∀ k i : Nat, (pvIdx ops mask)[k]? = some i → ∃ o d v, ops[i]? = some o ∧ mAt mask i = true ∧ vs[k]? = some (d, v) ∧ o.dst = some d ∧ d < N ∧
      ((wantd ops ((vs.take k).reverse ++ σ) o = some true ∧ LQ P w0 W HL ((vs.take k).reverse ++ σ) o v) ∨ (wantd ops ((vs.take k).reverse ++ σ) o = some false ∧ v = undef)) := by
    intro k i hk
    have him : i ∈ pvIdx ops mask := List.mem_of_getElem? hk
    have his := hps i him
    have hoi : ops[i]? = some ops[i] := Array.getElem?_eq_getElem his
    obtain ⟨d, v, e1, e2, e3, e4⟩ := hvs k ops[i] (by rw [opsAt_get _ hps k i hk, hoi])
    exact ⟨ops[i], d, v, hoi, (List.mem_filter.1 him).2, e1, e2, e3, e4⟩
  have hkey : ∀ k : Nat, k < vs.length → ∃ i : Nat, (pvIdx ops mask)[k]? = some i := fun k hk => ⟨_, List.getElem?_eq_getElem (by omega)⟩
  have hdis : ∀ (k k' d : Nat) (v v' : Value), vs[k]? = some (d, v) → vs[k']? = some (d, v') → k = k' := by
    intro k k' d v v' h1 h2
    obtain ⟨i, hi⟩ := hkey k (List.getElem?_eq_some_iff.1 h1).1
    obtain ⟨i', hi'⟩ := hkey k' (List.getElem?_eq_some_iff.1 h2).1
    obtain ⟨o, d1, v1, q1, q2, q3, q4, -⟩ := hget k i hi
    obtain ⟨o', d2, v2, r1, r2, r3, r4, -⟩ := hget k' i' hi'
    rw [h1] at q3; injection q3 with q3; injection q3 with q3 _; subst q3
    rw [h2] at r3; injection r3 with r3; injection r3 with r3 _; subst r3
    apply Classical.byContradiction
    intro hne
    have hii : i ≠ i' := by
      intro e; subst e
      have hnd : (pvIdx ops mask).Nodup := pvNodup ops mask
      exact hne ((List.getElem?_inj (List.getElem?_eq_some_iff.1 hi).1 hnd).1 (by rw [hi, hi']))
    exact ((hper i o q1).2.2 i' d (by simp [dstAt, r1, r4])).1 (.inl q2) hii q4
  have hN : ∀ p ∈ vs.reverse, p.1 < N := by
    intro p hp
    obtain ⟨k, hk, hke⟩ := List.getElem_of_mem (List.mem_reverse.1 hp)
    obtain ⟨i, hi⟩ := hkey k hk
    obtain ⟨o, d, v, -, -, q3, -, q5, -⟩ := hget k i hi
    rw [List.getElem?_eq_getElem hk, hke] at q3; injection q3 with q3; subst q3; exact q5
  have hpos : ∀ i : Nat, mAt mask i = true → ∃ k : Nat, (pvIdx ops mask)[k]? = some i := by
    intro i hi
    have : i ∈ pvIdx ops mask := List.mem_filter.2 ⟨List.mem_range.2 (hmlt i hi), hi⟩
    obtain ⟨k, hk, hke⟩ := List.getElem_of_mem this
    exact ⟨k, by rw [List.getElem?_eq_getElem hk, hke]⟩
  have hlookv : ∀ (k d : Nat) (v : Value), vs[k]? = some (d, v) → look vs.reverse d = some v := by
    intro k d v hk
    cases hl : look vs.reverse d with
    | none => exact absurd (List.mem_reverse.2 (List.mem_of_getElem? hk)) (look_none hl v)
    | some u =>
      obtain ⟨k', hk', hke⟩ := List.getElem_of_mem (List.mem_reverse.1 (look_mem hl))
      have h2 : vs[k']? = some (d, u) := by rw [List.getElem?_eq_getElem hk', hke]
      have := hdis k k' d v u hk h2
      subst this
      rw [hk] at h2; injection h2 with h2; injection h2 with _ h2; rw [h2]
  let V : Nat → Option (Nat × Value) := fun i => if mAt mask i = true then (vs[(pvIdx ops mask).idxOf i]?) else none
  have hVk : ∀ (k i : Nat), (pvIdx ops mask)[k]? = some i → mAt mask i = true → V i = vs[k]? := by
    intro k i hk hm
    have hnd : (pvIdx ops mask).Nodup := pvNodup ops mask
    have : (pvIdx ops mask).idxOf i = k := by
      have hkl := (List.getElem?_eq_some_iff.1 hk).1
      have hmem := List.mem_of_getElem? hk
      exact (List.getElem?_inj (List.idxOf_lt_length_of_mem hmem) hnd).1 (by rw [List.getElem?_eq_getElem (List.idxOf_lt_length_of_mem hmem), List.getElem_idxOf, hk])
    simp only [V, if_pos hm, this]
  have hpa := fun t => putAll_at (N := N) vs.reverse (a := a) (t := t) hN ha.size
  refine anyX (N := N) (w0 := w0) (W := W) (HL := HL) (mask := mask) (V := V) (L := look (vs.reverse ++ σ)) hback (fun i o ho => (hper i o ho).1) (fun i j d hm hne hi hj => ?_) (fun i o j d ho hd hl => ((hper i o ho).2.2 j d hd).2 hl) ?_ ?_ ops.size (Array.replicate ops.size false) a (putAll vs.reverse a) _ (hvIdx ops mask) (hvIdx ops mask).length ?_ (by simp) (fun j hj => .inr (by simp [hj])) ?_ ?_ (hvNodup ops mask) (Nat.le_refl _) (.inr (hst.sub hs).drew) ?_ (hT _ _ (putAll_tm vs.reverse hN ha) hst.drew)
  · have his := hdlt i d hi
    have hoi : ops[i]? = some ops[i] := Array.getElem?_eq_getElem his
    have := ((hper i ops[i] hoi).2.2 j d hj).1 hm hne
    simp only [dstAt, hoi, Option.bind_some] at hi
    exact absurd hi this
  · intro i o hm ho
    obtain ⟨k, hk⟩ := hpos i hm
    obtain ⟨o', d, v, q1, -, q3, q4, q5, q6⟩ := hget k i hk
    rw [ho] at q1; injection q1 with q1; subst q1
    refine ⟨d, v, by rw [hVk k i hk hm, q3], q4, q5, fun a' ha' => ?_⟩
    have hsub : ∀ t ∈ o.looksAt ops, ∀ u, look ((vs.take k).reverse ++ σ) t = some u → a'.tmps[t]? = some u := by
      intro t ht u hu
      refine ha' t ht u ?_
      have e : vs.reverse = (vs.drop k).reverse ++ (vs.take k).reverse := by rw [← List.reverse_append, List.take_append_drop]
      rw [e, List.append_assoc, look_append, look_out, Option.none_or]
      · exact hu
      · intro p hp e'
        obtain ⟨j, hj, hje⟩ := List.getElem_of_mem (List.mem_reverse.1 hp)
        have hvj : vs[k + j]? = some (t, p.2) := by
          rw [← List.getElem?_drop, List.getElem?_eq_getElem hj, hje, ← e']
        obtain ⟨i', hi'⟩ := hkey (k + j) (List.getElem?_eq_some_iff.1 hvj).1
        obtain ⟨o2, d2, v2, r1, r2, r3, r4, -⟩ := hget (k + j) i' hi'
        rw [hvj] at r3; injection r3 with r3; injection r3 with r3 _; subst r3
        have hlt := (((hper i o ho).2.2 i' t (by simp [dstAt, r1, r4])).2 ht).1 r2
        rcases Nat.eq_zero_or_pos j with h0 | h0
        · subst h0
          rw [Nat.add_zero, hk] at hi'; injection hi' with hi'; omega
        · have := List.pairwise_iff_getElem.1 hinc k (k + j) (List.getElem?_eq_some_iff.1 hk).1 (List.getElem?_eq_some_iff.1 hi').1 (by omega)
          rw [(List.getElem?_eq_some_iff.1 hk).2, (List.getElem?_eq_some_iff.1 hi').2] at this
          omega
    rcases q6 with ⟨q6, q7⟩ | ⟨q6, q7⟩
    · refine .inl ⟨wanted_at hsub q6, fun w' hw' => q7 _ (fun x hx u hu => ?_) w' hw'⟩
      cases x with
      | tmp t =>
        have := hsub t (List.mem_append_left _ (List.mem_filterMap.2 ⟨.tmp t, hx, rfl⟩)) u hu
        simp [Act.eval, this]
      | const u => simpa [ev, Act.eval] using hu
      | global g => simpa [ev, Act.eval] using hu
      | func f => simpa [ev, Act.eval] using hu
    · exact .inr ⟨wanted_at hsub q6, q7⟩
  · intro i d v hV
    simp only [V] at hV
    split at hV
    · rename_i hm
      obtain ⟨k, hk⟩ := hpos i hm
      have := hVk k i hk hm
      simp only [V, if_pos hm] at this
      rw [this] at hV
      obtain ⟨o', d', v', q1, -, q3, q4, -, -⟩ := hget k i hk
      rw [hV] at q3; injection q3 with q3; injection q3 with q3 _; subst q3
      exact ⟨hm, by simp [dstAt, q1, q4]⟩
    · cases hV
  · unfold undone
    exact Nat.le_trans (List.length_filter_le _ _) (by simp)
  · intro j hj
    obtain ⟨q1, q2⟩ := List.mem_filter.1 hj
    have := List.mem_range.1 q1
    exact ⟨this, by simpa using q2, by simp [this]⟩
  · intro j hj hm _
    exact List.mem_filter.2 ⟨List.mem_range.2 hj, by simp [hm]⟩
  · refine ⟨ha.size, (hpa 0).2.1, (hpa 0).2.2.symm, fun t ht => ?_, fun j d v hV => ?_, fun t u hu _ => ?_⟩
    · rw [(hpa t).1, look_out, Option.none_or]
      intro p hp e
      obtain ⟨k, hk, hke⟩ := List.getElem_of_mem (List.mem_reverse.1 hp)
      obtain ⟨i, hi⟩ := hkey k hk
      obtain ⟨o, d, v, q1, q2, q3, q4, q5, -⟩ := hget k i hi
      rw [List.getElem?_eq_getElem hk, hke] at q3; injection q3 with q3; subst q3
      exact ht i d q2 (by simp [dstAt, q1, q4]) (by simp [hmlt i q2]) e
    · simp only [V] at hV
      split at hV
      · rename_i hm
        rw [(hpa d).1, hlookv _ d v hV]; rfl
      · cases hV
    · rw [(hpa t).1]
      rw [look_append] at hu
      cases hl : look vs.reverse t with
      | some u' => rw [hl] at hu; simpa using hu
      | none => rw [hl] at hu; exact ha.at_ t u (by simpa using hu)

def edgeL (ops : Array Oper) (j i : Nat) : Bool :=
  match ops.toList[j]? with
  | some o => o.after.toList.any fun e => Region.binds .any e && e.on == i
  | none => false
theorem edgeL_eq (ops : Array Oper) (j i : Nat) : edgeL ops j i = edgeB ops j i := by
  unfold edgeL edgeB
  rw [Array.getElem?_toList]
  cases ops[j]? with
  | none => rfl
  | some o => simp only [Array.any_toList]
section
variable {F : Fence} {n : Nat} {P : Program} {N : Nat} {ds : List Deferred} {w0 : World} {W : Nat → Prop} {σ : List (Nat × Value)} {H HL : List HE} {Q : Exit → Act → World → Prop} {ops : Array Oper} {mask : List Bool} {m : Nat} {rest : List Nat}
def AllP (p : Nat → Prop) : List Nat → Prop
  | [] => True
  | i :: r => p i ∧ AllP p r
theorem AllP.at_ {p : Nat → Prop} : ∀ {l : List Nat}, AllP p l → ∀ i ∈ l, p i
  | i :: _, h, j, hj => by
    rcases List.mem_cons.1 hj with rfl | hj
    · exact h.1
    · exact AllP.at_ h.2 j hj
theorem t_all (l : List Nat) (hne : rest.isEmpty = false) (hl : (rest.filter fun i => rest.all fun j => !edgeL ops i j) = l)
    (h : AllP (fun i => J N ds w0 W σ H (wpListIn F n P ops (nq fun _ b' w' => (litB ops mask i = true ∨ St w0 W HL w') ∧ wpT F n P w0 W HL ops mask Q m (rest.erase i) b' w') (opsAt ops [i]))) l) : J N ds w0 W σ H (wpT F n P w0 W HL ops mask Q (m + 1) rest) := by
  intro a w ha hw
  refine ⟨fun e => by rw [e] at hne; simp at hne, fun i hi hj => ?_⟩
  refine h.at_ i ?_ a w ha hw
  rw [← hl]
  exact List.mem_filter.2 ⟨hi, List.all_eq_true.2 fun j hj2 => by simp [edgeL_eq, hj j hj2]⟩
theorem allP_cons {p : Nat → Prop} {i : Nat} {r : List Nat} (h : p i) (g : AllP p r) : AllP p (i :: r) := ⟨h, g⟩
theorem allP_nil {p : Nat → Prop} : AllP p [] := trivial
theorem t_next {b : Bool} (hs : Sub HL H) {k : Act → World → Prop} (h : J N ds w0 W σ H k) : J N ds w0 W σ H (fun b' w' => (b = true ∨ St w0 W HL w') ∧ k b' w') :=
  fun a w ha hw => ⟨.inr (hw.sub hs), h a w ha hw⟩
/-- No light operation is left. -/
theorem t_last {i : Nat} (hb : litB ops mask i = true) {k : Act → World → Prop} (h : J N ds w0 W σ H k) : J N ds w0 W σ H (fun b' w' => (litB ops mask i = true ∨ St w0 W HL w') ∧ k b' w') :=
  fun a w ha hw => ⟨.inl hb, h a w ha hw⟩
theorem t_done (h : J N ds w0 W σ H (Q .normal)) : J N ds w0 W σ H (wpT F n P w0 W HL ops mask Q 0 rest) := h
/-- Which operations are light: those that only reckon or look, and wait for none that turns memory. -/
def litOp : Op → Bool
  | .move _ | .assign _ | .convert .. | .extract .. | .load .. | .fieldAddr .. | .indexAddr .. | .nilCheck _ | .index .. | .field .. => true
  | .binOp op .. => match op with | .add | .sub | .mul | .eql | .neq | .lss | .leq | .gtr | .geq | .shl | .shr | .quo | .rem | .and | .or | .xor => true | _ => false
  | .unOp op .. => match op with | .not | .neg => true | _ => false
  | .pick .. => true
  | .call ⟨.builtin .len, _, _⟩ => true
  | .call ⟨.builtin .min, _, _⟩ => true
  | .call ⟨.builtin .max, _, _⟩ => true
  | _ => false
def litMask (ops : Array Oper) : List Oper → Nat → List Nat → List Nat → List Bool
  | [], _, _, _ => []
  | o :: r, i, hv, hi => match litOp o.op && !((o.looksAt ops).any fun t => hv.contains t) && !(hi.any fun j => edgeL ops i j), o.dst with
    | true, some _ => true :: litMask ops r (i + 1) hv hi
    | _, some d => false :: litMask ops r (i + 1) (d :: hv) (i :: hi)
    | _, none => false :: litMask ops r (i + 1) hv (i :: hi)

end
end Go.Proofs.YtemmnpgebpffbaaGreat
/- The engine: rows of structs. -/
namespace Go.Proofs.YtemmnpgebpffbaaGreat
open Go.RowKit

/-- Rows of a table, one behind the other. -/
def flat {α : Type} (e : α → List Value) (l : List α) : List Value := (l.map e).flatten
/-- Each row has so many cells. -/
class RowE {α : Type} (e : α → List Value) (s : outParam Nat) : Prop where h : (∀ a, (e a).length = s) ∧ 0 < s
/-- Each cell of a row is a plain one. -/
class OneE {α : Type} (e : α → List Value) : Prop where h : ∀ a, ∀ u ∈ e a, u.oneCell' = true
/-- A row, from its cells. -/
class UnE {α : Type} (e : α → List Value) (vs : List Value) (x : outParam α) : Prop where h : e x = vs
section
variable {α : Type} {e : α → List Value} {s : Nat}
theorem flat_nil : flat e [] = [] := rfl
theorem flat_app (l r : List α) : flat e (l ++ r) = flat e l ++ flat e r := by simp [flat]
theorem flat_one (x : α) : flat e [x] = e x := by simp [flat]
theorem flat_len [h : RowE e s] : ∀ l : List α, (flat e l).length = l.length * s
  | [] => by simp [flat]
  | x :: r => by
    have e1 : flat e (x :: r) = e x ++ flat e r := by simp [flat]
    rw [e1, List.length_append, flat_len r, h.h.1 x, List.length_cons, Nat.add_mul]; omega
theorem flat_at [Inhabited α] [h : RowE e s] : ∀ (l : List α) (i k : Nat), i < l.length → k < s → (flat e l)[i * s + k]? = (e (l.getD i default))[k]?
  | [], i, k, hi, _ => by simp at hi
  | x :: r, i, k, hi, hk => by
    have e1 : flat e (x :: r) = e x ++ flat e r := by simp [flat]
    rw [e1]
    cases i with
    | zero => rw [List.getElem?_append_left (by rw [h.h.1]; omega)]; simp
    | succ i =>
      rw [List.getElem?_append_right (by rw [h.h.1, Nat.add_mul]; omega), h.h.1, show (i + 1) * s + k - s = i * s + k by rw [Nat.add_mul]; omega, flat_at r i k (by simpa using hi) hk]
      simp
instance (priority := 200) [Inhabited α] (l : List α) (i k : Nat) (v : Value) [h : RowE e s] [g : Get (e (l.getD i default)) k v] : Elem (flat e l) (i * s + k) v (i < l.length) := ⟨fun hi => by
  have hk : k < s := by rw [← h.h.1 (l.getD i default)]; exact (List.getElem?_eq_some_iff.1 g.h).1
  rw [flat_at l i k hi hk]; exact g.h⟩
instance (priority := 190) [Inhabited α] (l : List α) (i : Nat) (v : Value) [h : RowE e s] [g : Get (e (l.getD i default)) 0 v] : Elem (flat e l) (i * s) v (i < l.length) := ⟨fun hi => by
  rw [← Nat.add_zero (i * s), flat_at l i 0 hi h.h.2]; exact g.h⟩
instance (priority := 180) [Inhabited α] (l : List α) (k : Nat) (v : Value) [h : RowE e s] [g : Get (e (l.getD 0 default)) k v] : Elem (flat e l) k v (0 < l.length) := ⟨fun hi => by
  have hk : k < s := by rw [← h.h.1 (l.getD 0 default)]; exact (List.getElem?_eq_some_iff.1 g.h).1
  have := flat_at (e := e) l 0 k hi hk
  rw [Nat.zero_mul, Nat.zero_add] at this
  rw [this]; exact g.h⟩
/-- A whole row of a table. -/
class ECut (xs : List Value) (q s : Nat) (o : outParam (List Value)) (c : outParam Prop) : Prop where h : c → o.length = s ∧ ∀ j u, o[j]? = some u → xs[q + j]? = some u
instance (priority := 100) [Inhabited α] (l : List α) (i : Nat) [h : RowE e s] : ECut (flat e l) (i * s) s (e (l.getD i default)) (i < l.length) := ⟨fun hi => ⟨h.h.1 _, fun j u hu => by
  have hk : j < s := by rw [← h.h.1 (l.getD i default)]; exact (List.getElem?_eq_some_iff.1 hu).1
  rw [flat_at l i j hi hk]; exact hu⟩⟩
instance (priority := 90) [Inhabited α] (l : List α) [h : RowE e s] : ECut (flat e l) 0 s (e (l.getD 0 default)) (0 < l.length) := ⟨fun hi => ⟨h.h.1 _, fun j u hu => by
  have hk : j < s := by rw [← h.h.1 (l.getD 0 default)]; exact (List.getElem?_eq_some_iff.1 hu).1
  have := flat_at (e := e) l 0 j hi hk
  rw [Nat.zero_mul] at this
  rw [this]; exact hu⟩⟩
instance (l r : List α) : AppI (flat e l) (flat e r) (flat e (l ++ r)) := ⟨(flat_app l r).symm⟩
instance (l : List α) (vs : List Value) (x : α) [h : UnE e vs x] : AppI (flat e l) vs (flat e (l ++ [x])) := ⟨by rw [flat_app, flat_one, h.h]⟩
instance (l : List α) [h : RowE e s] : LenOf (flat e l) s l.length := ⟨fun j hj => by rw [flat_len] at hj; exact (Nat.eq_of_mul_eq_mul_right h.h.2 hj).symm⟩
instance (l : List α) [h : OneE e] : OneL (flat e l) := ⟨fun u hu => by
  obtain ⟨r, hr, hu⟩ := List.mem_flatten.1 hu
  obtain ⟨a, -, rfl⟩ := List.mem_map.1 hr
  exact h.h a u hu⟩
end
/-- A whole row in memory that nobody writes. -/
class RoRow (w0 : World) (W : Nat → Prop) (b q s : Nat) (o : outParam (List Value)) (c : outParam Prop) : Prop where h : c → o.length = s ∧ b < w0.heap.size ∧ ¬ W b ∧ ∀ j u, o[j]? = some u → w0.cell? ⟨b, q + j, none⟩ = some u
instance (priority := 100) (w0 : World) (W : Nat → Prop) (b off q s : Nat) (xs o : List Value) (c : Prop) [h : RoAt w0 W b off xs] [g : ECut xs q s o c] : RoRow w0 W b (off + q) s o c := ⟨fun hc =>
  ⟨(g.h hc).1, h.h.1, h.h.2.1, fun j u hu => by rw [Nat.add_assoc]; exact h.h.2.2 (q + j) u ((g.h hc).2 j u hu)⟩⟩
instance (priority := 50) (w0 : World) (W : Nat → Prop) (b off s : Nat) (xs o : List Value) (c : Prop) [h : RoAt w0 W b off xs] [g : ECut xs 0 s o c] : RoRow w0 W b off s o c := ⟨fun hc =>
  ⟨(g.h hc).1, h.h.1, h.h.2.1, fun j u hu => h.h.2.2 j u (by have := (g.h hc).2 j u hu; rwa [Nat.zero_add] at this)⟩⟩
instance (priority := 200) (w0 : World) (W : Nat → Prop) (b off i s k : Nat) (xs : List Value) (v : Value) (c : Prop) [h : RoAt w0 W b off xs] [he : Elem xs (i * s + k) v c] : RoGet w0 W b (off + i * s + k) v c := ⟨fun hc => ⟨h.h.1, h.h.2.1, by rw [Nat.add_assoc]; exact h.h.2.2 _ v (he.h hc)⟩⟩
theorem Range.old {w0 : World} {W : Nat → Prop} {H : List HE} {b o : Nat} {cs : List Value} (hb : b < w0.heap.size) (hW : ¬ W b) (h : ∀ j u, cs[j]? = some u → w0.cell? ⟨b, o + j, none⟩ = some u) : Range w0 W H b o cs := .of_cells fun j u hu => .old hb hW (h j u hu)
theorem Range.row {w0 : World} {W : Nat → Prop} {H R : List HE} {b o n c e s : Nat} {xs cs : List Value} (hm : Has H (.row (.slice (some ⟨b, 0, none⟩) n c) e s n xs) R) (h : ∀ j u, cs[j]? = some u → xs[o + j]? = some u) : Range w0 W H b o cs := .of_cells fun j u hu => .row hm (h j u hu)
section
variable {P : Program} {w0 : World} {W : Nat → Prop} {H : List HE}
instance (priority := 40) (t b q sz bs : Nat) (z : Value) (dd : TypeDesc) (x : Operand) (o : List Value) (p : Prop) [Und P t dd] [hd : YesAgg dd] [Inf P t sz bs z] [hr : RoRow w0 W b q sz o p] : MS P w0 W H (.load t x) [.pointer (some ⟨b, q, none⟩)] (.agg o.toArray) p :=
  ⟨fun hc _ _ _ _ _ _ _ _ _ _ _ _ _ h1 h2 h3 => let ⟨e1, e2, e3, e4⟩ := hr.h hc; r_loadAgg (t := t) (opnds1 rfl h1) hd.h (Range.old e2 e3 e4) e1 h2 h3⟩
instance (priority := 60) (t b q sz bs m c e s : Nat) (z : Value) (dd : TypeDesc) (x : Operand) (o xs : List Value) (p : Prop) (k : HE → List HE) [Und P t dd] [hd : YesAgg dd] [Inf P t sz bs z] [h : AtRow b H m c e s xs k] [hr : ECut xs q sz o p] : MS P w0 W H (.load t x) [.pointer (some ⟨b, q, none⟩)] (.agg o.toArray) p :=
  ⟨fun hc _ _ _ _ _ _ _ _ _ _ _ _ _ h1 h2 h3 => let ⟨_, h4, _⟩ := h.h; r_loadAgg (t := t) (opnds1 rfl h1) hd.h (Range.row h4 (hr.h hc).2) (hr.h hc).1 h2 h3⟩
instance (priority := 40) (t b q sz bs : Nat) (z : Value) (dd : TypeDesc) (x : Operand) (o : List Value) (p : Prop) [Und P t dd] [hd : YesAgg dd] [Inf P t sz bs z] [hr : RoRow w0 W b q sz o p] : LV P w0 W H (.load t x) [.pointer (some ⟨b, q, none⟩)] (.agg o.toArray) p :=
  ⟨fun hc => let ⟨e1, e2, e3, e4⟩ := hr.h hc; lv_loadAgg (t := t) hd.h (Range.old e2 e3 e4) e1⟩
instance (priority := 60) (t b q sz bs m c e s : Nat) (z : Value) (dd : TypeDesc) (x : Operand) (o xs : List Value) (p : Prop) (k : HE → List HE) [Und P t dd] [hd : YesAgg dd] [Inf P t sz bs z] [h : AtRow b H m c e s xs k] [hr : ECut xs q sz o p] : LV P w0 W H (.load t x) [.pointer (some ⟨b, q, none⟩)] (.agg o.toArray) p :=
  ⟨fun hc => let ⟨_, h4, _⟩ := h.h; lv_loadAgg (t := t) hd.h (Range.row h4 (hr.h hc).2) (hr.h hc).1⟩
end
/-- A place on a map. -/
abbrev spotE : Int × Int → List Value := fun p => [.int .i64 p.1, .int .i64 p.2]
instance : RowE spotE 2 := ⟨fun _ => rfl, by decide⟩
instance : OneE spotE := ⟨fun a u hu => by simp [spotE] at hu; rcases hu with rfl | rfl <;> rfl⟩
instance (a b : Int) : UnE spotE [.int .i64 a, .int .i64 b] (a, b) := ⟨rfl⟩
/-- A frame. -/
structure Frm where
  kind : Int
  seq : Int
  time : Int
  a : Int
  b : Int
  c : Int
deriving Inhabited
abbrev frmE : Frm → List Value := fun f => [.int .i64 f.kind, .int .u16 f.seq, .int .u32 f.time, .int .i32 f.a, .int .i32 f.b, .int .i32 f.c]
instance : RowE frmE 6 := ⟨fun _ => rfl, by decide⟩
instance : OneE frmE := ⟨fun a u hu => by simp [frmE] at hu; rcases hu with rfl | rfl | rfl | rfl | rfl | rfl <;> rfl⟩
instance (k s t a b c : Int) : UnE frmE [.int .i64 k, .int .u16 s, .int .u32 t, .int .i32 a, .int .i32 b, .int .i32 c] ⟨k, s, t, a, b, c⟩ := ⟨rfl⟩
end Go.Proofs.YtemmnpgebpffbaaGreat
/- The engine: steps that part by cases on their own; calls whose contract is an instance; loops of a known number of rounds. -/
namespace Go.Proofs.YtemmnpgebpffbaaGreat
open Go.RowKit

/-- What a truth value says. -/
class BoolP (c : Bool) (p : outParam Prop) : Prop where h : c = true ↔ p
instance (priority := 10) (c : Bool) : BoolP c (c = true) := ⟨Iff.rfl⟩
instance (p : Prop) [Decidable p] : BoolP (decide p) p := ⟨decide_eq_true_iff⟩
instance (a b : Int) : BoolP (a == b) (a = b) := ⟨by simp⟩
instance (a b : Int) : BoolP (a != b) (a ≠ b) := ⟨by simp⟩
instance (c : Bool) (p : Prop) [h : BoolP c p] : BoolP (!c) (¬ p) := ⟨by rw [← h.h]; cases c <;> simp⟩
instance (c d : Bool) (p q : Prop) [h : BoolP c p] [g : BoolP d q] : BoolP (c && d) (p ∧ q) := ⟨by rw [← h.h, ← g.h]; cases c <;> cases d <;> simp⟩
instance (c d : Bool) (p q : Prop) [h : BoolP c p] [g : BoolP d q] : BoolP (c || d) (p ∨ q) := ⟨by rw [← h.h, ← g.h]; cases c <;> cases d <;> simp⟩
instance (c d : Bool) (p q : Prop) [h : BoolP c p] [g : BoolP d q] : BoolP (c == d) (p ↔ q) := ⟨by rw [← h.h, ← g.h]; cases c <;> cases d <;> simp⟩
instance (c d : Bool) (p q : Prop) [h : BoolP c p] [g : BoolP d q] : BoolP (c != d) (¬ (p ↔ q)) := ⟨by rw [← h.h, ← g.h]; cases c <;> cases d <;> simp⟩
theorem BoolP.no {c : Bool} {p : Prop} [h : BoolP c p] (hc : c = false) : ¬ p := fun hp => by rw [h.h.2 hp] at hc; cases hc
theorem bool_eq {c : Bool} {p : Prop} [h : BoolP c p] (d : Bool) (hd : d = true ↔ p) : c = d := by
  have := h.h
  cases c <;> cases d <;> simp_all

/-- A call that yields v and leaves memory. -/
class CV (P : Program) (f : FuncId) (us : List Value) (v : outParam Value) (c : outParam Prop) : Prop where h : c → ∀ w, Does P f us [] w fun u S' => u = v ∧ S' = []
/-- A number that is known. -/
class LitI (a : Int) (n : outParam Nat) : Prop where h : a = (n : Int)
instance (n : Nat) : LitI (no_index (OfNat.ofNat n : Int)) (OfNat.ofNat n) := ⟨rfl⟩
instance (a b : Int) (n m : Nat) [h : LitI a n] [g : LitI b m] : LitI (a + b) (n + m) := ⟨by rw [h.h, g.h]; push_cast; rfl⟩
section
variable {F : Fence} {n : Nat} {P : Program} {N : Nat} {ds : List Deferred} {w0 : World} {W : Nat → Prop} {σ : List (Nat × Value)} {H : List HE} {Q : Exit → Act → World → Prop}
variable {ops : Array Oper} {rest : List Oper} {o : Oper} {p : Prop} {T : List (Nat × Value) → Prop}
theorem j_dec (t : Nat) {c : Bool} [hb : BoolP c p] {q : Act → World → Prop} (hl : look σ t = some (.bool c)) (ht : p → J N ds w0 W ((t, .bool true) :: σ) H q) (hf : ¬ p → J N ds w0 W ((t, .bool false) :: σ) H q) : J N ds w0 W σ H q :=
  j_case t hl (fun h => ht (hb.h.1 h)) (fun h => hf (BoolP.no h))
/-- These ask whether a guard is known already. -/
theorem l_lit (b0 : Bool) {j t : Nat} {b : Bool} (hg : o.guard = some (j, b)) (ht : (ops[j]?).bind (·.dst) = some t) (hv : look σ t = some (.bool b0)) (h : J N ds w0 W σ H (wpListIn F n P ops Q (o :: rest))) : J N ds w0 W σ H (wpListIn F n P ops Q (o :: rest)) := h
theorem h_lit (b0 : Bool) {j t : Nat} {b : Bool} {l : List Oper} {k : Act → World → Prop} (hg : o.guard = some (j, b)) (ht : (ops[j]?).bind (·.dst) = some t) (hv : look σ t = some (.bool b0)) (h : HdJ F n P N ds w0 W H ops (o :: l) σ (fun τ => J N ds w0 W τ H k)) : HdJ F n P N ds w0 W H ops (o :: l) σ (fun τ => J N ds w0 W τ H k) := h
theorem x_lit (b0 : Bool) {HL : List HE} {j t : Nat} {b : Bool} {l : List Oper} {k : Act → World → Prop} (hg : o.guard = some (j, b)) (ht : (ops[j]?).bind (·.dst) = some t) (hv : look σ t = some (.bool b0)) (h : HdL P N w0 W HL ops (o :: l) σ (fun τ => J N ds w0 W τ H k)) : HdL P N w0 W HL ops (o :: l) σ (fun τ => J N ds w0 W τ H k) := h
theorem l_gd {j t : Nat} {b c : Bool} [hb : BoolP c p] (hg : o.guard = some (j, b)) (ht : (ops[j]?).bind (·.dst) = some t) (hv : look σ t = some (.bool c))
    (h1 : p → J N ds w0 W ((t, .bool true) :: σ) H (wpListIn F n P ops Q (o :: rest))) (h2 : ¬ p → J N ds w0 W ((t, .bool false) :: σ) H (wpListIn F n P ops Q (o :: rest))) : J N ds w0 W σ H (wpListIn F n P ops Q (o :: rest)) := j_dec t hv h1 h2
theorem h_gd {j t : Nat} {b c : Bool} {l : List Oper} {k : Act → World → Prop} [hb : BoolP c p] (hg : o.guard = some (j, b)) (ht : (ops[j]?).bind (·.dst) = some t) (hv : look σ t = some (.bool c))
    (h1 : p → HdJ F n P N ds w0 W H ops (o :: l) ((t, .bool true) :: σ) (fun τ => J N ds w0 W τ H k)) (h2 : ¬ p → HdJ F n P N ds w0 W H ops (o :: l) ((t, .bool false) :: σ) (fun τ => J N ds w0 W τ H k)) :
    HdJ F n P N ds w0 W H ops (o :: l) σ (fun τ => J N ds w0 W τ H k) := h_case t hv (fun h => h1 (hb.h.1 h)) (fun h => h2 (BoolP.no h))
theorem h_gdB {l : List Oper} {k : Act → World → Prop} (t : Nat) {c : Bool} [hb : BoolP c p] (hv : look σ t = some (.bool c))
    (h1 : p → HdJ F n P N ds w0 W H ops l ((t, .bool true) :: σ) (fun τ => J N ds w0 W τ H k)) (h2 : ¬ p → HdJ F n P N ds w0 W H ops l ((t, .bool false) :: σ) (fun τ => J N ds w0 W τ H k)) :
    HdJ F n P N ds w0 W H ops l σ (fun τ => J N ds w0 W τ H k) := h_case t hv (fun h => h1 (hb.h.1 h)) (fun h => h2 (BoolP.no h))
theorem x_gd {HL : List HE} {j t : Nat} {b c : Bool} {l : List Oper} {k : Act → World → Prop} [hb : BoolP c p] (hg : o.guard = some (j, b)) (ht : (ops[j]?).bind (·.dst) = some t) (hv : look σ t = some (.bool c))
    (h1 : p → HdL P N w0 W HL ops (o :: l) ((t, .bool true) :: σ) (fun τ => J N ds w0 W τ H k)) (h2 : ¬ p → HdL P N w0 W HL ops (o :: l) ((t, .bool false) :: σ) (fun τ => J N ds w0 W τ H k)) :
    HdL P N w0 W HL ops (o :: l) σ (fun τ => J N ds w0 W τ H k) := x_case t hv (fun h => h1 (hb.h.1 h)) (fun h => h2 (BoolP.no h))
theorem h_pT {d : Nat} {ty : TypeId} {pos : String} {aft : Array Edge} {gd : Option (Nat × Bool)} {x y z : Operand} {v : Value} {l : List Oper} [Wide F] (hw : wantd ops σ ⟨some d, .pick x y z, ty, pos, aft, gd⟩ = some true) (hc : ev σ x = some (.bool true)) (hx : ev σ y = some v) (hdN : Nat.blt d N = true)
    (h : HdJ F n P N ds w0 W H ops l ((d, v) :: σ) T) : HdJ F n P N ds w0 W H ops (⟨some d, .pick x y z, ty, pos, aft, gd⟩ :: l) σ T := h_run rfl hdN hw (fun _ _ hk => r_pickT hc hx hdN hk) h
theorem h_pF {d : Nat} {ty : TypeId} {pos : String} {aft : Array Edge} {gd : Option (Nat × Bool)} {x y z : Operand} {v : Value} {l : List Oper} [Wide F] (hw : wantd ops σ ⟨some d, .pick x y z, ty, pos, aft, gd⟩ = some true) (hc : ev σ x = some (.bool false)) (hx : ev σ z = some v) (hdN : Nat.blt d N = true)
    (h : HdJ F n P N ds w0 W H ops l ((d, v) :: σ) T) : HdJ F n P N ds w0 W H ops (⟨some d, .pick x y z, ty, pos, aft, gd⟩ :: l) σ T := h_run rfl hdN hw (fun _ _ hk => r_pickF hc hx hdN hk) h
theorem x_pT {HL : List HE} {d : Nat} {ty : TypeId} {pos : String} {aft : Array Edge} {gd : Option (Nat × Bool)} {x y z : Operand} {v : Value} {l : List Oper} (hw : wantd ops σ ⟨some d, .pick x y z, ty, pos, aft, gd⟩ = some true) (hc : ev σ x = some (.bool true)) (hx : ev σ y = some v) (hdN : Nat.blt d N = true)
    (h : HdL P N w0 W HL ops l ((d, v) :: σ) T) : HdL P N w0 W HL ops (⟨some d, .pick x y z, ty, pos, aft, gd⟩ :: l) σ T :=
  ⟨d, v, rfl, by simpa using hdN, .inl ⟨hw, fun ρ hρ w _ => by
    have h1 := hρ x (by simp [Op.operands]) _ hc
    have h2 := hρ y (by simp [Op.operands]) _ hx
    simp [execOp, h1, h2, asBool]⟩, h⟩
theorem x_pF {HL : List HE} {d : Nat} {ty : TypeId} {pos : String} {aft : Array Edge} {gd : Option (Nat × Bool)} {x y z : Operand} {v : Value} {l : List Oper} (hw : wantd ops σ ⟨some d, .pick x y z, ty, pos, aft, gd⟩ = some true) (hc : ev σ x = some (.bool false)) (hx : ev σ z = some v) (hdN : Nat.blt d N = true)
    (h : HdL P N w0 W HL ops l ((d, v) :: σ) T) : HdL P N w0 W HL ops (⟨some d, .pick x y z, ty, pos, aft, gd⟩ :: l) σ T :=
  ⟨d, v, rfl, by simpa using hdN, .inl ⟨hw, fun ρ hρ w _ => by
    have h1 := hρ x (by simp [Op.operands]) _ hc
    have h2 := hρ z (by simp [Op.operands]) _ hx
    simp [execOp, h1, h2, asBool]⟩, h⟩
theorem c_if {x : Operand} {y z : Code} {c : Bool} [hb : BoolP c p] (hc : ev σ x = some (.bool c)) (ht : p → J N ds w0 W σ H (y.wpIn F n P Q)) (hf : ¬ p → J N ds w0 W σ H (z.wpIn F n P Q)) :
    J N ds w0 W σ H ((Code.cond x y z).wpIn F n P Q) := c_cond hc (fun h => ht (hb.h.1 h)) (fun h => hf (BoolP.no h))
def stB (ops : Array Oper) (mask : List Bool) : Bool := (List.range ops.size).all fun i => match ops[i]? with
  | some o => match o.op with | .store .. => litB ops mask i | .call ⟨.builtin .append, _, _⟩ => litB ops mask i | _ => true
  | none => true
theorem c_dra {id : Nat} {l : List Oper} {mask : List Bool} {r : List Nat} [hF : Wide F] (hm : litMask l.toArray l 0 [] [] = mask) (hr : hvIdx l.toArray mask = r) (hmx : P.follows .mixedOrders = true) (hok : (maskOkX l.toArray mask && stB l.toArray mask) = true)
    (h : HdL P N w0 W H l.toArray (opsAt l.toArray (pvIdx l.toArray mask)) σ (fun τ => J N ds w0 W τ H (wpT F n P w0 W H l.toArray mask Q r.length r))) : J N ds w0 W σ H ((Code.region id l.toArray true).wpIn F n P Q) :=
  c_drx H mask r (Sub.refl _) hr hmx (by simp only [Bool.and_eq_true] at hok; exact hok.1) h
/-- A list without its element number k. -/
class Er (H : List HE) (k : Nat) (HL : outParam (List HE)) : Prop where h : Sub HL H
instance (x : HE) (r : List HE) : Er (x :: r) 0 r := ⟨Sub.skip (Sub.refl _) _⟩
instance (x : HE) (r r' : List HE) (k : Nat) [h : Er r k r'] : Er (x :: r) (k + 1) (x :: r') := ⟨h.h.keep x⟩
/-- The same; a block that is written while others are looked at is left out. -/
theorem c_dre (k : Nat) {HL : List HE} {id : Nat} {l : List Oper} {mask : List Bool} {r : List Nat} [hF : Wide F] [he : Er H k HL] (hm : litMask l.toArray l 0 [] [] = mask) (hr : hvIdx l.toArray mask = r) (hmx : P.follows .mixedOrders = true) (hok : maskOkX l.toArray mask = true)
    (h : HdL P N w0 W HL l.toArray (opsAt l.toArray (pvIdx l.toArray mask)) σ (fun τ => J N ds w0 W τ H (wpT F n P w0 W HL l.toArray mask Q r.length r))) : J N ds w0 W σ H ((Code.region id l.toArray true).wpIn F n P Q) :=
  c_drx HL mask r he.h hr hmx hok h
/-- A pick between a truth value and another one. -/
theorem lpk {d : Nat} {ty : TypeId} {pos : String} {aft : Array Edge} {gd : Option (Nat × Bool)} [Wide F] {x y z : Operand} {c : Bool} {u v : Value} (hw : wantd ops σ ⟨some d, .pick x y z, ty, pos, aft, gd⟩ = some true) (hc : ev σ x = some (.bool c)) (hx : ev σ y = some u) (hy : ev σ z = some v) (hdN : Nat.blt d N = true)
    (h : J N ds w0 W ((d, bif c then u else v) :: σ) H (wpListIn F n P ops Q rest)) : J N ds w0 W σ H (wpListIn F n P ops Q (⟨some d, .pick x y z, ty, pos, aft, gd⟩ :: rest)) := by
  cases c with
  | true => exact lpT hw hc hx hdN h
  | false => exact lpF hw hc hy hdN h
variable {dst : Nat} {f : FuncId} {args : Array Operand} {ts : Array TypeId} {us : List Value} {v : Value} {c : Prop} {ty : TypeId} {pos : String} {aft : Array Edge} {gd : Option (Nat × Bool)}
theorem lcv [Wide F] [WF F] [Cl P f]
    (hw : wantd ops σ ⟨some dst, .call ⟨.value (.func f), args, ts⟩, ty, pos, aft, gd⟩ = some true) (hv : vals σ args.toList = some us) [hc : CV P f us v c] (hdN : Nat.blt dst N = true) (hcc : c) (h : J N ds w0 W ((dst, v) :: σ) H (wpListIn F n P ops Q rest)) :
    J N ds w0 W σ H (wpListIn F n P ops Q (⟨some dst, .call ⟨.value (.func f), args, ts⟩, ty, pos, aft, gd⟩ :: rest)) := lfv hw hv hdN (fun w _ => hc.h hcc w) h
theorem hcv [Wide F] [WF F] [Cl P f]
    (hw : wantd ops σ ⟨some dst, .call ⟨.value (.func f), args, ts⟩, ty, pos, aft, gd⟩ = some true) (hv : vals σ args.toList = some us) [hc : CV P f us v c] (hdN : Nat.blt dst N = true) (hcc : c) (h : HdJ F n P N ds w0 W H ops rest ((dst, v) :: σ) T) :
    HdJ F n P N ds w0 W H ops (⟨some dst, .call ⟨.value (.func f), args, ts⟩, ty, pos, aft, gd⟩ :: rest) σ T := hfv hw hv hdN (fun w _ => hc.h hcc w) h
theorem c_rounds (m : Nat) {c : Code} (h : J N ds w0 W σ H (Code.roundsIn F n P c Q m)) : J N ds w0 W σ H ((Code.loop c).wpIn F n P Q) := fun a w ha hw => wpIn_loop_rounds m (h a w ha hw)
instance {c : Code} (m : Nat) : CC (Code.roundsIn F n P c Q (m + 1)) (c.wpIn F n P (Exit.then (Code.roundsIn F n P c Q m) Q)) := ⟨fun h => h⟩
end
section
variable {P : Program} {w0 : World} {W : Nat → Prop} {H : List HE}
instance (priority := 2000) (t u : TypeId) (x y : Operand) (a : Bool) [Und P t .bool] : MS P w0 W H (.binOp .eql t x y u) [.bool a, .bool a] (.bool true) True := ⟨fun _ _ _ _ _ _ _ _ _ _ _ _ _ _ h1 h2 h3 => let ⟨p, q⟩ := vals2 h1; r_eqB p q h2 (by simpa using h3)⟩
instance (priority := 2000) (t u : TypeId) (x y : Operand) (a : Bool) [Und P t .bool] : MS P w0 W H (.binOp .neq t x y u) [.bool a, .bool a] (.bool false) True := ⟨fun _ _ _ _ _ _ _ _ _ _ _ _ _ _ h1 h2 h3 => let ⟨p, q⟩ := vals2 h1; r_neB p q h2 (by simpa using h3)⟩
instance (priority := 10) (c x y : Operand) (u v : Value) : LV P w0 W H (.pick c x y) [.bool true, u, v] u True := ⟨by
  rintro _ ρ ⟨dst, op', ty, pos, aft, gd⟩ rfl h w _
  have h1 : ρ c = .bool true ∧ ρ x = u ∧ ρ y = v := by simpa [Op.operands] using h
  simp [execOp, h1.1, h1.2.1, asBool]⟩
instance (priority := 10) (c x y : Operand) (u v : Value) : LV P w0 W H (.pick c x y) [.bool false, u, v] v True := ⟨by
  rintro _ ρ ⟨dst, op', ty, pos, aft, gd⟩ rfl h w _
  have h1 : ρ c = .bool false ∧ ρ x = u ∧ ρ y = v := by simpa [Op.operands] using h
  simp [execOp, h1.1, h1.2.2, asBool]⟩
instance (priority := 60) (t u : TypeId) (x y : Operand) (k : IntKind) (a b : Int) : LV P w0 W H (.binOp .quo t x y u) [.int k a, .int k b] (.int k (a / b)) (0 ≤ a ∧ 0 < b ∧ InR k a) := ⟨by
  rintro ⟨h0, hb, hc⟩ ρ ⟨dst, op', ty, pos, aft, gd⟩ rfl h w _
  obtain ⟨h1, h2⟩ := map2 h
  have e : k.wrap (a.tdiv b) = a / b := by
    rw [Int.tdiv_eq_ediv_of_nonneg h0, wrap_in]
    have h3 : 0 ≤ a / b := Int.ediv_nonneg h0 (by omega)
    have h4 : a / b ≤ a := Int.ediv_le_self _ h0
    cases k <;> simp only [InR] at hc ⊢ <;> omega
  simp [execOp, h1, h2, eqGuard, binOp, Op.intDiv, show b ≠ 0 by omega, e]⟩
instance (priority := 60) (t u : TypeId) (x y : Operand) (k : IntKind) (a b : Int) : LV P w0 W H (.binOp .rem t x y u) [.int k a, .int k b] (.int k (a % b)) (0 ≤ a ∧ 0 < b) := ⟨by
  rintro ⟨h0, hb⟩ ρ ⟨dst, op', ty, pos, aft, gd⟩ rfl h w _
  obtain ⟨h1, h2⟩ := map2 h
  simp [execOp, h1, h2, eqGuard, binOp, Op.intDiv, show b ≠ 0 by omega, Int.tmod_eq_emod_of_nonneg h0]⟩
instance (t u : TypeId) (x y : Operand) (k : IntKind) (a b : Int) : LV P w0 W H (.binOp .and t x y u) [.int k a, .int k b] (.int k (bits .and k a b)) True := ⟨fun _ ρ o ho h w _ => pv_bin rfl ρ o ho h w⟩
instance (t u : TypeId) (x y : Operand) (k : IntKind) (a b : Int) : LV P w0 W H (.binOp .or t x y u) [.int k a, .int k b] (.int k (bits .or k a b)) True := ⟨fun _ ρ o ho h w _ => pv_bin rfl ρ o ho h w⟩
instance (t u : TypeId) (x y : Operand) (k : IntKind) (a b : Int) : LV P w0 W H (.binOp .xor t x y u) [.int k a, .int k b] (.int k (bits .xor k a b)) True := ⟨fun _ ρ o ho h w _ => pv_bin rfl ρ o ho h w⟩
instance (priority := 40) (t u : TypeId) (x y : Operand) (k k' : IntKind) (a : Int) (b : Nat) : LV P w0 W H (.binOp .shr t x y u) [.int k a, .int k' (no_index (OfNat.ofNat b : Int))] (.int k (a / 2 ^ (OfNat.ofNat b : Nat))) (LeB k (OfNat.ofNat b : Nat)) := ⟨by
  rintro hc ρ ⟨dst, op', ty, pos, aft, gd⟩ rfl h w _
  obtain ⟨h1, h2⟩ := map2 h
  have hn := lit_nonneg b
  have e : a.fdiv (2 ^ min (OfNat.ofNat b : Int).toNat k.bits) = a / 2 ^ (OfNat.ofNat b : Nat) := by rw [lit_toNat, Nat.min_eq_left (leB hc), Int.fdiv_eq_ediv_of_nonneg _ (Int.le_of_lt (Int.pow_pos (by decide)))]
  simp only [execOp, h1, h2, eqGuard, binOp, Op.shift, if_neg (show ¬ (OfNat.ofNat b : Int) < 0 by omega), e]
  rfl⟩
instance (t u : TypeId) (x y : Operand) (p q : Bool) [hu : Und P t .bool] : LV P w0 W H (.binOp .eql t x y u) [.bool p, .bool q] (.bool (p == q)) True := ⟨by
  rintro _ ρ ⟨dst, op', ty, pos, aft, gd⟩ rfl h w _
  obtain ⟨h1, h2⟩ := map2 h
  have := run_eqlB w p q hu.h
  simp only [execOp, h1, h2, Sem.run_bind, run_guardB, Result.andThen_ok, this, Sem.run_pure]⟩
instance (t u : TypeId) (x y : Operand) (p q : Bool) [hu : Und P t .bool] : LV P w0 W H (.binOp .neq t x y u) [.bool p, .bool q] (.bool (!(p == q))) True := ⟨by
  rintro _ ρ ⟨dst, op', ty, pos, aft, gd⟩ rfl h w _
  obtain ⟨h1, h2⟩ := map2 h
  have := run_neqB w p q hu.h
  simp only [execOp, h1, h2, Sem.run_bind, run_guardB, Result.andThen_ok, this, Sem.run_pure]⟩
instance (t : TypeId) (x : Operand) (k : IntKind) (a : Int) : LV P w0 W H (.unOp .neg t x) [.int k a] (.int k (-a)) (InR k (-a)) := ⟨by
  rintro hc ρ ⟨dst, op', ty, pos, aft, gd⟩ rfl h w _
  have e : k.wrap (0 - a) = -a := by rw [Int.zero_sub, wrap_in hc]
  have e' : k.wrap (-a) = -a := wrap_in hc
  simp [execOp, map1 h, Op.unary, Op.intArith, e']⟩
instance (x y : Operand) (ts : Array TypeId) (k : IntKind) (p q : Int) : LV P w0 W H (.call ⟨.builtin .min, #[x, y], ts⟩) [.int k p, .int k q] (.int k (min p q)) True := ⟨by
  rintro _ ρ ⟨dst, op', ty, pos, aft, gd⟩ rfl h w _
  have h1 : ρ x = .int k p ∧ ρ y = .int k q := by simpa [Op.operands, Call.operands] using h
  have e : (if q < p then q else p) = min p q := by omega
  simp [execOp, h1.1, h1.2, resolve, invoke, builtin, Builtin.min_, Builtin.min2, e]⟩
instance (x y : Operand) (ts : Array TypeId) (k : IntKind) (p q : Int) : LV P w0 W H (.call ⟨.builtin .max, #[x, y], ts⟩) [.int k p, .int k q] (.int k (max p q)) True := ⟨by
  rintro _ ρ ⟨dst, op', ty, pos, aft, gd⟩ rfl h w _
  have h1 : ρ x = .int k p ∧ ρ y = .int k q := by simpa [Op.operands, Call.operands] using h
  have e : (if p < q then q else p) = max p q := by omega
  simp [execOp, h1.1, h1.2, resolve, invoke, builtin, Builtin.max_, Builtin.max2, e]⟩
theorem lv_index {t e m bs i : Nat} {z : Value} {dd : TypeDesc} {x y : Operand} {vs : List Value} {v : Value} {k : IntKind} {a : Int} [hu : Und P t (.array m e)] [hI : Inf P e 1 bs z] [he : Und P e dd] (hd : aggB dd = false) (ha : a = (i : Int)) (hm : i < m) (hg : vs[i]? = some v) :
    ∀ (ρ : Operand → Value) (o : Oper), o.op = .index t x y → (Op.index t x y).operands.toList.map ρ = [.agg vs.toArray, .int k a] → ∀ w : World, (execOp ρ o).run P w = .ok (.value v) w := by
  rintro ρ ⟨dst, op', ty, pos, aft, gd⟩ rfl h w
  obtain ⟨hx, hy⟩ := map2 h
  have h1 := hu.h
  obtain ⟨ii, h2, -, h3, -⟩ := hI.h
  have h4 := he.h
  have hagg : (isAgg e).run P w = .ok false w := by
    unfold isAgg
    rw [Sem.run_bind, run_underlying h4 w]
    cases dd <;> simp [aggB] at hd <;> rfl
  subst ha
  simp [execOp, hx, hy, Instr.index, run_underlying h1, asIntOf, sizeOf, typeInfo, h2, h3, hm, part, hagg, hg]
instance (t e m bs i : Nat) (z : Value) (dd : TypeDesc) (x y : Operand) (vs : List Value) (v : Value) (k : IntKind) (a : Int) [Und P t (.array m e)] [Inf P e 1 bs z] [Und P e dd] [hd : NoAgg dd] [ha : LitI a i] [hg : Get vs i v] : PV P (.index t x y) [.agg vs.toArray, .int k a] v (i < m) :=
  ⟨fun hi => lv_index (z := z) (bs := bs) (e := e) hd.h ha.h hi hg.h⟩
instance (t e m bs i : Nat) (z : Value) (dd : TypeDesc) (x y : Operand) (vs : List Value) (v : Value) (k : IntKind) (a : Int) [Und P t (.array m e)] [Inf P e 1 bs z] [Und P e dd] [hd : NoAgg dd] [ha : LitI a i] [hg : Get vs i v] : MS P w0 W H (.index t x y) [.agg vs.toArray, .int k a] v (i < m) :=
  ⟨fun hi _ _ _ _ _ _ _ _ _ _ _ _ _ h1 h2 h3 => o_val (by simp) rfl h2 (fun a w ham _ => lv_index (t := t) (x := x) (y := y) (z := z) (bs := bs) (e := e) (k := k) hd.h ha.h hi hg.h a.eval _ rfl (by obtain ⟨p, q⟩ := vals2 h1; simp [Op.operands, ham.eval p, ham.eval q]) w) h3⟩
end
section
variable {F : Fence} {n : Nat} {P : Program} {N : Nat} {ds : List Deferred} {w0 : World} {W : Nat → Prop} {σ : List (Nat × Value)} {H : List HE} {Q : Exit → Act → World → Prop}
variable {ops : Array Oper} {rest : List Oper} {d : Nat} {ty : TypeId} {pos : String} {aft : Array Edge} {gd : Option (Nat × Bool)}
/-- An array, part by part. -/
theorem lba [Wide F] {t e m sz bs szt bst : Nat} {z ze : Value} {parts : Array (Nat × Operand)} {us : List (Nat × Value)} {cs : List Value} [hu : Und P t (.array m e)] [hI : Inf P t szt bst z] [he : Inf P e sz bs ze] (hw : wantd ops σ ⟨some d, .build t parts, ty, pos, aft, gd⟩ = some true) (hv : evs σ parts.toList = some us)
    [hcs : Flat us cs] (hf : Instr.fill (fun i => some (i * sz, sz)) z.cells us = some (us.flatMap (fun p => p.2.cells.toList)).toArray) (hdN : Nat.blt d N = true)
    (h : J N ds w0 W ((d, .agg cs.toArray) :: σ) H (wpListIn F n P ops Q rest)) : J N ds w0 W σ H (wpListIn F n P ops Q (⟨some d, .build t parts, ty, pos, aft, gd⟩ :: rest)) := by
  refine l_run hw (o_val (by simp) rfl hdN (fun a w ha _ => ?_) h)
  obtain ⟨i, h3, h4, -⟩ := hI.h
  obtain ⟨j, h5, -, h6, -⟩ := he.h
  have e1 : (List.map (fun x : Nat × Operand => match x with | (i, x) => (i, a.eval x)) parts.toList) = us := evs_map ha hv
  have hb : (Instr.build t (parts.map fun (i, x) => (i, a.eval x))).run P w = .ok (.agg cs.toArray) w := by
    unfold Instr.build
    have hz : (zeroValue t).run P w = .ok z w := by simp [zeroValue, typeInfo, h3, h4]
    have hs : (sizeOf e).run P w = .ok sz w := by simp [sizeOf, typeInfo, h5, h6]
    simp only [Sem.run_bind, hz, Result.andThen_ok, run_underlying hu.h, hs, Array.toList_map, e1, hf, hcs.h, Sem.run_pure]
  simp only [execOp, Sem.run_bind, hb, Result.andThen_ok, Sem.run_pure]
end
/-- Results, in slots or in memory. -/
class LdV (P : Program) (w0 : World) (W : Nat → Prop) (H : List HE) (ty b q : Nat) (v : outParam Value) : Prop where h : ∀ w, St w0 W H w → (loadVar ty ⟨b, q, none⟩).run P w = .ok v w
instance (priority := 100) (P : Program) (w0 : World) (W : Nat → Prop) (H : List HE) (t tb b q : Nat) (dd : TypeDesc) (v : Value) (cs : List Value) (k : HE → List HE) [Und P t dd] [hd : NoAgg dd] [h : At b H tb cs k] [hg : Get cs q v] : LdV P w0 W H t b q v :=
  ⟨fun w hw => let ⟨_, h4, _⟩ := h.h; run_loadPlain (Und.h (P := P) (t := t)) hd.h (Cell.blk h4 hg.h w hw)⟩
instance (priority := 100) (P : Program) (w0 : World) (W : Nat → Prop) (H : List HE) (t tb b q sz bs : Nat) (z : Value) (dd : TypeDesc) (o cs : List Value) (k : HE → List HE) [Und P t dd] [hd : YesAgg dd] [Inf P t sz bs z] [h : At b H tb cs k] [hg : Cut cs q sz o] : LdV P w0 W H t b q (.agg o.toArray) :=
  ⟨fun w hw => by
    obtain ⟨_, h4, _⟩ := h.h
    have hr : dd.isRow = true := by have := hd.h; cases dd <;> simp_all [aggB]
    exact run_loadVar_mid w b q t o dd (Range.cut h4 hg.h.1 w hw) (Und.h (P := P) (t := t)) hr (by rw [hg.h.2]; exact Inf.size)⟩
def ResL (P : Program) (w0 : World) (W : Nat → Prop) (H : List HE) (σ : List (Nat × Value)) : List ResultVar → List Value → Prop
  | [], vs => vs = []
  | .tmp t :: r, vs => ∃ v us, vs = v :: us ∧ look σ t = some v ∧ ResL P w0 W H σ r us
  | .cell t ty :: r, vs => ∃ v us b q, vs = v :: us ∧ look σ t = some (.pointer (some ⟨b, q, none⟩)) ∧ (∀ w, St w0 W H w → (loadVar ty ⟨b, q, none⟩).run P w = .ok v w) ∧ ResL P w0 W H σ r us
def retV : List Value → Value
  | [v] => v
  | vs => .tuple vs.toArray
section
variable {P : Program} {N : Nat} {w0 : World} {W : Nat → Prop} {σ : List (Nat × Value)} {H : List HE} {n : Nat}
theorem res_nil : ResL P w0 W H σ [] [] := rfl
theorem res_tmp {t : Nat} {v : Value} {r : List ResultVar} {us : List Value} (hv : look σ t = some v) (h : ResL P w0 W H σ r us) : ResL P w0 W H σ (.tmp t :: r) (v :: us) := ⟨v, us, rfl, hv, h⟩
theorem res_cell {t ty b q : Nat} {v : Value} {r : List ResultVar} {us : List Value} (hv : look σ t = some (.pointer (some ⟨b, q, none⟩))) [hl : LdV P w0 W H ty b q v] (h : ResL P w0 W H σ r us) : ResL P w0 W H σ (.cell t ty :: r) (v :: us) := ⟨v, us, b, q, rfl, hv, hl.h, h⟩
def resOp (tmps : Array Value) : ResultVar → Sem Value
  | .tmp t => pure (tmps.getD t undef)
  | .cell b t => do loadVar t (← asAddr (tmps.getD b undef))
theorem ResL.run {ds : List Deferred} {a : Act} {w : World} (ha : Tm N ds σ a) (hw : St w0 W H w) : ∀ {rs : List ResultVar} {vs : List Value}, ResL P w0 W H σ rs vs → (rs.mapM (resOp a.tmps)).run P w = Result.ok vs w
  | [], vs, h => by rw [show vs = [] from h]; rfl
  | .tmp t :: r, _, ⟨v, us, rfl, h1, h2⟩ => by
    have := ResL.run ha hw h2
    rw [List.mapM_cons, Sem.run_bind]
    simp only [resOp, Sem.run_pure, Result.andThen_ok, Sem.run_bind, this, getD_of ha h1]
  | .cell t ty :: r, _, ⟨v, us, b, q, rfl, h1, h3, h2⟩ => by
    have := ResL.run ha hw h2
    rw [List.mapM_cons, Sem.run_bind]
    simp only [resOp, Sem.run_bind, getD_of ha h1, asAddr, Sem.run_pure, Result.andThen_ok, h3 w hw, this]
theorem ResL.all {ds : List Deferred} {a : Act} {w : World} {fn : Func} {rs : List ResultVar} {vs : List Value} (ha : Tm N ds σ a) (hw : St w0 W H w) (hres : fn.results = rs.toArray) (h : ResL P w0 W H σ rs vs) : (results fn a.tmps).run P w = .ok (retV vs) w := by
  have h1 := h.run ha hw
  have e : results fn a.tmps = (fn.results.mapM (resOp a.tmps) >>= fun vs => pure (if h : vs.size = 1 then vs[0] else .tuple vs)) := by
    unfold results
    congr 1
  rw [e, hres, Sem.run_bind, List.mapM_toArray]
  have h2 : (List.toArray <$> rs.mapM (resOp a.tmps)).run P w = .ok vs.toArray w := by
    rw [map_eq_pure_bind, Sem.run_bind, h1]; rfl
  rw [h2]
  match vs with
  | [] => rfl
  | [v] => rfl
  | u :: v :: r => simp [retV]
theorem j_outG {fn : Func} {rs : List ResultVar} {vs : List Value} {S' : List HE} {Rl : Value → List HE → Prop} [hres : FRes fn rs] (hv : ResL P w0 W H σ rs vs) (hs : Sub S' H) (hR : Rl (retV vs) S') : J N [] w0 W σ H (bodyPost P fn (fun e w' => ∃ v S', e = .returned v ∧ Rl v S' ∧ St w0 W S' w') .ret) :=
  fun a w ha hw => ⟨ha.defers, _, hv.all ha hw hres.h, _, S', rfl, hR, hw.sub hs⟩
theorem j_outMG {fn : Func} {rs : List ResultVar} {vs : List Value} {Ds : List Nat} {S' S : List HE} {Rl : Value → List HE → Prop} [hres : FRes fn rs] (hs : Sub (S' ++ marksH Ds) H) (hv : ResL P w0 (blocks S) S' σ rs vs) (hR : Rl (retV vs) S') : J N (marks Ds) w0 (blocks S) σ H (bodyPostM Fence.wide n P fn (Post S w0 Rl) .ret) := fun a w ha hw => by
  have := leaves_marks (n := n) (P := P) (fn := fn) (Rr := Post S w0 Rl) (tmps := a.tmps) (fun w' hw' => ⟨_, hv.all ha hw' hres.h, _, S', rfl, hR, hw'⟩) Ds w (hw.sub hs)
  show LeavesInM _ _ _ _ _ _ a.defers _ _
  rw [ha.defers]; exact this
def ResK (P : Program) (w0 : World) (W : Nat → Prop) (H : List HE) (σ : List (Nat × Value)) (rs : List ResultVar) (K : List Value → Prop) : Prop := ∃ vs, ResL P w0 W H σ rs vs ∧ K vs
theorem k_nil {K : List Value → Prop} (h : K []) : ResK P w0 W H σ [] K := ⟨[], rfl, h⟩
theorem k_tmp {K : List Value → Prop} {t : Nat} {v : Value} {r : List ResultVar} (hv : look σ t = some v) (h : ResK P w0 W H σ r fun us => K (v :: us)) : ResK P w0 W H σ (.tmp t :: r) K := let ⟨us, h1, h2⟩ := h; ⟨v :: us, res_tmp hv h1, h2⟩
theorem k_cell {K : List Value → Prop} {t ty b q : Nat} {v : Value} {r : List ResultVar} (hv : look σ t = some (.pointer (some ⟨b, q, none⟩))) [hl : LdV P w0 W H ty b q v] (h : ResK P w0 W H σ r fun us => K (v :: us)) : ResK P w0 W H σ (.cell t ty :: r) K := let ⟨us, h1, h2⟩ := h; ⟨v :: us, res_cell hv h1, h2⟩
theorem j_outK {fn : Func} {rs : List ResultVar} {S' : List HE} {Rl : Value → List HE → Prop} [hres : FRes fn rs] (hs : Sub S' H) (h : ResK P w0 W H σ rs fun vs => Rl (retV vs) S') : J N [] w0 W σ H (bodyPost P fn (fun e w' => ∃ v S', e = .returned v ∧ Rl v S' ∧ St w0 W S' w') .ret) :=
  let ⟨_, h1, h2⟩ := h
  j_outG h1 hs h2
theorem j_outMS {fn : Func} {rs : List ResultVar} {Ds : List Nat} {S' S S2 : List HE} {Rl : Value → List HE → Prop} [hres : FRes fn rs] (hs : Sub (S2 ++ marksH Ds) H) (hs2 : Sub S' S2) (h : ResK P w0 (blocks S) S2 σ rs fun vs => Rl (retV vs) S') : J N (marks Ds) w0 (blocks S) σ H (bodyPostM Fence.wide n P fn (Post S w0 Rl) .ret) := fun a w ha hw => by
  obtain ⟨vs, h1, h2⟩ := h
  have := leaves_marks (n := n) (P := P) (fn := fn) (Rr := Post S w0 Rl) (tmps := a.tmps) (fun w' hw' => ⟨_, h1.all ha hw' hres.h, _, S', rfl, h2, hw'.sub hs2⟩) Ds w (hw.sub hs)
  show LeavesInM _ _ _ _ _ _ a.defers _ _
  rw [ha.defers]; exact this
theorem j_outMK {fn : Func} {rs : List ResultVar} {Ds : List Nat} {S' S : List HE} {Rl : Value → List HE → Prop} [hres : FRes fn rs] (hs : Sub (S' ++ marksH Ds) H) (h : ResK P w0 (blocks S) S' σ rs fun vs => Rl (retV vs) S') : J N (marks Ds) w0 (blocks S) σ H (bodyPostM Fence.wide n P fn (Post S w0 Rl) .ret) :=
  let ⟨_, h1, h2⟩ := h
  j_outMG hs h1 h2
end
section
variable {F : Fence} {n : Nat} {P : Program} {N : Nat} {ds : List Deferred} {w0 : World} {W : Nat → Prop} {σ : List (Nat × Value)} {H : List HE} {T : List (Nat × Value) → Prop}
variable {ops : Array Oper} {rest : List Oper} {d : Nat} {ty : TypeId} {pos : String} {aft : Array Edge} {gd : Option (Nat × Bool)}
theorem hbd [Wide F] {t sz bs : Nat} {z : Value} {pl : List (Nat × Nat)} {parts : Array (Nat × Operand)} {us : List (Nat × Value)} {zs cs : List Value} [Pl P t pl] [Inf P t sz bs z] (hw : wantd ops σ ⟨some d, .build t parts, ty, pos, aft, gd⟩ = some true) (hv : evs σ parts.toList = some us)
    [hz : ZC z zs] [hl : Laid pl zs us cs] (hf : Instr.fill (pl.toArray[·]?) z.cells us = some (fillL pl z.cells.toList us).toArray) (hdN : Nat.blt d N = true)
    (h : HdJ F n P N ds w0 W H ops rest ((d, .agg cs.toArray) :: σ) T) : HdJ F n P N ds w0 W H ops (⟨some d, .build t parts, ty, pos, aft, gd⟩ :: rest) σ T :=
  h_run rfl hdN hw (fun _ _ hk => r_build hv (by rw [hz.h]; exact hl.h) hf hdN hk) h
end
/-- A loop's record on the list. -/
class AtLoop (l : Nat) (H : List HE) (N : outParam Nat) (σ : outParam (List (Nat × Value))) (ps : outParam (Array Tmp)) (assign body : outParam Code) (st : outParam LoopState) (pend : outParam (Option Code)) (R : outParam (List HE)) : Prop where h : Has H (.loop l N σ ps assign body st pend) R
instance (priority := 100) (l N : Nat) (σ : List (Nat × Value)) (ps : Array Tmp) (assign body : Code) (st : LoopState) (pend : Option Code) (r : List HE) : AtLoop l (.loop l N σ ps assign body st pend :: r) N σ ps assign body st pend r := ⟨.here _ _⟩
instance (priority := 10) (l N : Nat) (σ : List (Nat × Value)) (ps : Array Tmp) (assign body : Code) (st : LoopState) (pend : Option Code) (y : HE) (r R : List HE) [h : AtLoop l r N σ ps assign body st pend R] : AtLoop l (y :: r) N σ ps assign body st pend (y :: R) := ⟨.there y h.h⟩
theorem Sub.of_has {H R : List HE} {x : HE} (h : Has H x R) : Sub (x :: R) H := .cons h (Sub.refl R)
section
variable {F : Fence} {n : Nat} {P : Program} {N : Nat} {ds : List Deferred} {w0 : World} {W : Nat → Prop} {σ : List (Nat × Value)} {H R : List HE} {Q : Exit → Act → World → Prop}
variable {l Nr : Nat} {σr : List (Nat × Value)} {ps : Array Tmp} {assign body : Code} {st : LoopState} {pend : Option Code} {S' S : List HE} {Rl : Value → List HE → Prop}
theorem c_beg {c : Code} [hl : AtLoop l H Nr σr ps assign body .ready pend R] (h : J N ds w0 W σ (.loop l Nr σr ps assign body .busy pend :: R) (c.wpIn F n P Q)) :
    J N ds w0 W σ H (fun a₁ w₁ => ∃ w₂, (Instr.beginRound l).run P w₁ = .ok () w₂ ∧ c.wpIn F n P Q a₁ w₂) := j_perm (Sub.of_has hl.h) (c_begin h)
theorem c_rnH [hl : AtLoop l H Nr σr ps assign body st pend R] (hs : Sub S' (.loop l Nr σr ps assign body .ready none :: R)) (hR : Rl (.bool true) S') : J N ds w0 (blocks S) σ H (roundPost P l (Post S w0 Rl) .normal) := j_perm (Sub.of_has hl.h) (c_rnormal hs hR)
theorem c_rrH [hl : AtLoop l H Nr σr ps assign body st pend R] (hs : Sub S' (.loop l Nr σr ps assign body .done (some .ret) :: R)) (hR : Rl (.bool false) S') : J N ds w0 (blocks S) σ H (roundPost P l (Post S w0 Rl) .ret) := j_perm (Sub.of_has hl.h) (c_rret hs hR)
theorem c_reH {id : Nat} [hl : AtLoop l H Nr σr ps assign body st pend R] (hs : Sub S' (.loop l Nr σr ps assign body .done (some (.exit id)) :: R)) (hR : Rl (.bool false) S') : J N ds w0 (blocks S) σ H (roundPost P l (Post S w0 Rl) (.exit id)) := j_perm (Sub.of_has hl.h) (c_rexit hs hR)
end
instance (priority := 3000) {P : Program} {w0 : World} {W : Nat → Prop} {H : List HE} (t u : TypeId) (x y : Operand) (b : Bool) [Und P t .bool] : LV P w0 W H (.binOp .neq t x y u) [.bool false, .bool b] (.bool b) True := ⟨fun c => by
  have := LV.h (P := P) (w0 := w0) (W := W) (H := H) (op := .binOp .neq t x y u) (vs := [.bool false, .bool b]) (v := .bool (!(false == b))) c
  cases b <;> exact this⟩
instance (priority := 3000) {P : Program} {w0 : World} {W : Nat → Prop} {H : List HE} (t u : TypeId) (x y : Operand) (b : Bool) [Und P t .bool] : LV P w0 W H (.binOp .neq t x y u) [.bool true, .bool b] (.bool (!b)) True := ⟨fun c => by
  have := LV.h (P := P) (w0 := w0) (W := W) (H := H) (op := .binOp .neq t x y u) (vs := [.bool true, .bool b]) (v := .bool (!(true == b))) c
  cases b <;> exact this⟩
instance (priority := 3000) {P : Program} {w0 : World} {W : Nat → Prop} {H : List HE} (t u : TypeId) (x y : Operand) (a b : Int) : LV P w0 W H (.binOp .sub t x y u) [.int .u32 a, .int .u32 b] (.int .u32 ((a - b) % 4294967296)) True := ⟨fun _ ρ o ho h w _ => pv_bin (by simp [binv, IntKind.wrap, IntKind.bits, IntKind.signed]) ρ o ho h w⟩
instance (priority := 5) {P : Program} {w0 : World} {W : Nat → Prop} {H : List HE} (c x y : Operand) (b v : Bool) : LV P w0 W H (.pick c x y) [.bool b, .bool true, .bool v] (.bool (b || v)) True := ⟨by
  rintro _ ρ ⟨dst, op', ty, pos, aft, gd⟩ rfl h w _
  have h1 : ρ c = .bool b ∧ ρ x = .bool true ∧ ρ y = .bool v := by simpa [Op.operands] using h
  cases b <;> simp [execOp, h1.1, h1.2.1, h1.2.2, asBool]⟩
end Go.Proofs.YtemmnpgebpffbaaGreat
/- Packages crc and bits (Put, Get) and their references: sums, and numbers as bytes. -/
namespace Go.Proofs.YtemmnpgebpffbaaGreat
open Go.RowKit
section
variable {P : Program} {w0 : World} {W : Nat → Prop} {H : List HE}
instance (t : TypeId) (x : Operand) (a : Int) : MS P w0 W H (.unOp .xor t x) [.int .u32 a] (.int .u32 (bits .xor .u32 4294967295 a)) True := ⟨fun _ _ _ _ _ _ _ _ _ _ _ _ _ _ h1 h2 h3 => o_val (by simp) rfl h2 (fun a w ha _ => by simp only [execOp, ha.eval (opnds1 rfl h1), Op.unary, Op.intBits]; rfl) h3⟩
instance (k : IntKind) (a : List Int) (v1 v2 v3 v4 : Int) : AppI (ints k a) [.int k v1, .int k v2, .int k v3, .int k v4] (ints k (a ++ [v1, v2, v3, v4])) := ⟨by simp [ints]⟩
end
theorem getD_u8 {ys : List Int} (h : U8s ys) (i : Nat) : 0 ≤ ys.getD i 0 ∧ ys.getD i 0 < 256 := by
  rcases Nat.lt_or_ge i ys.length with h1 | h1
  · exact h _ (by rw [List.getD_eq_getElem?_getD, List.getElem?_eq_getElem h1]; exact List.getElem_mem ..)
  · rw [List.getD_eq_getElem?_getD, List.getElem?_eq_none h1]; simp
theorem step_eq {r : Nat} (hr : r < 4294967296) : bits .xor .u32 ((r : Int) / 2 ^ 1) (bits .and .u32 3988292384 (IntKind.u32.wrap (0 - bits .and .u32 (r : Int) 1))) = (crcB r : Nat) := by
  have h1 : bits .and .u32 (r : Int) 1 = ((r % 2 : Nat) : Int) := by
    have := u32_and_nat r 1 hr (by omega)
    rw [nat_mask1] at this
    exact this
  have h2 : (r : Int) / 2 ^ 1 = ((r / 2 : Nat) : Int) := by omega
  rw [h1, h2]
  unfold crcB
  rcases Nat.mod_two_eq_zero_or_one r with h | h
  · rw [h, if_neg (by omega)]
    exact u32_xor_nat (r / 2) 0 (by omega) (by omega)
  · rw [h, if_pos rfl]
    exact u32_xor_nat (r / 2) 3988292384 (by omega) (by omega)
attribute [local irreducible] OJ J HdJ Code.wpIn wpListIn Oper.wpIn bodyPost CallsIn Does
set_option maxRecDepth 4000
set_option maxHeartbeats 4000000 in
theorem byteStep_any (r : Nat) (hr : r < 4294967296) (w : World) : Does Tryz.prog 136 [.int .u32 r] [] w (fun v S' => v = .int .u32 (crcK 8 r : Nat) ∧ S' = []) := by
  refine does_of Tryz.func136 rfl Tryz.ntmps136 rfl ⟨by simp, .nil⟩ (fun n => ?_)
  simp only [slots]
  refine z_gox
  refine c_loop (X := Nat) (fun i => i ≤ 8) (fun i => [(0, .int .u32 (crcK i r : Nat)), (4, .int .i64 i)]) (fun _ => []) (fun i => 8 - i) 0 (by simp) ⟨rfl, rfl, trivial⟩ (.nil _) ?_
  intro i hi
  have hk := crcK_lt hr i
  have hs := step_eq hk
  refine z_tas
  · exact c_round (i + 1) (by show i + 1 ≤ 8; omega) (by show 8 - (i + 1) < 8 - i; omega) ⟨by rw [hs]; rfl, by simp [look], trivial⟩ (.nil _)
  · obtain rfl : i = 8 := by omega
    exact j_out1 rfl rfl (.nil _) ⟨rfl, rfl⟩
set_option maxHeartbeats 8000000 in
theorem sum_any (A : Option Addr) (c : Nat) (ys : List Int) (w : World) (hr : RoA w (blocks []) A ys.length c 1 (ints .u8 ys)) (hu : U8s ys) (hm : ys.length < 1000000000) :
    Does Tryz.prog 116 [.slice A ys.length c] [] w (fun v S' => v = .int .u32 (sumY ys : Nat) ∧ S' = []) := by
  refine does_of Tryz.func116 rfl Tryz.ntmps116 rfl ⟨by simp, .nil⟩ (fun n => ?_)
  simp only [slots]
  refine z_gox
  refine c_loop (X := Nat) (fun i => i ≤ ys.length) (fun i => [(3, .int .u32 (crcTo ys 4294967295 i : Nat)), (6, .slice A ys.length c), (7, .int .i64 ys.length), (8, .int .i64 i)]) (fun _ => []) (fun i => ys.length - i) 0 (by simp) ⟨rfl, rfl, rfl, rfl, trivial⟩ (.nil _) ?_
  intro i hi
  have hk := crcTo_lt hu (r := 4294967295) (by omega) i hi
  have hy := getD_u8 hu i
  rcases Nat.lt_or_ge i ys.length with h | h
  · obtain ⟨bA, oA, rfl, hA⟩ := hr.at_ (by omega : 0 < ys.length)
    have hx : bits .xor .u32 (crcTo ys 4294967295 i : Nat) (ys.getD i 0) = ((crcTo ys 4294967295 i ^^^ (ys.getD i 0).toNat : Nat) : Int) := u32_xor _ _ (by omega) (by omega) (by omega) (by omega)
    have hxl : crcTo ys 4294967295 i ^^^ (ys.getD i 0).toNat < 4294967296 := Nat.xor_lt_two_pow (n := 32) hk (by omega)
    refine z_tas
    rw [hx]
    refine lfv rfl rfl rfl (fun w _ => byteStep_any _ hxl w) ?_
    refine z_tas
    exact c_round (i + 1) (by show i + 1 ≤ _; omega) (by show _ - (i + 1) < _ - i; omega) ⟨rfl, rfl, rfl, by simp [look], trivial⟩ (.nil _)
  · obtain rfl : i = ys.length := by omega
    have hx : bits .xor .u32 4294967295 (crcTo ys 4294967295 ys.length : Nat) = ((4294967295 ^^^ crcTo ys 4294967295 ys.length : Nat) : Int) := u32_xor_nat 4294967295 _ (by omega) hk
    refine z_tas
    exact j_out1 rfl rfl (.nil _) ⟨by rw [hx]; rfl, rfl⟩
theorem sum_anyM (A : Option Addr) (c m : Nat) (ys : List Int) (w : World) (hl : ys.length = m) (hr : RoA w (blocks []) A m c 1 (ints .u8 ys)) (hu : U8s ys) (hm : m < 1000000000) :
    Does Tryz.prog 116 [.slice A m c] [] w (fun v S' => v = .int .u32 (sumY ys : Nat) ∧ S' = []) := by
  subst hl
  exact sum_any A c ys w hr hu hm
/-- A number put behind bytes. -/
theorem bput_byte (x i : Nat) : (x : Int) / 2 ^ (8 * i) % 256 = ((x / 256 ^ i % 256 : Nat) : Int) := by
  rw [pow256]; push_cast; rfl
set_option maxHeartbeats 16000000 in
theorem bput_any (A : Option Addr) (c : Nat) (ys : List Int) (x size : Nat) (w : World) (hr : RoA w (blocks []) A ys.length c 1 (ints .u8 ys)) (hx : x < 18446744073709551616) (hs : size ≤ 8) (hm : ys.length < 1000000000) :
    Does Tryz.prog 81 [.slice A ys.length c, .int .u64 x, .int .i64 size] [] w (fun v S' => ∃ A' c', v = .slice A' (ys ++ bytesN x size).length c' ∧ S' = [.row (.slice A' (ys ++ bytesN x size).length c') 5 1 (ys ++ bytesN x size).length (ints .u8 (ys ++ bytesN x size))]) := by
  refine does_of Tryz.func81 rfl Tryz.ntmps81 rfl ⟨by simp, .nil⟩ (fun n => ?_)
  simp only [slots]
  have hbl := bytesN_len x size
  refine z_gox
  rename_i A0 c0
  refine c_loop (X := Nat × Option Addr × Nat) (fun q => q.1 ≤ size) (fun q => [(1, .int .u64 x), (7, .slice q.2.1 (ys ++ (bytesN x size).take q.1).length q.2.2), (13, .int .i64 size), (14, .int .i64 q.1)])
    (fun q => [.row (.slice q.2.1 (ys ++ (bytesN x size).take q.1).length q.2.2) 5 1 (ys ++ (bytesN x size).take q.1).length (ints .u8 (ys ++ (bytesN x size).take q.1))]) (fun q => size - q.1) (0, A0, c0) (by simp) ⟨rfl, by simp [look], rfl, rfl, trivial⟩ (by simp only [List.take_zero, List.append_nil]; exact Sub.au) ?_
  rintro ⟨i, A1, c1⟩ hi
  simp only at hi ⊢
  have htl : (ys ++ (bytesN x size).take i).length = ys.length + i := by rw [List.length_append, List.length_take]; omega
  rcases Nat.lt_or_ge i size with h | h
  · have hat := bytesN_take x size i h
    have e8 : (8 * (i : Int)).toNat = 8 * i := by omega
    rw [← bput_byte, ← IntKind.wrap_u8', ← e8] at hat
    refine z_tas
    rename_i A2 c2
    rw [List.append_assoc, ← hat]
    exact c_round (i + 1, A2, c2) (by show i + 1 ≤ _; omega) (by show _ - (i + 1) < _ - i; omega) ⟨rfl, rfl, rfl, by simp [look], trivial⟩ Sub.au
  · obtain rfl : i = size := by omega
    rw [List.take_of_length_le (by omega : (bytesN x i).length ≤ i)]
    refine z_tas
    exact j_out1 rfl rfl Sub.au ⟨_, _, rfl, rfl⟩
theorem or_step {x y i : Nat} (hx : x < 256 ^ i) (hy : y < 256) (hi : i < 8) : bits .or .u64 (x : Int) (IntKind.u64.wrap ((y : Int) * 2 ^ min (8 * (i : Int)).toNat IntKind.u64.bits)) = ((x + 256 ^ i * y : Nat) : Int) := by
  have e1 : min (8 * (i : Int)).toNat IntKind.u64.bits = 8 * i := by simp only [IntKind.bits]; omega
  have e2 : (y : Int) * 2 ^ (8 * i) = ((256 ^ i * y : Nat) : Int) := by rw [pow256]; push_cast; rw [Int.mul_comm]
  have h7 : 256 ^ i ≤ 256 ^ 7 := Nat.pow_le_pow_right (by omega) (by omega)
  have h8 : 256 ^ i * y ≤ 256 ^ i * 255 := Nat.mul_le_mul_left _ (by omega)
  rw [e1, e2, wrap_in (by simp only [InR]; omega), u64_or_nat _ _ (by omega) (by omega), Nat.or_comm, nat_join (8 * i) _ _ (by rw [pow256, Nat.mul_mod_right]) (by rw [← pow256]; exact hx), Nat.add_comm]
theorem leY_succ {ys : List Int} {a i : Nat} (h : a + i < ys.length) : leY ys a (i + 1) = leY ys a i + 256 ^ i * (ys.getD (a + i) 0).toNat := by
  unfold leY seg
  have e : (ys.drop a).take (i + 1) = (ys.drop a).take i ++ [ys.getD (a + i) 0] := by
    rw [List.take_succ_eq_append_getElem (by rw [List.length_drop]; omega), List.getElem_drop, List.getD_eq_getElem?_getD, List.getElem?_eq_getElem h]
    rfl
  rw [e, numY_app, List.length_take, List.length_drop, Nat.min_eq_left (by omega)]
  simp [numY]
set_option maxHeartbeats 16000000 in
theorem bget_any (A : Option Addr) (c : Nat) (ys : List Int) (at_ size : Nat) (w : World) (hr : RoA w (blocks []) A ys.length c 1 (ints .u8 ys)) (hu : U8s ys) (hs : size ≤ 8) (ha : at_ + size ≤ ys.length) (hm : ys.length < 1000000000) :
    Does Tryz.prog 138 [.slice A ys.length c, .int .i64 at_, .int .i64 size] [] w (fun v S' => v = .tuple #[.int .u64 (leY ys at_ size : Nat), .int .i64 0] ∧ S' = []) := by
  refine does_of Tryz.func138 rfl Tryz.ntmps138 rfl ⟨by simp, .nil⟩ (fun n => ?_)
  simp only [slots]
  refine z_tas
  refine c_loop (X := Nat) (fun i => i ≤ size) (fun i => [(0, .slice A ys.length c), (1, .int .i64 at_), (8, .int .u64 (leY ys at_ i : Nat)), (34, .int .i64 size), (35, .int .i64 i)]) (fun _ => []) (fun i => size - i) 0 (by simp) ⟨rfl, rfl, by simp [look, leY, seg, numY], rfl, rfl, trivial⟩ (.nil _) ?_
  intro i hi
  rcases Nat.lt_or_ge i size with h | h
  · obtain ⟨bA, oA, rfl, hA⟩ := hr.at_ (by omega : 0 < ys.length)
    have hlt := leY_lt hu (a := at_) (n := i) (by omega)
    have hy := getD_u8 hu ((at_ : Int) + i).toNat
    have ee : ((at_ : Int) + i).toNat = at_ + i := by omega
    have hor := or_step hlt (y := (ys.getD (at_ + i) 0).toNat) (i := i) (by rw [← ee]; omega) (by omega)
    rw [Int.toNat_of_nonneg (by rw [← ee]; omega), ← leY_succ (by omega), ← ee] at hor
    refine z_tas
    exact c_round (i + 1) (by show i + 1 ≤ _; omega) (by show _ - (i + 1) < _ - i; omega) ⟨rfl, rfl, by simp only [look]; first | (rw [hor]; rfl) | (simp; exact hor), rfl, by simp [look], trivial⟩ (.nil _)
  · obtain rfl : i = size := by omega
    refine z_tas
    exact j_out2 rfl rfl rfl (.nil _) ⟨rfl, rfl⟩
set_option maxHeartbeats 16000000 in
theorem crcput_any (A : Option Addr) (c : Nat) (ys : List Int) (w : World) (hr : RoA w (blocks []) A ys.length c 1 (ints .u8 ys)) (hu : U8s ys) (hm : ys.length < 1000000000) :
    Does Tryz.prog 80 [.slice A ys.length c] [] w (fun v S' => ∃ A' c', v = .slice A' (crcP ys).length c' ∧ S' = [.row (.slice A' (crcP ys).length c') 5 1 (crcP ys).length (ints .u8 (crcP ys))]) := by
  have hsl := sumY_lt hu
  have hb : ys ++ [IntKind.u8.wrap (sumY ys : Nat), IntKind.u8.wrap ((sumY ys : Nat) / 2 ^ 8), IntKind.u8.wrap ((sumY ys : Nat) / 2 ^ 16), ((sumY ys : Nat) : Int) / 2 ^ 24] = crcP ys := by
    unfold crcP
    congr 1
    simp only [bytesN, List.range_succ, List.range_zero, List.nil_append, List.cons_append, List.map_cons, List.map_nil, IntKind.wrap_u8']
    simp only [List.cons.injEq, and_true]
    omega
  refine does_of Tryz.func80 rfl Tryz.ntmps80 rfl ⟨by simp, .nil⟩ (fun n => ?_)
  simp only [slots]
  refine z_gox
  refine lfv rfl rfl rfl (fun w hw => sum_any A c ys w ⟨hr.h.go hw (Split.nil _)⟩ hu hm) ?_
  refine z_gox
  rw [hb]
  exact j_out1 rfl rfl (.cons (.there _ (.here _ _)) (.nil _)) ⟨_, _, rfl, rfl⟩
theorem crc_get {ys : List Int} {m : Nat} (hl : ys.length = m + 4) : crcOk ys ↔ ∀ i, i < 4 → ys.getD (m + i) 0 = ((sumY (ys.take m) / 256 ^ i % 256 : Nat) : Int) := by
  unfold crcOk
  rw [show ys.length - 4 = m by omega]
  constructor
  · rintro ⟨-, h⟩ i hi
    rw [← bytesN_get _ 4 i hi, ← h]
    simp [List.getD_eq_getElem?_getD]
  · intro h
    refine ⟨by omega, List.ext_getElem (by rw [List.length_drop, bytesN_len]; omega) fun i h1 h2 => ?_⟩
    have hi : i < 4 := by rw [bytesN_len] at h2; exact h2
    have := h i hi
    rw [← bytesN_get _ 4 i hi, List.getD_eq_getElem?_getD, List.getD_eq_getElem?_getD, List.getElem?_eq_getElem (by omega), List.getElem?_eq_getElem h2] at this
    rw [List.getElem_drop]
    simpa using this
set_option maxHeartbeats 16000000 in
theorem crcget_any (A : Option Addr) (c n : Nat) (ys : List Int) (w : World) (hl : ys.length = n) (hr : RoA w (blocks []) A n c 1 (ints .u8 ys)) (hu : U8s ys) (hm : n < 1000000000) :
    Does Tryz.prog 120 [.slice A n c] [] w (fun v S' => (crcOk ys ∧ ∃ A' c', v = .tuple #[.slice A' (ys.take (n - 4)).length c', .bool true] ∧ S' = [.row (.slice A' (ys.take (n - 4)).length c') 5 1 (ys.take (n - 4)).length (ints .u8 (ys.take (n - 4)))]) ∨ (¬ crcOk ys ∧ v = .tuple #[.slice none 0 0, .bool false] ∧ S' = [])) := by
  subst hl
  refine does_of Tryz.func120 rfl Tryz.ntmps120 rfl ⟨by simp, .nil⟩ (fun n => ?_)
  simp only [slots]
  rcases Nat.lt_or_ge ys.length 4 with h | h
  · refine z_gob
    exact j_out2 rfl rfl rfl (.nil _) (.inr ⟨fun e => by have := e.1; omega, rfl, rfl⟩)
  have hcl : ys.length ≤ c := by obtain ⟨_, _, e, q1, -⟩ := hr.h; injection e with _ _ e; omega
  obtain ⟨m, hm2⟩ : ∃ m, ys.length = m + 4 := ⟨ys.length - 4, by omega⟩
  have hcg := crc_get hm2
  have hmm : (ys.length : Int) - 4 = (m : Nat) := by omega
  have hm4 : ys.length - 4 = m := by omega
  have htl : (ys.take m).length = m := by rw [List.length_take]; omega
  have hsl := sumY_lt (ys := ys.take m) (fun x hx => hu x (List.mem_of_mem_take hx))
  rw [hm4]
  refine z_tas
  refine j_set 13 _ rfl (v' := .int .i64 (m : Nat)) (by rw [hmm]) ?_
  refine j_set 4 _ rfl (v' := .int .i64 (m : Nat)) (by rw [hmm]) ?_
  refine j_sub 0 m hr (by omega) fun hr0 => ?_
  rw [List.drop_zero, Nat.sub_zero] at hr0
  refine z_tas
  refine lfv rfl rfl rfl (fun w hw => sum_anyM _ _ m (ys.take m) w htl ⟨hr0.h.go hw (Split.nil _)⟩ (fun x hx => hu x (List.mem_of_mem_take hx)) (by omega)) ?_
  refine z_tas
  refine c_loop (X := Nat) (fun i => i ≤ 4 ∧ ∀ j, j < i → ys.getD (m + j) 0 = ((sumY (ys.take m) / 256 ^ j % 256 : Nat) : Int)) (fun i => [(0, .slice A ys.length c), (4, .int .i64 m), (5, .int .u32 (sumY (ys.take m) : Nat)), (16, .int .i64 i)]) (fun _ => []) (fun i => 4 - i) 0 ⟨by simp, fun j hj => by omega⟩ ⟨rfl, rfl, rfl, rfl, trivial⟩ (.nil _) ?_
  rintro i ⟨hi, hjs⟩
  obtain ⟨bA, oA, rfl, hA⟩ := hr.at_ (by omega : 0 < ys.length)
  have e8 : (8 * (i : Int)).toNat = 8 * i := by omega
  have em : ((m : Int) + i).toNat = m + i := by omega
  have hby := bput_byte (sumY (ys.take m)) i
  rw [← IntKind.wrap_u8', ← e8] at hby
  have hji := hjs
  refine z_tas
  · rename_i hne
    rw [em, hby] at hne
    exact j_out2 rfl rfl rfl (.nil _) (.inr ⟨fun e => hne (hcg.1 e i (by omega)), rfl, rfl⟩)
  · rename_i hne
    rw [em, hby] at hne
    refine c_round (i + 1) ⟨by omega, fun j hj => ?_⟩ (by show 4 - (i + 1) < 4 - i; omega) ⟨rfl, rfl, rfl, by simp [look], trivial⟩ (.nil _)
    rcases Nat.lt_or_ge j i with h1 | h1
    · exact hjs j h1
    · obtain rfl : j = i := by omega
      exact Decidable.of_not_not hne
  · exact j_out2 rfl rfl rfl Sub.au (.inl ⟨hcg.2 fun j hj => hjs j (by omega), _, _, rfl, rfl⟩)
theorem put_byte2 (x i : Nat) : ((x / 256 ^ i : Nat) : Int) % 256 = ((x / 256 ^ i % 256 : Nat) : Int) := by push_cast; rfl
set_option maxHeartbeats 16000000 in
theorem chnum_any (A : Option Addr) (c : Nat) (ys : List Int) (at_ size : Nat) (w : World) (hr : RoA w (blocks []) A ys.length c 1 (ints .u8 ys)) (hu : U8s ys) (hs : size ≤ 4) (ha : at_ + size ≤ ys.length) (hm : ys.length < 1000000000) :
    Does Tryz.prog 119 [.slice A ys.length c, .int .i64 at_, .int .i64 size] [] w (fun v S' => v = .int .i64 (leY ys at_ size : Nat) ∧ S' = []) := by
  have hlt := leY_lt hu ha
  have h4 : 256 ^ size ≤ 256 ^ 4 := Nat.pow_le_pow_right (by omega) hs
  refine does_of Tryz.func119 rfl Tryz.ntmps119 rfl ⟨by simp, .nil⟩ (fun n => ?_)
  simp only [slots]
  refine z_gox
  refine lfv rfl rfl rfl (fun w hw => bget_any A c ys at_ size w ⟨hr.h.go hw (Split.nil _)⟩ hu (by omega) ha hm) ?_
  refine z_tas
  exact j_out1 rfl rfl (.nil _) ⟨rfl, rfl⟩
end Go.Proofs.YtemmnpgebpffbaaGreat
/- The engine: in a drawn region, an operation that only reckons may be taken first. -/
namespace Go.Proofs.YtemmnpgebpffbaaGreat
open Go.RowKit
def pickOk (ops : Array Oper) (mask : List Bool) (rest : List Nat) (i d : Nat) (o : Oper) : Bool :=
  rest.contains i && ((List.range ops.size).all fun j => match ops[j]? with
    | none => true
    | some o' => plainB o' && (Nat.beq j i || (o'.dst != some d && (!(o'.looksAt ops).contains d || edgeB ops j i)))) &&
  rest.all fun j => (!litB ops mask j || litB ops mask i) && (match dstAt ops j with | some t => !(o.looksAt ops).contains t | none => true)
theorem vals_mapP {σ : List (Nat × Value)} {ρ : Operand → Value} : ∀ {l : List Operand} {vs : List Value}, vals σ l = some vs → (∀ x ∈ l, ∀ u, ev σ x = some u → ρ x = u) → l.map ρ = vs := by
  intro l
  induction l with
  | nil => intro vs hv _; simp [vals] at hv; simp [hv]
  | cons x r ih =>
    intro vs hv h
    simp only [vals] at hv
    cases hx : ev σ x with
    | none => simp [hx] at hv
    | some u =>
      cases hr : vals σ r with
      | none => simp [hx, hr] at hv
      | some us =>
        simp [hx, hr] at hv
        subst hv
        rw [List.map_cons, h x (List.mem_cons_self ..) u hx, ih hr fun y hy => h y (List.mem_cons_of_mem _ hy)]
theorem put_comm (a : Act) (d : Nat) (v : Value) (e : Option Nat) (u : Value) (h : e ≠ some d) : (a.put e u).put (some d) v = (a.put (some d) v).put e u := by
  cases e with
  | none => rfl
  | some t =>
    simp only [Act.put]
    congr 1
    exact Array.setIfInBounds_comm _ _ (fun e => h (by rw [e]))
theorem pick_core {F : Fence} {n : Nat} {P : Program} {w0 : World} {W : Nat → Prop} {HL : List HE} {Q : Exit → Act → World → Prop} {ops : Array Oper} {mask : List Bool} [hF : Wide F] {i d : Nat} {o : Oper} {v : Value} {L : Nat → Option Value}
    (hio : ops[i]? = some o) (hd : o.dst = some d)
    (hpl : ∀ (j : Nat) (o' : Oper), ops[j]? = some o' → plainB o' = true)
    (hoth : ∀ (j : Nat) (o' : Oper), j ≠ i → ops[j]? = some o' → o'.dst ≠ some d ∧ (d ∈ o'.looksAt ops → edgeB ops j i = true))
    (hval : ∀ a : Act, (∀ t ∈ o.looksAt ops, ∀ u, L t = some u → a.tmps[t]? = some u) → Region.wanted o (yielded ops a.tmps) = true ∧ ∀ w, (execOp a.eval o).run P w = .ok (.value v) w) :
    ∀ (m : Nat) (rest : List Nat) (a : Act) (w : World), i ∈ rest → rest.length ≤ m + 1 → (∀ j ∈ rest, litB ops mask j = true → litB ops mask i = true) → (∀ j ∈ rest, ∀ t, dstAt ops j = some t → t ∉ o.looksAt ops) → (litB ops mask i = true ∨ St w0 W HL w) →
      (∀ t ∈ o.looksAt ops, ∀ u, L t = some u → a.tmps[t]? = some u) → wpT F n P w0 W HL ops mask Q m (rest.erase i) (a.put (some d) v) w → wpT F n P w0 W HL ops mask Q (m + 1) rest a w := by
  have hnd : ∀ (j : Nat) (o' : Oper), ops[j]? = some o' → ∀ c, o'.op ≠ .defer c := by
    intro j o' h c e
    have := hpl j o' h
    unfold plainB at this; rw [e] at this; cases this
  intro m
  induction m with
  | zero =>
    intro rest a w hi hlen hlit hdst hst ha h
    refine ⟨fun e => (by rw [e] at hi; cases hi), fun j hj hr => ?_⟩
    have hji : j = i := by
      match rest, hlen, hi, hj with
      | [x], _, hi, hj => rw [List.mem_singleton.1 hi, List.mem_singleton.1 hj]
    subst hji
    have hopsAt : opsAt ops [j] = [o] := by simp [opsAt, hio]
    rw [hopsAt]
    obtain ⟨hw1, hw2⟩ := hval a ha
    simp only [wpListIn]
    rw [if_pos hw1]
    refine ⟨fun f _ => hF.out.fn f, ?_⟩
    rw [Oper.semAt_plain F _ _ (hnd j o hio), hw2 w, Oper.uponIn_value, hd]
    exact ⟨hst, h⟩
  | succ m ih =>
    intro rest a w hi hlen hlit hdst hst ha h
    refine ⟨fun e => (by rw [e] at hi; cases hi), fun j hj hr => ?_⟩
    by_cases hji : j = i
    · subst hji
      have hopsAt : opsAt ops [j] = [o] := by simp [opsAt, hio]
      rw [hopsAt]
      obtain ⟨hw1, hw2⟩ := hval a ha
      simp only [wpListIn]
      rw [if_pos hw1]
      refine ⟨fun f _ => hF.out.fn f, ?_⟩
      rw [Oper.semAt_plain F _ _ (hnd j o hio), hw2 w, Oper.uponIn_value, hd]
      exact ⟨hst, h⟩
    · have hwp := h.2 j ((List.mem_erase_of_ne hji).2 hj) (fun k hk => hr k (List.mem_of_mem_erase hk))
      cases hjo : ops[j]? with
      | none =>
        have hopsAt : opsAt ops [j] = [] := by simp [opsAt, hjo]
        rw [hopsAt] at hwp ⊢
        obtain ⟨hob, hwp⟩ := hwp
        refine ⟨hob, ih (rest.erase j) a w ((List.mem_erase_of_ne (fun e => hji e.symm)).2 hi) (by have := List.length_erase_of_mem hj; omega) (fun k hk => hlit k (List.mem_of_mem_erase hk)) (fun k hk => hdst k (List.mem_of_mem_erase hk)) hst ha ?_⟩
        have := hwp
        rw [List.erase_comm] at this
        exact this
      | some o' =>
        have hopsAt : opsAt ops [j] = [o'] := by simp [opsAt, hjo]
        rw [hopsAt] at hwp ⊢
        obtain ⟨hne, hlk⟩ := hoth j o' hji hjo
        have hnl : d ∉ o'.looksAt ops := fun hm => by have := hr i hi; rw [hlk hm] at this; cases this
        have hagree : ∀ t ∈ o'.looksAt ops, a.tmps[t]? = (a.put (some d) v).tmps[t]? := by
          intro t ht
          simp only [Act.put, Array.getElem?_setIfInBounds]
          rw [if_neg (fun e => hnl (by rw [e]; exact ht))]
        have hwt : Region.wanted o' (yielded ops a.tmps) = Region.wanted o' (yielded ops (a.put (some d) v).tmps) := by
          unfold Region.wanted
          cases hg : o'.guard with
          | none => rfl
          | some g =>
            obtain ⟨j', c⟩ := g
            simp only [yielded]
            cases hj : (ops[j']?).bind (·.dst) with
            | none => rfl
            | some t =>
              have : t ∈ o'.looksAt ops := by
                unfold Oper.looksAt
                rw [hg]
                exact List.mem_append_right _ (by simp [hj])
              simp only [Option.bind_some, hagree t this]
        have hev : execOp a.eval o' = execOp (a.put (some d) v).eval o' := by
          refine execOp_congr o' (fun cs c e => ?_) fun x hx => eval_of fun t e => ?_
          · have := hpl j o' hjo
            unfold plainB at this; rw [e] at this; cases this
          · subst e
            exact hagree t (List.mem_append_left _ (List.mem_filterMap.2 ⟨.tmp t, by simpa using hx, rfl⟩))
        have hnext : ∀ (ds : List Deferred) (u : Value) (w' : World), wpListIn F n P ops (nq fun _ b'' w'' => (litB ops mask j = true ∨ St w0 W HL w'') ∧ wpT F n P w0 W HL ops mask Q m ((rest.erase i).erase j) b'' w'') [] (({ (a.put (some d) v) with defers := ds } : Act).put o'.dst u) w' →
            wpListIn F n P ops (nq fun _ b'' w'' => (litB ops mask j = true ∨ St w0 W HL w'') ∧ wpT F n P w0 W HL ops mask Q (m + 1) (rest.erase j) b'' w'') [] (({ a with defers := ds } : Act).put o'.dst u) w' := by
          intro ds u w' hh
          obtain ⟨h1, h2⟩ := hh
          have hst' : litB ops mask i = true ∨ St w0 W HL w' := h1.imp (hlit j hj) id
          refine ⟨h1, ih (rest.erase j) _ w' ((List.mem_erase_of_ne (fun e => hji e.symm)).2 hi) (by have := List.length_erase_of_mem hj; omega) (fun k hk => hlit k (List.mem_of_mem_erase hk)) (fun k hk => hdst k (List.mem_of_mem_erase hk)) hst' (fun t ht u' hu' => ?_) ?_⟩
          · cases hdj : o'.dst with
            | none => exact ha t ht u' hu'
            | some e =>
              have hne2 : e ≠ t := fun hh => hdst j hj e (by simp [dstAt, hjo, hdj]) (by rw [hh]; exact ht)
              simp only [Act.put, Array.getElem?_setIfInBounds]
              rw [if_neg hne2]
              exact ha t ht u' hu'
          · rw [List.erase_comm, put_comm _ _ _ _ _ hne]
            exact h2
        simp only [wpListIn] at hwp ⊢
        rw [hwt]
        by_cases hw : Region.wanted o' (yielded ops (a.put (some d) v).tmps) = true
        · rw [if_pos hw] at hwp ⊢
          refine ⟨fun f _ => hF.out.fn f, ?_⟩
          have h2 := hwp.2
          rw [Oper.semAt_plain F _ _ (hnd j o' hjo), ← hev] at h2
          rw [Oper.semAt_plain F _ _ (hnd j o' hjo)]
          exact uponIn_sim h2 (fun u w' hh => hnext a.defers u w' hh) (fun x w' hh => hnext (x :: a.defers) undef w' hh)
        · rw [if_neg hw] at hwp ⊢
          exact ⟨fun f _ => hF.out.fn f, hnext a.defers undef w hwp.2⟩
/-- A tree that keeps more. -/
theorem wpT_strong {F : Fence} {n : Nat} {P : Program} {w0 : World} {W : Nat → Prop} {HL : List HE} {Q : Exit → Act → World → Prop} {ops : Array Oper} {mask mask' : List Bool} (hm : ∀ i, litB ops mask' i = true → litB ops mask i = true) :
    ∀ (m : Nat) (rest : List Nat) (b : Act) (w : World), wpT F n P w0 W HL ops mask' Q m rest b w → wpT F n P w0 W HL ops mask Q m rest b w := by
  intro m
  induction m with
  | zero => intro rest b w h; exact h
  | succ m ih =>
    intro rest b w h
    refine ⟨h.1, fun j hj hr => ?_⟩
    have hwp := h.2 j hj hr
    cases hjo : ops[j]? with
    | none =>
      have hopsAt : opsAt ops [j] = [] := by simp [opsAt, hjo]
      rw [hopsAt] at hwp ⊢
      exact ⟨hwp.1.imp (hm j) id, ih _ _ _ hwp.2⟩
    | some o' =>
      have hopsAt : opsAt ops [j] = [o'] := by simp [opsAt, hjo]
      rw [hopsAt] at hwp ⊢
      have hnext : ∀ (c : Act) (w' : World), wpListIn F n P ops (nq fun _ b'' w'' => (litB ops mask' j = true ∨ St w0 W HL w'') ∧ wpT F n P w0 W HL ops mask' Q m (rest.erase j) b'' w'') [] c w' →
          wpListIn F n P ops (nq fun _ b'' w'' => (litB ops mask j = true ∨ St w0 W HL w'') ∧ wpT F n P w0 W HL ops mask Q m (rest.erase j) b'' w'') [] c w' := fun c w' hh => ⟨hh.1.imp (hm j) id, ih _ _ _ hh.2⟩
      simp only [wpListIn] at hwp ⊢
      by_cases hw : Region.wanted o' (yielded ops b.tmps) = true
      · rw [if_pos hw] at hwp ⊢
        exact ⟨hwp.1, uponIn_sim hwp.2 (fun u w' hh => hnext _ w' hh) (fun x w' hh => hnext _ w' hh)⟩
      · rw [if_neg hw] at hwp ⊢
        exact ⟨hwp.1, hnext _ w hwp.2⟩
section
variable {F : Fence} {n : Nat} {P : Program} {N : Nat} {ds : List Deferred} {w0 : World} {W : Nat → Prop} {σ : List (Nat × Value)} {H HL : List HE} {Q : Exit → Act → World → Prop} {ops : Array Oper} {mask : List Bool} {m : Nat} {rest : List Nat}
theorem lit_full {ops : Array Oper} {mask : List Bool} (k : Nat) (hk : Nat.ble ops.size k = true) (i : Nat) (h : litB ops (List.replicate k true) i = true) : litB ops mask i = true := by
  unfold litB at h ⊢
  refine List.all_eq_true.2 fun j hj => ?_
  have h1 := List.all_eq_true.1 h j hj
  have h2 : mAt (List.replicate k true) j = true := by
    unfold mAt
    have := List.mem_range.1 hj
    have := Nat.le_of_ble_eq_true hk
    rw [List.getD_eq_getElem?_getD, List.getElem?_replicate, if_pos (by omega)]
    rfl
  rw [h2] at h1
  rw [show edgeB ops i j = true by simpa using h1]
  simp
/-- What the light operations look at stays; so pure ones may be taken first. -/
theorem t_weak (k : Nat) (hk : Nat.ble ops.size k = true) (h : J N ds w0 W σ H (wpT F n P w0 W HL ops (List.replicate k true) Q m rest)) : J N ds w0 W σ H (wpT F n P w0 W HL ops mask Q m rest) :=
  fun a w ha hw => wpT_strong (fun i hi => lit_full k hk i hi) m rest a w (h a w ha hw)
/-- An operation that only reckons, first. -/
theorem t_pick (i : Nat) {d : Nat} {op : Op} {ty : TypeId} {pos : String} {aft : Array Edge} {gd : Option (Nat × Bool)} {vs : List Value} {v : Value} {c : Prop} [hF : Wide F] (hio : ops.toList[i]? = some ⟨some d, op, ty, pos, aft, gd⟩) (hok : pickOk ops mask rest i d ⟨some d, op, ty, pos, aft, gd⟩ = true) (hlen : Nat.ble rest.length (m + 1) = true)
    (hw : wantd ops σ ⟨some d, op, ty, pos, aft, gd⟩ = some true) (hv : vals σ op.operands.toList = some vs) [hp : PV P op vs v c] (hc : c) (hdN : Nat.blt d N = true) (hs : Sub HL H)
    (h : J N ds w0 W ((d, v) :: σ) H (wpT F n P w0 W HL ops mask Q m (rest.erase i))) : J N ds w0 W σ H (wpT F n P w0 W HL ops mask Q (m + 1) rest) := by
  intro a w ha hst
  rw [Array.getElem?_toList] at hio
  generalize ho : (⟨some d, op, ty, pos, aft, gd⟩ : Oper) = o at *
  have hd : o.dst = some d := by rw [← ho]
  have hop : o.op = op := by rw [← ho]
  unfold pickOk at hok
  simp only [Bool.and_eq_true] at hok
  obtain ⟨⟨hin, hall⟩, hrest⟩ := hok
  have hq : ∀ ρ : Operand → Value, (∀ x ∈ o.op.operands.toList, ∀ u, ev σ x = some u → ρ x = u) → ∀ w, (execOp ρ o).run P w = .ok (.value v) w := by
    subst ho
    intro ρ h w
    exact hp.h hc ρ _ rfl (vals_mapP hv h) w
  have hper : ∀ (j : Nat) (o' : Oper), ops[j]? = some o' → plainB o' = true ∧ (j ≠ i → o'.dst ≠ some d ∧ (d ∈ o'.looksAt ops → edgeB ops j i = true)) := by
    intro j o' hj
    have h1 := List.all_eq_true.1 hall j (List.mem_range.2 (Array.getElem?_eq_some_iff.1 hj).1)
    rw [hj] at h1
    simp only [Bool.and_eq_true] at h1
    refine ⟨h1.1, fun hne => ?_⟩
    have h2 := h1.2
    have e2 : Nat.beq j i = false := by
      cases hb : Nat.beq j i with
      | false => rfl
      | true => exact absurd (Nat.eq_of_beq_eq_true hb) hne
    rw [e2] at h2
    simp only [Bool.false_or, Bool.and_eq_true] at h2
    refine ⟨by simpa using h2.1, fun hm => ?_⟩
    have h3 := h2.2
    have e3 : (o'.looksAt ops).contains d = true := by simpa using hm
    rw [e3] at h3
    simpa using h3
  refine pick_core (L := look σ) hio hd (fun j o' hj => (hper j o' hj).1) (fun j o' hne hj => (hper j o' hj).2 hne) (fun a' ha' => ⟨wanted_at ha' hw, fun w' => hq _ (fun x hx u hu => ?_) w'⟩) m rest a w (by simpa using hin) (Nat.le_of_ble_eq_true hlen) (fun j hj hlt => ?_) (fun j hj t ht hm => ?_) (.inr (hst.sub hs)) (fun t _ u hu => ha.at_ t u hu) ?_
  · cases x with
    | tmp t =>
      have := ha' t (List.mem_append_left _ (List.mem_filterMap.2 ⟨.tmp t, hx, rfl⟩)) u hu
      simp [Act.eval, this]
    | const u => simpa [ev, Act.eval] using hu
    | global g => simpa [ev, Act.eval] using hu
    | func f => simpa [ev, Act.eval] using hu
  · have := List.all_eq_true.1 hrest j hj
    simp only [Bool.and_eq_true] at this
    have h1 := this.1
    rw [hlt] at h1
    simpa using h1
  · have := List.all_eq_true.1 hrest j hj
    simp only [Bool.and_eq_true] at this
    have h2 := this.2
    simp [ht, hm] at h2
  · exact h _ _ (ha.put d v (by simpa using hdN)) hst
end
end Go.Proofs.YtemmnpgebpffbaaGreat
