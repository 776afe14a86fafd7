/- The engine: a region that draws its order: first, in any order, operations that leave the heap as the list says; then the rest, one behind the other. -/
import Derived.Test.YtokoopdkofgabaaEng4
namespace Go.Proofs.Ytokoopdkofgabaa
open Go.RowKit

section
variable {F : Fence} {n : Nat} {P : Program} {N : Nat} {ds : List Deferred} {w0 : World} {W : Nat → Prop} {σ : List (Nat × Value)} {H : List HE} {Q : Exit → Act → World → Prop}

/-- An operation that yields v and leaves the heap as the list says. -/
def QJ (F : Fence) (n : Nat) (P : Program) (N : Nat) (ds : List Deferred) (w0 : World) (W : Nat → Prop) (σ : List (Nat × Value)) (H : List HE) (o : Oper) (d : Nat) (v : Value) : Prop :=
  ∀ K Q, J N ds w0 W ((d, v) :: σ) H K → OJ F n P N ds w0 W σ H o K Q

theorem uponIn_move {o : Oper} {a b : Act} {K K' : Act → World → Prop} {Q' : Exit → Act → World → Prop} {r : Result Next}
    (h : o.uponIn F n P a K (fun _ _ _ => False) r) (hd : ∀ x w', ¬ K (({ a with defers := x :: a.defers } : Act).put o.dst undef) w') (hK : ∀ v w', K (a.put o.dst v) w' → K' (b.put o.dst v) w') : o.uponIn F n P b K' Q' r := by
  have key : ∀ (v : Ending) (w' : World), (match v, w' with
    | .returned v, w'' => K (a.put o.dst v) w''
    | .panicked _, _ => False
    | .outgrown, _ => LetsOut (fun _ _ _ => False)) → (match v, w' with
    | .returned v, w'' => K' (b.put o.dst v) w''
    | .panicked chain, w'' => Q' (.panic chain) b w''
    | .outgrown, _ => LetsOut Q') := by
    intro v w' hv
    cases v with
    | returned v => exact hK _ _ hv
    | panicked c => exact hv.elim
    | outgrown => obtain ⟨_, _, h0⟩ := hv; exact h0.elim
  cases r with
  | ok x w' =>
    cases x <;> simp only [Oper.uponIn] at h ⊢
    case value v => exact hK _ _ h
    case skip => exact hK _ _ h
    case enter f args => exact ⟨h.1, h.2.mono key⟩
    case round l f t a b => exact ⟨h.1, h.2.mono key⟩
    case defer d => exact (hd _ _ h).elim
    case row r args => exact ⟨h.1, h.2.mono fun v w' hv => hK _ _ hv⟩
  | halt x w' =>
    cases x <;> simp only [Oper.uponIn] at h ⊢

/-- Does operation j wait for operation i? -/
def edgeB (ops : Array Oper) (j i : Nat) : Bool :=
  match ops[j]? with
  | some o => o.after.any fun e => Region.binds .any e && e.on == i
  | none => false
def plainB (o : Oper) : Bool := match o.op with | .select .. => false | .defer _ => false | _ => true
/-- The first m operations may come in any order that waits for what they read; all others wait for all of them, and each for the one ahead of it. -/
def drawOk (ops : Array Oper) (m : Nat) : Bool :=
  Nat.ble m ops.size &&
  ((List.range m).all fun i => match ops[i]? with
    | some o => o.dst.isSome && plainB o && ((List.range m).all fun j => match ops[j]? with
      | some p => (Nat.beq j i || p.dst != o.dst) && (match p.dst with | some d => !(o.looksAt ops).contains d || (Nat.blt j i && edgeB ops i j) | none => true)
      | none => true)
    | none => true) &&
  (m == ops.size || (List.range m).all fun i => (List.range (m + 1)).any fun j => Nat.blt i j && edgeB ops j i) &&
  ((List.range (ops.size - m - 1)).all fun k => edgeB ops (m + k + 1) (m + k)) &&
  ((List.range ops.size).all fun k => match ops[k]? with
    | some o => o.after.all fun e => !Region.binds .any e || Nat.blt e.on k
    | none => true)

/-- The first operations' walk, in the text's order. -/
def HdJ (F : Fence) (n : Nat) (P : Program) (N : Nat) (ds : List Deferred) (w0 : World) (W : Nat → Prop) (H : List HE) (ops : Array Oper) : List Oper → List (Nat × Value) → (List (Nat × Value) → Prop) → Prop
  | [], σ, T => T σ
  | o :: rest, σ, T => ∃ d v, o.dst = some d ∧ d < N ∧ ((wantd ops σ o = some true ∧ QJ F n P N ds w0 W σ H o d v) ∨ (wantd ops σ o = some false ∧ v = undef)) ∧ HdJ F n P N ds w0 W H ops rest ((d, v) :: σ) T

theorem h_nil {ops : Array Oper} {T : List (Nat × Value) → Prop} (h : T σ) : HdJ F n P N ds w0 W H ops [] σ T := h
theorem h_run {ops : Array Oper} {T : List (Nat × Value) → Prop} {o : Oper} {rest : List Oper} {d : Nat} {v : Value} (hd : o.dst = some d) (hdN : Nat.blt d N = true) (hw : wantd ops σ o = some true) (hq : ∀ K Q, J N ds w0 W ((d, v) :: σ) H K → OJ F n P N ds w0 W σ H o K Q)
    (h : HdJ F n P N ds w0 W H ops rest ((d, v) :: σ) T) : HdJ F n P N ds w0 W H ops (o :: rest) σ T := ⟨d, v, hd, by simpa using hdN, .inl ⟨hw, hq⟩, h⟩
theorem h_skip {ops : Array Oper} {T : List (Nat × Value) → Prop} {o : Oper} {rest : List Oper} {d : Nat} (hd : o.dst = some d) (hdN : Nat.blt d N = true) (hw : wantd ops σ o = some false)
    (h : HdJ F n P N ds w0 W H ops rest ((d, undef) :: σ) T) : HdJ F n P N ds w0 W H ops (o :: rest) σ T := ⟨d, undef, hd, by simpa using hdN, .inr ⟨hw, rfl⟩, h⟩

/-- The values that the first operations yield, with the list of slots ahead of each. -/
theorem HdJ.vals {ops : Array Oper} {T : List (Nat × Value) → Prop} : ∀ (l : List Oper) (k : Nat) (σ : List (Nat × Value)), (∀ j, j < l.length → l[j]? = ops[k + j]?) → HdJ F n P N ds w0 W H ops l σ T →
    ∃ (vs : List (Nat × Value)), vs.length = l.length ∧ T (vs.reverse ++ σ) ∧ ∀ j d v, vs[j]? = some (d, v) → ∃ o, ops[k + j]? = some o ∧ o.dst = some d ∧ d < N ∧
      ((wantd ops ((vs.take j).reverse ++ σ) o = some true ∧ QJ F n P N ds w0 W ((vs.take j).reverse ++ σ) H o d v) ∨ (wantd ops ((vs.take j).reverse ++ σ) o = some false ∧ v = undef))
  | [], k, σ, _, h => ⟨[], rfl, h, by simp⟩
  | o :: rest, k, σ, hl, h => by
    obtain ⟨d, v, hd, hdN, hq, hr⟩ := h
    obtain ⟨vs, h1, h2, h3⟩ := HdJ.vals rest (k + 1) ((d, v) :: σ) (fun j hj => by have := hl (j + 1) (Nat.succ_lt_succ hj); simpa [Nat.add_assoc, Nat.add_comm 1 j] using this) hr
    refine ⟨(d, v) :: vs, by simp [h1], by simpa using h2, fun j d' v' hj => ?_⟩
    cases j with
    | zero =>
      simp at hj
      obtain ⟨rfl, rfl⟩ := hj
      refine ⟨o, by simpa using (hl 0 (by simp)).symm, hd, hdN, by simpa using hq⟩
    | succ j =>
      obtain ⟨o', e1, e2, e3, e4⟩ := h3 j d' v' (by simpa using hj)
      refine ⟨o', by rw [← e1, Nat.add_assoc, Nat.add_comm 1 j], e2, e3, by simpa using e4⟩

theorem look_append (l σ : List (Nat × Value)) (t : Nat) : look (l ++ σ) t = (look l t).or (look σ t) := by
  induction l with
  | nil => simp [look]
  | cons x r ih =>
    obtain ⟨k, v⟩ := x
    rw [List.cons_append, look_cons, look_cons]
    split
    · rfl
    · exact ih
theorem look_mem {l : List (Nat × Value)} {t : Nat} {v : Value} (h : look l t = some v) : (t, v) ∈ l := by
  induction l with
  | nil => simp [look] at h
  | cons x r ih =>
    obtain ⟨k, u⟩ := x
    rw [look_cons] at h
    split at h
    · rename_i hk; subst hk; obtain rfl := by simpa using h
      exact List.mem_cons_self ..
    · exact List.mem_cons_of_mem _ (ih h)
theorem look_none {l : List (Nat × Value)} {t : Nat} (h : look l t = none) : ∀ v, (t, v) ∉ l := by
  induction l with
  | nil => simp
  | cons x r ih =>
    obtain ⟨k, u⟩ := x
    rw [look_cons] at h
    split at h
    · cases h
    · rename_i hk
      intro v hv
      rcases List.mem_cons.1 hv with e | e
      · injection e with e1 _; exact hk e1.symm
      · exact ih h v e

/-- Slots written over an activation. -/
def putAll : List (Nat × Value) → Act → Act
  | [], a => a
  | (d, v) :: r, a => (putAll r a).put (some d) v
theorem putAll_tm : ∀ (l : List (Nat × Value)) {a : Act} {σ : List (Nat × Value)}, (∀ p ∈ l, p.1 < N) → Tm N ds σ a → Tm N ds (l ++ σ) (putAll l a)
  | [], a, σ, _, h => h
  | (d, v) :: r, a, σ, hl, h => (putAll_tm r (fun p hp => hl p (List.mem_cons_of_mem _ hp)) h).put d v (hl (d, v) (List.mem_cons_self ..))
theorem putAll_at : ∀ (l : List (Nat × Value)) {a : Act} {t : Nat}, (∀ p ∈ l, p.1 < N) → a.tmps.size = N → (putAll l a).tmps[t]? = (look l t).or a.tmps[t]? ∧ (putAll l a).tmps.size = N ∧ (putAll l a).defers = a.defers
  | [], a, t, _, h => by simp [putAll, look, h]
  | (d, v) :: r, a, t, hl, h => by
    obtain ⟨h1, h2, h3⟩ := putAll_at r (t := t) (fun p hp => hl p (List.mem_cons_of_mem _ hp)) h
    refine ⟨?_, by simp [putAll, Act.put, h2], by simp [putAll, Act.put, h3]⟩
    simp only [putAll, Act.put, Array.getElem?_setIfInBounds]
    rw [look_cons]
    by_cases hk : d = t
    · subst hk
      rw [if_pos rfl, if_pos (by rw [h2]; exact hl (d, v) (List.mem_cons_self ..)), if_pos rfl]; rfl
    · rw [if_neg hk, if_neg hk, h1]

/-- An operation waits for earlier ones alone. -/
def backB (ops : Array Oper) (j : Nat) : Bool :=
  match ops[j]? with
  | some o => o.after.all fun e => !Region.binds .any e || Nat.blt e.on j
  | none => true

theorem getD_of_some {listed : Array Bool} {j : Nat} {b : Bool} (h : listed[j]? = some b) (d : Bool) : listed.getD j d = b := by
  rw [Array.getElem?_eq_some_iff] at h
  obtain ⟨hb, hb2⟩ := h
  simp [Array.getD, hb, hb2]

/-- The first that has not come up may come up. -/
theorem ready_first {ops : Array Oper} {listed : Array Bool} {k : Nat} (hk : k < ops.size) (hb : backB ops k = true) (hu : listed[k]? = some false) (hl : ∀ j, j < k → listed[j]? = some true) : k ∈ Region.ready .any ops listed := by
  have hok : ops[k]? = some ops[k] := Array.getElem?_eq_getElem hk
  refine mem_ready.2 ⟨getD_of_some hu _, ops[k], hok, fun e he hbe => ?_⟩
  unfold backB at hb
  rw [hok] at hb
  simp only [Array.all_eq_true_iff_forall_mem] at hb
  have := hb e he
  rw [hbe] at this
  exact getD_of_some (hl e.on (by simpa using this)) _
/-- One that waits for one that has not come up may not. -/
theorem not_ready {ops : Array Oper} {listed : Array Bool} {i j : Nat} (he : edgeB ops j i = true) (hu : listed[i]? = some false) : j ∉ Region.ready .any ops listed := by
  intro hj
  obtain ⟨-, o, ho, h⟩ := mem_ready.1 hj
  unfold edgeB at he
  rw [ho] at he
  simp only [Array.any_eq_true'] at he
  obtain ⟨e, hemem, hee⟩ := he
  simp only [Bool.and_eq_true, beq_iff_eq] at hee
  have := h e hemem hee.1
  rw [hee.2, getD_of_some hu] at this
  cases this

/-- The rest, one behind the other. -/
theorem tail_walk {ops : Array Oper} {m : Nat} (hc : ∀ k, m ≤ k → k + 1 < ops.size → edgeB ops (k + 1) k = true) (hb : ∀ k, backB ops k = true) :
    ∀ (l : List Oper) (k fuel : Nat) (listed : Array Bool) (a : Act) (w : World), m ≤ k → k + l.length = ops.size → (∀ j, l[j]? = ops[k + j]?) → l.length ≤ fuel → listed.size = ops.size → (∀ j, j < k → listed[j]? = some true) → (∀ j, k ≤ j → j < ops.size → listed[j]? = some false) →
      wpListIn F n P ops Q l a w → wpAnyIn F n P .any ops Q fuel listed a w
  | [], k, fuel, listed, a, w, hmk, hkl, hl, hf, hsz, h1, h2, h => by
    have hr : Region.ready .any ops listed = [] := by
      apply List.eq_nil_iff_forall_not_mem.2
      intro j hj
      obtain ⟨hj1, o, ho, -⟩ := mem_ready.1 hj
      have hjs : j < ops.size := (Array.getElem?_eq_some_iff.1 ho).1
      simp at hkl
      rw [getD_of_some (h1 j (by omega))] at hj1
      cases hj1
    exact wpAnyIn_done hr h fuel
  | o :: rest, k, 0, listed, a, w, _, _, _, hf, _, _, _, _ => by simp at hf
  | o :: rest, k, fuel + 1, listed, a, w, hmk, hkl, hl, hf, hsz, h1, h2, h => by
    have hk : k < ops.size := by simp at hkl; omega
    have hok : ops[k]? = some o := by simpa using (hl 0).symm
    have honly : ∀ i ∈ Region.ready .any ops listed, i = k := by
      intro i hi
      obtain ⟨hi1, oi, hoi, -⟩ := mem_ready.1 hi
      have his : i < ops.size := (Array.getElem?_eq_some_iff.1 hoi).1
      rcases Nat.lt_trichotomy i k with hlt | rfl | hgt
      · rw [getD_of_some (h1 i hlt)] at hi1; cases hi1
      · rfl
      · exfalso
        obtain ⟨i', rfl⟩ : ∃ i', i = i' + 1 := ⟨i - 1, by omega⟩
        exact not_ready (hc i' (by omega) his) (h2 i' (by omega) (by omega)) hi
    have step : wpOpIn F n P ops Q k (wpAnyIn F n P .any ops Q fuel (listed.setIfInBounds k true)) a w := by
      refine wpOpIn_step hok fun K' hK' => ?_
      simp only [wpListIn] at h
      have hnext : ∀ a w, wpListIn F n P ops Q rest a w → K' a w := fun a w hh => hK' _ _ (
        tail_walk hc hb rest (k + 1) fuel _ a w (by omega) (by simp at hkl; omega) (fun j => by have := hl (j + 1); simpa [Nat.add_assoc, Nat.add_comm 1 j] using this) (by simp at hf; omega) (by simpa using hsz)
          (fun j hj => by
            rw [Array.getElem?_setIfInBounds]
            split
            · simp; omega
            · exact h1 j (by omega))
          (fun j hj hj2 => by rw [Array.getElem?_setIfInBounds, if_neg (by omega)]; exact h2 j (by omega) hj2) hh)
      by_cases hw : Region.wanted o (yielded ops a.tmps) = true
      · rw [if_pos hw] at h ⊢
        exact Oper.wpIn_mono hnext h
      · rw [if_neg hw] at h ⊢
        exact ⟨h.1, hnext _ _ h.2⟩
    refine ⟨fun hr => ?_, fun i hi => by rw [honly i hi]; exact step⟩
    have hkr := ready_first hk (hb k) (h2 k (Nat.le_refl _) hk) h1
    rw [hr] at hkr
    cases hkr

structure HInv (N : Nat) (ds : List Deferred) (vs σ : List (Nat × Value)) (listed : Array Bool) (a : Act) : Prop where
  size : a.tmps.size = N
  defers : a.defers = ds
  old : ∀ (t : Nat) (v : Value), (∀ p ∈ vs, p.1 ≠ t) → look σ t = some v → a.tmps[t]? = some v
  new : ∀ (j d : Nat) (v : Value), vs[j]? = some (d, v) → listed[j]? = some true → a.tmps[d]? = some v

theorem HInv.tm {vs : List (Nat × Value)} {listed : Array Bool} {a : Act} (h : HInv N ds vs σ listed a) (hl : ∀ j, j < vs.length → listed[j]? = some true) : Tm N ds (vs.reverse ++ σ) a := by
  refine ⟨h.size, h.defers, fun t v ht => ?_⟩
  rw [look_append] at ht
  cases hv : look vs.reverse t with
  | some u =>
    rw [hv] at ht
    obtain rfl : u = v := by simpa using ht
    have hmem := List.mem_reverse.1 (look_mem hv)
    obtain ⟨j, hj, hje⟩ := List.getElem_of_mem hmem
    exact h.new j t u (by rw [List.getElem?_eq_getElem hj, hje]) (hl j hj)
  | none =>
    rw [hv] at ht
    refine h.old t v (fun p hp e => ?_) (by simpa using ht)
    exact look_none hv p.2 (List.mem_reverse.2 (by rw [← e]; exact hp))

theorem eval_of {a b : Act} {x : Operand} (h : ∀ t, x = .tmp t → a.tmps[t]? = b.tmps[t]?) : a.eval x = b.eval x := by
  cases x with
  | tmp t =>
    have := h t rfl
    simp only [Act.eval, Array.getD_eq_getD_getElem?, this]
  | _ => rfl

/-- One of the first operations comes up. -/
theorem head_step {ops : Array Oper} {o : Oper} {d : Nat} {v : Value} {τ : List (Nat × Value)} {a : Act} {w : World} {K : Act → World → Prop} [hF : Wide F]
    (hpl : plainB o = true) (hd : o.dst = some d) (hdN : d < N) (hsz : a.tmps.size = N) (hdf : a.defers = ds) (hτ : ∀ p ∈ τ, p.1 < N)
    (hag : ∀ t ∈ o.looksAt ops, ∀ u, look τ t = some u → a.tmps[t]? = some u)
    (hq : (wantd ops τ o = some true ∧ QJ F n P N ds w0 W τ H o d v) ∨ (wantd ops τ o = some false ∧ v = undef)) (hst : St w0 W H w)
    (hK : ∀ w', St w0 W H w' → K (a.put (some d) v) w') :
    if Region.wanted o (yielded ops a.tmps) = true then Oper.wpIn F n P o a w K Q else (∀ f, o.about P w a.eval = some f → F.fn f) ∧ K (a.put o.dst undef) w := by
  have hb := fun t => putAll_at (N := N) τ (a := a) (t := t) hτ hsz
  generalize hbe : putAll τ a = b at hb
  have hbt : ∀ t ∈ o.looksAt ops, a.tmps[t]? = b.tmps[t]? := by
    intro t ht
    rw [(hb t).1]
    cases hl : look τ t with
    | some u => rw [hag t ht u hl]; rfl
    | none => rfl
  have htm : Tm N ds τ b := ⟨(hb 0).2.1, by rw [(hb 0).2.2, hdf], fun t u hu => by rw [(hb t).1, hu]; rfl⟩
  have hev : ∀ x ∈ o.op.operands, b.eval x = a.eval x := fun x hx => eval_of fun t e => by
    subst e
    exact (hbt t (List.mem_append_left _ (List.mem_filterMap.2 ⟨.tmp t, by simpa using hx, rfl⟩))).symm
  have hsel : ∀ cs c, o.op ≠ .select cs c := by
    intro cs c e
    unfold plainB at hpl; rw [e] at hpl; cases hpl
  have hnd : ∀ c, o.op ≠ .defer c := by
    intro c e
    unfold plainB at hpl; rw [e] at hpl; cases hpl
  have hex : execOp b.eval o = execOp a.eval o := execOp_congr o hsel hev
  have hwt : Region.wanted o (yielded ops a.tmps) = Region.wanted o (yielded ops b.tmps) := by
    unfold Region.wanted
    cases hg : o.guard with
    | none => rfl
    | some g =>
      obtain ⟨j, c⟩ := g
      simp only [yielded]
      cases hj : (ops[j]?).bind (·.dst) with
      | none => rfl
      | some t =>
        have : t ∈ o.looksAt ops := by
          unfold Oper.looksAt
          rw [hg]
          exact List.mem_append_right _ (by simp [hj])
        simp only [Option.bind_some, hbt t this]
  rcases hq with ⟨hw, hq⟩ | ⟨hw, rfl⟩
  · rw [hwt, wanted_of htm hw, if_pos rfl]
    refine ⟨fun f _ => hF.out.fn f, ?_⟩
    have h1 := hq (fun a' w' => Tm N ds ((d, v) :: τ) a' ∧ St w0 W H w') (fun _ _ _ => False) (fun _ _ ha hw => ⟨ha, hw⟩) b w htm hst
    have h2 := h1.2
    rw [Oper.semAt_plain F _ _ hnd, hex] at h2
    rw [Oper.semAt_plain F _ _ hnd]
    refine uponIn_move h2 ?_ ?_
    · intro x w' hx
      have := hx.1.defers
      rw [hd] at this
      simp only [Act.put, htm.defers] at this
      exact absurd (congrArg List.length this) (by simp)
    · intro u w' hu
      rw [hd] at hu ⊢
      have h3 := hu.1.at_ d v (by rw [look_cons, if_pos rfl])
      have h4 : u = v := by
        simp only [Act.put, Array.getElem?_setIfInBounds] at h3
        rw [if_pos trivial, if_pos (by rw [htm.size]; exact hdN)] at h3
        simpa using h3
      rw [h4]
      exact hK w' hu.2
  · rw [hwt, wanted_of htm hw]
    simp only [Bool.false_eq_true, if_false]
    refine ⟨fun f _ => hF.out.fn f, ?_⟩
    rw [hd]
    exact hK w hst

/-- How many of the first m have not come up. -/
def undone (listed : Array Bool) (m : Nat) : Nat := ((List.range m).filter fun j => listed[j]? == some false).length
theorem undone_zero {listed : Array Bool} {m : Nat} (hl : ∀ j, j < m → listed[j]? = some true ∨ listed[j]? = some false) (h : undone listed m = 0) : ∀ j, j < m → listed[j]? = some true := by
  intro j hj
  rcases hl j hj with e | e
  · exact e
  · exfalso
    have : j ∈ (List.range m).filter fun j => listed[j]? == some false := List.mem_filter.2 ⟨List.mem_range.2 hj, by simp [e]⟩
    unfold undone at h
    rw [List.length_eq_zero_iff] at h
    rw [h] at this
    cases this
theorem undone_set {listed : Array Bool} {m i : Nat} (hi : i < m) (hu : listed[i]? = some false) : undone (listed.setIfInBounds i true) m < undone listed m := by
  unfold undone
  have hsub : ((List.range m).filter fun j => (listed.setIfInBounds i true)[j]? == some false) = ((List.range m).filter fun j => listed[j]? == some false).filter (fun j => j != i) := by
    rw [List.filter_filter]
    apply List.filter_congr
    intro j _
    rw [Array.getElem?_setIfInBounds]
    by_cases h : i = j
    · subst h
      have hb : i < listed.size := (Array.getElem?_eq_some_iff.1 hu).1
      simp [hb]
    · rw [if_neg h]
      have : (j != i) = true := by simpa using fun e : j = i => h e.symm
      simp [this]
  rw [hsub]
  refine List.length_filter_lt_length_iff_exists.2 ⟨i, List.mem_filter.2 ⟨List.mem_range.2 hi, by simp [hu]⟩, by simp⟩

theorem exists_min {p : Nat → Prop} [DecidablePred p] : ∀ (m : Nat), (∃ j, j < m ∧ p j) → ∃ j, j < m ∧ p j ∧ ∀ i, i < j → ¬ p i
  | 0, ⟨_, h, _⟩ => absurd h (by omega)
  | m + 1, ⟨j, h, hp⟩ => by
    by_cases hm : ∃ j, j < m ∧ p j
    · obtain ⟨i, h1, h2, h3⟩ := exists_min m hm
      exact ⟨i, by omega, h2, h3⟩
    · exact ⟨j, h, hp, fun i hi hpi => hm ⟨i, by omega, hpi⟩⟩
theorem exists_max {p : Nat → Prop} [DecidablePred p] : ∀ (m : Nat), (∃ j, j < m ∧ p j) → ∃ j, j < m ∧ p j ∧ ∀ i, j < i → i < m → ¬ p i
  | 0, ⟨_, h, _⟩ => absurd h (by omega)
  | m + 1, ⟨j, h, hp⟩ => by
    by_cases hm : p m
    · exact ⟨m, by omega, hm, fun i h1 h2 => by omega⟩
    · have hj : j < m := by
        rcases Nat.lt_or_ge j m with h1 | h1
        · exact h1
        · obtain rfl : j = m := by omega
          exact absurd hp hm
      obtain ⟨i, h1, h2, h3⟩ := exists_max m ⟨j, hj, hp⟩
      refine ⟨i, by omega, h2, fun k hk hkm hpk => ?_⟩
      by_cases e : k = m
      · subst e; exact hm hpk
      · exact h3 k hk (by omega) hpk

theorem head_walk {ops : Array Oper} {m : Nat} {vs : List (Nat × Value)} [hF : Wide F] (hm : m ≤ ops.size) (hvl : vs.length = m)
    (hpl : ∀ i o, i < m → ops[i]? = some o → plainB o = true)
    (hdis : ∀ (i j di dj : Nat) (vi vj : Value), vs[i]? = some (di, vi) → vs[j]? = some (dj, vj) → i ≠ j → di ≠ dj)
    (hlook : ∀ (i j : Nat) (o : Oper) (d : Nat) (v : Value), i < m → ops[i]? = some o → vs[j]? = some (d, v) → d ∈ o.looksAt ops → j < i ∧ edgeB ops i j = true)
    (hsink : m = ops.size ∨ ∀ i, i < m → ∃ j, i < j ∧ j ≤ m ∧ edgeB ops j i = true)
    (hc : ∀ k, m ≤ k → k + 1 < ops.size → edgeB ops (k + 1) k = true) (hb : ∀ k, backB ops k = true)
    (hv : ∀ (j d : Nat) (v : Value), vs[j]? = some (d, v) → ∃ o, ops[j]? = some o ∧ o.dst = some d ∧ d < N ∧
      ((wantd ops ((vs.take j).reverse ++ σ) o = some true ∧ QJ F n P N ds w0 W ((vs.take j).reverse ++ σ) H o d v) ∨ (wantd ops ((vs.take j).reverse ++ σ) o = some false ∧ v = undef)))
    (hσ : ∀ p ∈ σ, p.1 < N) (ht : J N ds w0 W (vs.reverse ++ σ) H (wpListIn F n P ops Q (ops.toList.drop m))) :
    ∀ (c fuel : Nat) (listed : Array Bool) (a : Act) (w : World), undone listed m = c → c + (ops.size - m) ≤ fuel → listed.size = ops.size → (∀ j, j < m → listed[j]? = some true ∨ listed[j]? = some false) →
      (∀ j, m ≤ j → j < ops.size → listed[j]? = some false) → (∀ j i, j < m → listed[j]? = some true → edgeB ops j i = true → listed[i]? = some true) → HInv N ds vs σ listed a → St w0 W H w →
      wpAnyIn F n P .any ops Q fuel listed a w := by
  intro c
  induction c using Nat.strongRecOn with
  | _ c ih =>
  intro fuel listed a w hcn hf hsz hl htail hdown hinv hst
  by_cases h0 : c = 0
  · have hall := undone_zero hl (by omega)
    have htm := hinv.tm (fun j hj => hall j (by omega))
    exact tail_walk hc hb (ops.toList.drop m) m fuel listed a w (Nat.le_refl _) (by simp; omega) (fun j => by simp [List.getElem?_drop]) (by simp; omega) hsz hall htail (ht a w htm hst)
  · obtain ⟨f, rfl⟩ : ∃ f, fuel = f + 1 := ⟨fuel - 1, by omega⟩
    have hex : ∃ j, j < m ∧ listed[j]? = some false := by
      apply Classical.byContradiction
      intro hno
      apply h0
      rw [← hcn]
      unfold undone
      rw [List.length_eq_zero_iff, List.filter_eq_nil_iff]
      intro j hj
      have hjm := List.mem_range.1 hj
      intro he
      exact hno ⟨j, hjm, by simpa using he⟩
    have hlow : ∀ i ∈ Region.ready .any ops listed, i < m := by
      intro i hi
      apply Classical.byContradiction
      intro hge
      obtain ⟨-, oi, hoi, -⟩ := mem_ready.1 hi
      have his : i < ops.size := (Array.getElem?_eq_some_iff.1 hoi).1
      rcases hsink with hms | hsink
      · omega
      obtain ⟨x, hx1, hx2, hx3⟩ := exists_max (p := fun j => listed[j]? = some false) m hex
      obtain ⟨y, hy1, hy2, hy3⟩ := hsink x hx1
      rcases Nat.lt_or_ge y m with hym | hym
      · rcases hl y hym with e | e
        · have := hdown y x hym e hy3
          rw [hx2] at this; cases this
        · exact hx3 y hy1 hym e
      · obtain rfl : y = m := by omega
        by_cases him : i = y
        · subst him; exact not_ready hy3 hx2 hi
        · obtain ⟨i', rfl⟩ : ∃ i', i = i' + 1 := ⟨i - 1, by omega⟩
          exact not_ready (hc i' (by omega) his) (htail i' (by omega) (by omega)) hi
    refine ⟨fun hr => ?_, fun i hi => ?_⟩
    · exfalso
      obtain ⟨x, hx1, hx2, hx3⟩ := exists_min (p := fun j => listed[j]? = some false) m hex
      have := ready_first (ops := ops) (listed := listed) (by omega : x < ops.size) (hb x) hx2 (fun j hj => (hl j (by omega)).resolve_right (hx3 j hj))
      rw [hr] at this
      cases this
    · have him := hlow i hi
      obtain ⟨hiu, o, hio, hie⟩ := mem_ready.1 hi
      have hifalse : listed[i]? = some false := by
        rcases hl i him with e | e
        · rw [getD_of_some e] at hiu; cases hiu
        · exact e
      obtain ⟨⟨d, v⟩, hdv⟩ : ∃ p, vs[i]? = some p := ⟨vs[i]'(by omega), List.getElem?_eq_getElem _⟩
      obtain ⟨o', ho', hd, hdN, hq⟩ := hv i d v hdv
      obtain rfl : o = o' := by rw [hio] at ho'; simpa using ho'
      refine wpOpIn_step hio fun K' hK' => ?_
      refine head_step (ops := ops) (hpl i o him hio) hd hdN hinv.size hinv.defers ?_ ?_ hq hst ?_
      · intro p hp
        rcases List.mem_append.1 hp with hp | hp
        · have hp' := List.mem_of_mem_take (List.mem_reverse.1 hp)
          obtain ⟨k, hk, hke⟩ := List.getElem_of_mem hp'
          obtain ⟨-, -, -, h4, -⟩ := hv k p.1 p.2 (by rw [List.getElem?_eq_getElem hk, hke])
          exact h4
        · exact hσ p hp
      · intro t htl u hu
        rw [look_append] at hu
        by_cases hdst : ∃ (j : Nat) (v' : Value), vs[j]? = some (t, v')
        · obtain ⟨j, v', hj⟩ := hdst
          obtain ⟨hji, hje⟩ := hlook i j o t v' him hio hj htl
          have hjl : listed[j]? = some true := by
            unfold edgeB at hje
            rw [hio] at hje
            simp only [Array.any_eq_true'] at hje
            obtain ⟨e, hemem, hee⟩ := hje
            simp only [Bool.and_eq_true, beq_iff_eq] at hee
            have := hie e hemem hee.1
            rw [hee.2] at this
            rcases hl j (by omega) with e1 | e1
            · exact e1
            · rw [getD_of_some e1] at this; cases this
          have hmem : (t, v') ∈ (vs.take i).reverse := by
            rw [List.mem_reverse]
            exact List.mem_of_getElem? (i := j) (by rw [List.getElem?_take_of_lt hji]; exact hj)
          cases hlk : look (vs.take i).reverse t with
          | none => exact absurd hmem (look_none hlk v')
          | some u' =>
            rw [hlk] at hu
            obtain rfl : u' = u := by simpa using hu
            have hm2 := List.mem_reverse.1 (look_mem hlk)
            obtain ⟨k, hk, hke⟩ := List.getElem_of_mem hm2
            have hkv : vs[k]? = some (t, u') := by
              have := List.getElem?_eq_getElem hk
              rw [hke, List.getElem?_take_of_lt (by simp at hk; omega)] at this
              exact this
            have hkj : k = j := by
              apply Classical.byContradiction
              intro hne
              exact hdis k j t t u' v' hkv hj hne rfl
            subst hkj
            rw [hj] at hkv
            injection hkv with hkv; injection hkv with _ hkv
            subst hkv
            exact hinv.new k t v' hj hjl
        · have hno : ∀ p ∈ vs, p.1 ≠ t := fun p hp e => by
            obtain ⟨k, hk, hke⟩ := List.getElem_of_mem hp
            exact hdst ⟨k, p.2, by rw [List.getElem?_eq_getElem hk, hke, ← e]⟩
          have hln : look (vs.take i).reverse t = none := by
            cases hlk : look (vs.take i).reverse t with
            | none => rfl
            | some u' => exact absurd rfl (hno _ (List.mem_of_mem_take (List.mem_reverse.1 (look_mem hlk))))
          rw [hln] at hu
          exact hinv.old t u hno (by simpa using hu)
      · intro w' hw'
        apply hK'
        have hus := undone_set him hifalse
        refine ih _ (by rw [← hcn]; exact hus) f _ _ _ rfl (by omega) (by simpa using hsz) ?_ ?_ ?_ ?_ hw'
        · intro j hj
          rw [Array.getElem?_setIfInBounds]
          split
          · rw [if_pos (by omega)]; exact .inl rfl
          · exact hl j hj
        · intro j hj hjs
          rw [Array.getElem?_setIfInBounds, if_neg (by omega)]; exact htail j hj hjs
        · intro j k hj hjl hjk
          rw [Array.getElem?_setIfInBounds] at hjl ⊢
          by_cases hik : i = k
          · rw [if_pos hik, if_pos (by omega)]
          · rw [if_neg hik]
            by_cases hij : i = j
            · subst hij
              unfold edgeB at hjk
              rw [hio] at hjk
              simp only [Array.any_eq_true'] at hjk
              obtain ⟨e, hemem, hee⟩ := hjk
              simp only [Bool.and_eq_true, beq_iff_eq] at hee
              have := hie e hemem hee.1
              rw [hee.2] at this
              have hks : k < listed.size := by
                rcases Nat.lt_or_ge k listed.size with h1 | h1
                · exact h1
                · simp [Array.getD, Nat.not_lt.2 h1] at this
              rw [Array.getElem?_eq_getElem hks]
              simpa [Array.getD, hks] using this
            · rw [if_neg hij] at hjl
              exact hdown j k hj hjl hjk
        · refine ⟨by simp [Act.put, hinv.size], by simp [Act.put, hinv.defers], fun t u hno hu => ?_, fun j d' u hj hjl => ?_⟩
          · simp only [Act.put, Array.getElem?_setIfInBounds]
            rw [if_neg (fun e => hno (d, v) (List.mem_of_getElem? hdv) e)]
            exact hinv.old t u hno hu
          · simp only [Act.put, Array.getElem?_setIfInBounds]
            rw [Array.getElem?_setIfInBounds] at hjl
            by_cases hij : i = j
            · subst hij
              rw [hdv] at hj
              injection hj with hj; injection hj with e1 e2; subst e1 e2
              rw [if_pos rfl, if_pos (by rw [hinv.size]; exact hdN)]
            · rw [if_neg hij] at hjl
              rw [if_neg (hdis i j d d' v u hdv hj hij)]
              exact hinv.new j d' u hj hjl

/-- THE RULE. -/
theorem c_draw {id : Nat} {l : List Oper} (m : Nat) [hF : Wide F] (hmx : P.follows .mixedOrders = true) (hok : drawOk l.toArray m = true)
    (h : HdJ F n P N ds w0 W H l.toArray (l.take m) σ (fun τ => J N ds w0 W τ H (wpListIn F n P l.toArray Q (l.drop m)))) : J N ds w0 W σ H ((Code.region id l.toArray true).wpIn F n P Q) := by
  intro a w ha hst
  refine wpIn_region_any hmx ?_
  unfold drawOk at hok
  simp only [Bool.and_eq_true] at hok
  obtain ⟨⟨⟨⟨h1, h2⟩, h3⟩, h4⟩, h5⟩ := hok
  have hml : m ≤ l.length := by simpa using Nat.le_of_ble_eq_true h1
  obtain ⟨vs, hvl, hT, hvs⟩ := HdJ.vals (l.take m) 0 σ (fun j hj => by
    rw [List.getElem?_take_of_lt (by simp at hj; omega)]; simp) h
  have hvm : vs.length = m := by rw [hvl]; simp; omega
  have hvs' : ∀ (j d : Nat) (v : Value), vs[j]? = some (d, v) → ∃ o, l.toArray[j]? = some o ∧ o.dst = some d ∧ d < N ∧
      ((wantd l.toArray ((vs.take j).reverse ++ σ) o = some true ∧ QJ F n P N ds w0 W ((vs.take j).reverse ++ σ) H o d v) ∨ (wantd l.toArray ((vs.take j).reverse ++ σ) o = some false ∧ v = undef)) := fun j d v hj => by
    have := hvs j d v hj
    rwa [Nat.zero_add] at this
  have k2 : ∀ i, i < m → ∀ o, l.toArray[i]? = some o → o.dst.isSome = true ∧ plainB o = true ∧ ∀ j, j < m → ∀ p, l.toArray[j]? = some p → (j = i ∨ p.dst ≠ o.dst) ∧ ∀ d, p.dst = some d → d ∈ o.looksAt l.toArray → j < i ∧ edgeB l.toArray i j = true := by
    intro i hi o ho
    have := List.all_eq_true.1 h2 i (List.mem_range.2 hi)
    rw [ho] at this
    simp only [Bool.and_eq_true] at this
    obtain ⟨⟨a1, a2⟩, a3⟩ := this
    refine ⟨a1, a2, fun j hj p hp => ?_⟩
    have := List.all_eq_true.1 a3 j (List.mem_range.2 hj)
    rw [hp] at this
    simp only [Bool.and_eq_true, Bool.or_eq_true] at this
    refine ⟨this.1.imp (fun e => Nat.eq_of_beq_eq_true e) (fun e => by simpa using e), fun d hd hdl => ?_⟩
    have h6 := this.2
    rw [hd] at h6
    simp only [Bool.or_eq_true, Bool.not_eq_true', Bool.and_eq_true] at h6
    rcases h6 with h6 | h6
    · rw [List.contains_eq_mem] at h6
      simp [hdl] at h6
    · exact ⟨by simpa using h6.1, h6.2⟩
  have hσ : ∀ p ∈ σ, p.1 < N := by
    intro p hp
    cases hlk : look σ p.1 with
    | none => exact absurd hp (look_none hlk p.2)
    | some v =>
      have := ha.at_ _ _ hlk
      rw [← ha.size]
      exact (Array.getElem?_eq_some_iff.1 this).1
  have hrep : ∀ j, j < l.length → (Array.replicate l.toArray.size false)[j]? = some false := fun j hj => by simp [hj]
  refine head_walk (ops := l.toArray) (m := m) (vs := vs) (by simpa using hml) hvm (fun i o hi ho => (k2 i hi o ho).2.1) ?_ ?_ ?_ ?_ ?_ hvs' hσ (by simpa using hT) _ _ (Array.replicate l.toArray.size false) a _ rfl ?_ (by simp) (fun j hj => .inr (hrep j (by omega))) (fun j _ hj => hrep j (by simpa using hj)) (fun j i hj hjl => ?_) ⟨ha.size, ha.defers, fun t v _ hv => ha.at_ t v hv, fun j d v _ hjl => ?_⟩ hst.drew
  · intro i j di dj vi vj hi hj hne
    obtain ⟨oi, e1, e2, -, -⟩ := hvs' i di vi hi
    obtain ⟨oj, e3, e4, -, -⟩ := hvs' j dj vj hj
    have him : i < m := by rw [← hvm]; exact (List.getElem?_eq_some_iff.1 hi).1
    have hjm : j < m := by rw [← hvm]; exact (List.getElem?_eq_some_iff.1 hj).1
    have := ((k2 i him oi e1).2.2 j hjm oj e3).1
    rcases this with e | e
    · exact absurd e.symm hne
    · rw [e2, e4] at e
      exact fun e' => e (by rw [e'])
  · intro i j o d v hi ho hj hd
    obtain ⟨oj, e3, e4, -, -⟩ := hvs' j d v hj
    have hjm : j < m := by rw [← hvm]; exact (List.getElem?_eq_some_iff.1 hj).1
    exact ((k2 i hi o ho).2.2 j hjm oj e3).2 d e4 hd
  · simp only [Bool.or_eq_true, beq_iff_eq] at h3
    rcases h3 with h3 | h3
    · exact .inl (by simpa using h3)
    · refine .inr fun i hi => ?_
      obtain ⟨j, hj, hje⟩ := List.any_eq_true.1 (List.all_eq_true.1 h3 i (List.mem_range.2 hi))
      simp only [Bool.and_eq_true] at hje
      have := List.mem_range.1 hj
      exact ⟨j, by simpa using hje.1, by omega, hje.2⟩
  · intro k hk hk1
    have hks : k - m < l.toArray.size - m - 1 := by omega
    have := List.all_eq_true.1 h4 (k - m) (List.mem_range.2 hks)
    rwa [show m + (k - m) + 1 = k + 1 from by omega, show m + (k - m) = k from by omega] at this
  · intro k
    unfold backB
    cases hk : l.toArray[k]? with
    | none => rfl
    | some o =>
      have hks : k < l.toArray.size := (Array.getElem?_eq_some_iff.1 hk).1
      have := List.all_eq_true.1 h5 k (List.mem_range.2 hks)
      rw [hk] at this
      exact this
  · have : undone (Array.replicate l.toArray.size false) m ≤ m := by
      unfold undone
      exact Nat.le_trans (List.length_filter_le _ _) (by simp)
    simp at this ⊢
    omega
  · rw [hrep j (by omega)] at hjl; cases hjl
  · have : j < l.length := by
      have := (Array.getElem?_eq_some_iff.1 hjl).1
      simpa using this
    rw [hrep j this] at hjl; cases hjl
end
end Go.Proofs.Ytokoopdkofgabaa
