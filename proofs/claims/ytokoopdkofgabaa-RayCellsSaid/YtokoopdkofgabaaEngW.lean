/- The engine: in a drawn region, an operation that only reckons may be taken first. -/
import Derived.Test.YtokoopdkofgabaaEngA
namespace Go.Proofs.Ytokoopdkofgabaa
open Go.RowKit
def pickOk (ops : Array Oper) (mask : List Bool) (rest : List Nat) (i d : Nat) (o : Oper) : Bool :=
  rest.contains i && ((List.range ops.size).all fun j => match ops[j]? with
    | none => true
    | some o' => plainB o' && (Nat.beq j i || (o'.dst != some d && (!(o'.looksAt ops).contains d || edgeB ops j i)))) &&
  rest.all fun j => (!litB ops mask j || litB ops mask i) && (match dstAt ops j with | some t => !(o.looksAt ops).contains t | none => true)
theorem vals_mapP {σ : List (Nat × Value)} {ρ : Operand → Value} : ∀ {l : List Operand} {vs : List Value}, vals σ l = some vs → (∀ x ∈ l, ∀ u, ev σ x = some u → ρ x = u) → l.map ρ = vs := by
  intro l
  induction l with
  | nil => intro vs hv _; simp [vals] at hv; simp [hv]
  | cons x r ih =>
    intro vs hv h
    simp only [vals] at hv
    cases hx : ev σ x with
    | none => simp [hx] at hv
    | some u =>
      cases hr : vals σ r with
      | none => simp [hx, hr] at hv
      | some us =>
        simp [hx, hr] at hv
        subst hv
        rw [List.map_cons, h x (List.mem_cons_self ..) u hx, ih hr fun y hy => h y (List.mem_cons_of_mem _ hy)]
theorem put_comm (a : Act) (d : Nat) (v : Value) (e : Option Nat) (u : Value) (h : e ≠ some d) : (a.put e u).put (some d) v = (a.put (some d) v).put e u := by
  cases e with
  | none => rfl
  | some t =>
    simp only [Act.put]
    congr 1
    exact Array.setIfInBounds_comm _ _ (fun e => h (by rw [e]))
theorem pick_core {F : Fence} {n : Nat} {P : Program} {w0 : World} {W : Nat → Prop} {HL : List HE} {Q : Exit → Act → World → Prop} {ops : Array Oper} {mask : List Bool} [hF : Wide F] {i d : Nat} {o : Oper} {v : Value} {L : Nat → Option Value}
    (hio : ops[i]? = some o) (hd : o.dst = some d)
    (hpl : ∀ (j : Nat) (o' : Oper), ops[j]? = some o' → plainB o' = true)
    (hoth : ∀ (j : Nat) (o' : Oper), j ≠ i → ops[j]? = some o' → o'.dst ≠ some d ∧ (d ∈ o'.looksAt ops → edgeB ops j i = true))
    (hval : ∀ a : Act, (∀ t ∈ o.looksAt ops, ∀ u, L t = some u → a.tmps[t]? = some u) → Region.wanted o (yielded ops a.tmps) = true ∧ ∀ w, (execOp a.eval o).run P w = .ok (.value v) w) :
    ∀ (m : Nat) (rest : List Nat) (a : Act) (w : World), i ∈ rest → rest.length ≤ m + 1 → (∀ j ∈ rest, litB ops mask j = true → litB ops mask i = true) → (∀ j ∈ rest, ∀ t, dstAt ops j = some t → t ∉ o.looksAt ops) → (litB ops mask i = true ∨ St w0 W HL w) →
      (∀ t ∈ o.looksAt ops, ∀ u, L t = some u → a.tmps[t]? = some u) → wpT F n P w0 W HL ops mask Q m (rest.erase i) (a.put (some d) v) w → wpT F n P w0 W HL ops mask Q (m + 1) rest a w := by
  have hnd : ∀ (j : Nat) (o' : Oper), ops[j]? = some o' → ∀ c, o'.op ≠ .defer c := by
    intro j o' h c e
    have := hpl j o' h
    unfold plainB at this; rw [e] at this; cases this
  intro m
  induction m with
  | zero =>
    intro rest a w hi hlen hlit hdst hst ha h
    refine ⟨fun e => (by rw [e] at hi; cases hi), fun j hj hr => ?_⟩
    have hji : j = i := by
      match rest, hlen, hi, hj with
      | [x], _, hi, hj => rw [List.mem_singleton.1 hi, List.mem_singleton.1 hj]
    subst hji
    have hopsAt : opsAt ops [j] = [o] := by simp [opsAt, hio]
    rw [hopsAt]
    obtain ⟨hw1, hw2⟩ := hval a ha
    simp only [wpListIn]
    rw [if_pos hw1]
    refine ⟨fun f _ => hF.out.fn f, ?_⟩
    rw [Oper.semAt_plain F _ _ (hnd j o hio), hw2 w, Oper.uponIn_value, hd]
    exact ⟨hst, h⟩
  | succ m ih =>
    intro rest a w hi hlen hlit hdst hst ha h
    refine ⟨fun e => (by rw [e] at hi; cases hi), fun j hj hr => ?_⟩
    by_cases hji : j = i
    · subst hji
      have hopsAt : opsAt ops [j] = [o] := by simp [opsAt, hio]
      rw [hopsAt]
      obtain ⟨hw1, hw2⟩ := hval a ha
      simp only [wpListIn]
      rw [if_pos hw1]
      refine ⟨fun f _ => hF.out.fn f, ?_⟩
      rw [Oper.semAt_plain F _ _ (hnd j o hio), hw2 w, Oper.uponIn_value, hd]
      exact ⟨hst, h⟩
    · have hwp := h.2 j ((List.mem_erase_of_ne hji).2 hj) (fun k hk => hr k (List.mem_of_mem_erase hk))
      cases hjo : ops[j]? with
      | none =>
        have hopsAt : opsAt ops [j] = [] := by simp [opsAt, hjo]
        rw [hopsAt] at hwp ⊢
        obtain ⟨hob, hwp⟩ := hwp
        refine ⟨hob, ih (rest.erase j) a w ((List.mem_erase_of_ne (fun e => hji e.symm)).2 hi) (by have := List.length_erase_of_mem hj; omega) (fun k hk => hlit k (List.mem_of_mem_erase hk)) (fun k hk => hdst k (List.mem_of_mem_erase hk)) hst ha ?_⟩
        have := hwp
        rw [List.erase_comm] at this
        exact this
      | some o' =>
        have hopsAt : opsAt ops [j] = [o'] := by simp [opsAt, hjo]
        rw [hopsAt] at hwp ⊢
        obtain ⟨hne, hlk⟩ := hoth j o' hji hjo
        have hnl : d ∉ o'.looksAt ops := fun hm => by have := hr i hi; rw [hlk hm] at this; cases this
        have hagree : ∀ t ∈ o'.looksAt ops, a.tmps[t]? = (a.put (some d) v).tmps[t]? := by
          intro t ht
          simp only [Act.put, Array.getElem?_setIfInBounds]
          rw [if_neg (fun e => hnl (by rw [e]; exact ht))]
        have hwt : Region.wanted o' (yielded ops a.tmps) = Region.wanted o' (yielded ops (a.put (some d) v).tmps) := by
          unfold Region.wanted
          cases hg : o'.guard with
          | none => rfl
          | some g =>
            obtain ⟨j', c⟩ := g
            simp only [yielded]
            cases hj : (ops[j']?).bind (·.dst) with
            | none => rfl
            | some t =>
              have : t ∈ o'.looksAt ops := by
                unfold Oper.looksAt
                rw [hg]
                exact List.mem_append_right _ (by simp [hj])
              simp only [Option.bind_some, hagree t this]
        have hev : execOp a.eval o' = execOp (a.put (some d) v).eval o' := by
          refine execOp_congr o' (fun cs c e => ?_) fun x hx => eval_of fun t e => ?_
          · have := hpl j o' hjo
            unfold plainB at this; rw [e] at this; cases this
          · subst e
            exact hagree t (List.mem_append_left _ (List.mem_filterMap.2 ⟨.tmp t, by simpa using hx, rfl⟩))
        have hnext : ∀ (ds : List Deferred) (u : Value) (w' : World), wpListIn F n P ops (nq fun _ b'' w'' => (litB ops mask j = true ∨ St w0 W HL w'') ∧ wpT F n P w0 W HL ops mask Q m ((rest.erase i).erase j) b'' w'') [] (({ (a.put (some d) v) with defers := ds } : Act).put o'.dst u) w' →
            wpListIn F n P ops (nq fun _ b'' w'' => (litB ops mask j = true ∨ St w0 W HL w'') ∧ wpT F n P w0 W HL ops mask Q (m + 1) (rest.erase j) b'' w'') [] (({ a with defers := ds } : Act).put o'.dst u) w' := by
          intro ds u w' hh
          obtain ⟨h1, h2⟩ := hh
          have hst' : litB ops mask i = true ∨ St w0 W HL w' := h1.imp (hlit j hj) id
          refine ⟨h1, ih (rest.erase j) _ w' ((List.mem_erase_of_ne (fun e => hji e.symm)).2 hi) (by have := List.length_erase_of_mem hj; omega) (fun k hk => hlit k (List.mem_of_mem_erase hk)) (fun k hk => hdst k (List.mem_of_mem_erase hk)) hst' (fun t ht u' hu' => ?_) ?_⟩
          · cases hdj : o'.dst with
            | none => exact ha t ht u' hu'
            | some e =>
              have hne2 : e ≠ t := fun hh => hdst j hj e (by simp [dstAt, hjo, hdj]) (by rw [hh]; exact ht)
              simp only [Act.put, Array.getElem?_setIfInBounds]
              rw [if_neg hne2]
              exact ha t ht u' hu'
          · rw [List.erase_comm, put_comm _ _ _ _ _ hne]
            exact h2
        simp only [wpListIn] at hwp ⊢
        rw [hwt]
        by_cases hw : Region.wanted o' (yielded ops (a.put (some d) v).tmps) = true
        · rw [if_pos hw] at hwp ⊢
          refine ⟨fun f _ => hF.out.fn f, ?_⟩
          have h2 := hwp.2
          rw [Oper.semAt_plain F _ _ (hnd j o' hjo), ← hev] at h2
          rw [Oper.semAt_plain F _ _ (hnd j o' hjo)]
          exact uponIn_sim h2 (fun u w' hh => hnext a.defers u w' hh) (fun x w' hh => hnext (x :: a.defers) undef w' hh)
        · rw [if_neg hw] at hwp ⊢
          exact ⟨fun f _ => hF.out.fn f, hnext a.defers undef w hwp.2⟩
/-- A tree that keeps more. -/
theorem wpT_strong {F : Fence} {n : Nat} {P : Program} {w0 : World} {W : Nat → Prop} {HL : List HE} {Q : Exit → Act → World → Prop} {ops : Array Oper} {mask mask' : List Bool} (hm : ∀ i, litB ops mask' i = true → litB ops mask i = true) :
    ∀ (m : Nat) (rest : List Nat) (b : Act) (w : World), wpT F n P w0 W HL ops mask' Q m rest b w → wpT F n P w0 W HL ops mask Q m rest b w := by
  intro m
  induction m with
  | zero => intro rest b w h; exact h
  | succ m ih =>
    intro rest b w h
    refine ⟨h.1, fun j hj hr => ?_⟩
    have hwp := h.2 j hj hr
    cases hjo : ops[j]? with
    | none =>
      have hopsAt : opsAt ops [j] = [] := by simp [opsAt, hjo]
      rw [hopsAt] at hwp ⊢
      exact ⟨hwp.1.imp (hm j) id, ih _ _ _ hwp.2⟩
    | some o' =>
      have hopsAt : opsAt ops [j] = [o'] := by simp [opsAt, hjo]
      rw [hopsAt] at hwp ⊢
      have hnext : ∀ (c : Act) (w' : World), wpListIn F n P ops (nq fun _ b'' w'' => (litB ops mask' j = true ∨ St w0 W HL w'') ∧ wpT F n P w0 W HL ops mask' Q m (rest.erase j) b'' w'') [] c w' →
          wpListIn F n P ops (nq fun _ b'' w'' => (litB ops mask j = true ∨ St w0 W HL w'') ∧ wpT F n P w0 W HL ops mask Q m (rest.erase j) b'' w'') [] c w' := fun c w' hh => ⟨hh.1.imp (hm j) id, ih _ _ _ hh.2⟩
      simp only [wpListIn] at hwp ⊢
      by_cases hw : Region.wanted o' (yielded ops b.tmps) = true
      · rw [if_pos hw] at hwp ⊢
        exact ⟨hwp.1, uponIn_sim hwp.2 (fun u w' hh => hnext _ w' hh) (fun x w' hh => hnext _ w' hh)⟩
      · rw [if_neg hw] at hwp ⊢
        exact ⟨hwp.1, hnext _ w hwp.2⟩
section
variable {F : Fence} {n : Nat} {P : Program} {N : Nat} {ds : List Deferred} {w0 : World} {W : Nat → Prop} {σ : List (Nat × Value)} {H HL : List HE} {Q : Exit → Act → World → Prop} {ops : Array Oper} {mask : List Bool} {m : Nat} {rest : List Nat}
theorem lit_full {ops : Array Oper} {mask : List Bool} (k : Nat) (hk : Nat.ble ops.size k = true) (i : Nat) (h : litB ops (List.replicate k true) i = true) : litB ops mask i = true := by
  unfold litB at h ⊢
  refine List.all_eq_true.2 fun j hj => ?_
  have h1 := List.all_eq_true.1 h j hj
  have h2 : mAt (List.replicate k true) j = true := by
    unfold mAt
    have := List.mem_range.1 hj
    have := Nat.le_of_ble_eq_true hk
    rw [List.getD_eq_getElem?_getD, List.getElem?_replicate, if_pos (by omega)]
    rfl
  rw [h2] at h1
  rw [show edgeB ops i j = true by simpa using h1]
  simp
/-- What the light operations look at stays; so pure ones may be taken first. -/
theorem t_weak (k : Nat) (hk : Nat.ble ops.size k = true) (h : J N ds w0 W σ H (wpT F n P w0 W HL ops (List.replicate k true) Q m rest)) : J N ds w0 W σ H (wpT F n P w0 W HL ops mask Q m rest) :=
  fun a w ha hw => wpT_strong (fun i hi => lit_full k hk i hi) m rest a w (h a w ha hw)
/-- An operation that only reckons, first. -/
theorem t_pick (i : Nat) {d : Nat} {op : Op} {ty : TypeId} {pos : String} {aft : Array Edge} {gd : Option (Nat × Bool)} {vs : List Value} {v : Value} {c : Prop} [hF : Wide F] (hio : ops.toList[i]? = some ⟨some d, op, ty, pos, aft, gd⟩) (hok : pickOk ops mask rest i d ⟨some d, op, ty, pos, aft, gd⟩ = true) (hlen : Nat.ble rest.length (m + 1) = true)
    (hw : wantd ops σ ⟨some d, op, ty, pos, aft, gd⟩ = some true) (hv : vals σ op.operands.toList = some vs) [hp : PV P op vs v c] (hc : c) (hdN : Nat.blt d N = true) (hs : Sub HL H)
    (h : J N ds w0 W ((d, v) :: σ) H (wpT F n P w0 W HL ops mask Q m (rest.erase i))) : J N ds w0 W σ H (wpT F n P w0 W HL ops mask Q (m + 1) rest) := by
  intro a w ha hst
  rw [Array.getElem?_toList] at hio
  generalize ho : (⟨some d, op, ty, pos, aft, gd⟩ : Oper) = o at *
  have hd : o.dst = some d := by rw [← ho]
  have hop : o.op = op := by rw [← ho]
  unfold pickOk at hok
  simp only [Bool.and_eq_true] at hok
  obtain ⟨⟨hin, hall⟩, hrest⟩ := hok
  have hq : ∀ ρ : Operand → Value, (∀ x ∈ o.op.operands.toList, ∀ u, ev σ x = some u → ρ x = u) → ∀ w, (execOp ρ o).run P w = .ok (.value v) w := by
    subst ho
    intro ρ h w
    exact hp.h hc ρ _ rfl (vals_mapP hv h) w
  have hper : ∀ (j : Nat) (o' : Oper), ops[j]? = some o' → plainB o' = true ∧ (j ≠ i → o'.dst ≠ some d ∧ (d ∈ o'.looksAt ops → edgeB ops j i = true)) := by
    intro j o' hj
    have h1 := List.all_eq_true.1 hall j (List.mem_range.2 (Array.getElem?_eq_some_iff.1 hj).1)
    rw [hj] at h1
    simp only [Bool.and_eq_true] at h1
    refine ⟨h1.1, fun hne => ?_⟩
    have h2 := h1.2
    have e2 : Nat.beq j i = false := by
      cases hb : Nat.beq j i with
      | false => rfl
      | true => exact absurd (Nat.eq_of_beq_eq_true hb) hne
    rw [e2] at h2
    simp only [Bool.false_or, Bool.and_eq_true] at h2
    refine ⟨by simpa using h2.1, fun hm => ?_⟩
    have h3 := h2.2
    have e3 : (o'.looksAt ops).contains d = true := by simpa using hm
    rw [e3] at h3
    simpa using h3
  refine pick_core (L := look σ) hio hd (fun j o' hj => (hper j o' hj).1) (fun j o' hne hj => (hper j o' hj).2 hne) (fun a' ha' => ⟨wanted_at ha' hw, fun w' => hq _ (fun x hx u hu => ?_) w'⟩) m rest a w (by simpa using hin) (Nat.le_of_ble_eq_true hlen) (fun j hj hlt => ?_) (fun j hj t ht hm => ?_) (.inr (hst.sub hs)) (fun t _ u hu => ha.at_ t u hu) ?_
  · cases x with
    | tmp t =>
      have := ha' t (List.mem_append_left _ (List.mem_filterMap.2 ⟨.tmp t, hx, rfl⟩)) u hu
      simp [Act.eval, this]
    | const u => simpa [ev, Act.eval] using hu
    | global g => simpa [ev, Act.eval] using hu
    | func f => simpa [ev, Act.eval] using hu
  · have := List.all_eq_true.1 hrest j hj
    simp only [Bool.and_eq_true] at this
    have h1 := this.1
    rw [hlt] at h1
    simpa using h1
  · have := List.all_eq_true.1 hrest j hj
    simp only [Bool.and_eq_true] at this
    have h2 := this.2
    simp [ht, hm] at h2
  · exact h _ _ (ha.put d v (by simpa using hdN)) hst
end
end Go.Proofs.Ytokoopdkofgabaa
