
import Derived.Test.YtemmnpgebpffbaaGreatMG07
set_option linter.unusedVariables false
set_option linter.unusedSimpArgs false
/- The engine: in a drawn region, an operation that only reckons or looks may be taken first, whatever turns memory behind it. -/
namespace Go.Proofs.YtemmnpgebpffbaaGreat
open Go.RowKit
theorem look_core {F : Fence} {n : Nat} {P : Program} {w0 : World} {W : Nat → Prop} {HL : List HE} {Q : Exit → Act → World → Prop} {ops : Array Oper} {mask : List Bool} [hF : Wide F] {i d : Nat} {o : Oper} {v : Value} {L : Nat → Option Value}
    (hio : ops[i]? = some o) (hd : o.dst = some d)
    (hpl : ∀ (j : Nat) (o' : Oper), ops[j]? = some o' → plainB o' = true)
    (hoth : ∀ (j : Nat) (o' : Oper), j ≠ i → ops[j]? = some o' → o'.dst ≠ some d ∧ (d ∈ o'.looksAt ops → edgeB ops j i = true))
    (hval : ∀ a : Act, (∀ t ∈ o.looksAt ops, ∀ u, L t = some u → a.tmps[t]? = some u) → (Region.wanted o (yielded ops a.tmps) = true ∧ ∀ w, St w0 W HL w → (execOp a.eval o).run P w = .ok (.value v) w) ∨ (Region.wanted o (yielded ops a.tmps) = false ∧ v = undef)) :
    ∀ (m : Nat) (rest : List Nat) (a : Act) (w : World), i ∈ rest → rest.length ≤ m + 1 → (∀ j ∈ rest, litB ops mask j = false) → (∀ j ∈ rest, ∀ t, dstAt ops j = some t → t ∉ o.looksAt ops) → St w0 W HL w →
      (∀ t ∈ o.looksAt ops, ∀ u, L t = some u → a.tmps[t]? = some u) → wpT F n P w0 W HL ops mask Q m (rest.erase i) (a.put (some d) v) w → wpT F n P w0 W HL ops mask Q (m + 1) rest a w := by
  have hnd : ∀ (j : Nat) (o' : Oper), ops[j]? = some o' → ∀ c, o'.op ≠ .defer c := by
    intro j o' h c e
    have := hpl j o' h
    unfold plainB at this; rw [e] at this; cases this
  have hme : ∀ (m : Nat) (rest : List Nat) (a : Act) (w : World), St w0 W HL w → (∀ t ∈ o.looksAt ops, ∀ u, L t = some u → a.tmps[t]? = some u) → wpT F n P w0 W HL ops mask Q m (rest.erase i) (a.put (some d) v) w →
      wpListIn F n P ops (nq fun _ b' w' => (litB ops mask i = true ∨ St w0 W HL w') ∧ wpT F n P w0 W HL ops mask Q m (rest.erase i) b' w') [o] a w := by
    intro m rest a w hst ha h
    simp only [wpListIn]
    rcases hval a ha with ⟨hw1, hw2⟩ | ⟨hw1, hw2⟩
    · rw [if_pos hw1]
      refine ⟨fun f _ => hF.out.fn f, ?_⟩
      rw [Oper.semAt_plain F _ _ (hnd i o hio), hw2 w hst, Oper.uponIn_value, hd]
      exact ⟨.inr hst, h⟩
    · rw [if_neg (by rw [hw1]; simp)]
      refine ⟨fun f _ => hF.out.fn f, ?_⟩
      rw [hd]
      subst hw2
      exact ⟨.inr hst, h⟩
  intro m
  induction m with
  | zero =>
    intro rest a w hi hlen hlit hdst hst ha h
    refine ⟨fun e => (by rw [e] at hi; cases hi), fun j hj hr => ?_⟩
    have hji : j = i := by
      match rest, hlen, hi, hj with
      | [x], _, hi, hj => rw [List.mem_singleton.1 hi, List.mem_singleton.1 hj]
    subst hji
    have hopsAt : opsAt ops [j] = [o] := by simp [opsAt, hio]
    rw [hopsAt]
    exact hme 0 rest a w hst ha h
  | succ m ih =>
    intro rest a w hi hlen hlit hdst hst ha h
    refine ⟨fun e => (by rw [e] at hi; cases hi), fun j hj hr => ?_⟩
    by_cases hji : j = i
    · subst hji
      have hopsAt : opsAt ops [j] = [o] := by simp [opsAt, hio]
      rw [hopsAt]
      exact hme (m + 1) rest a w hst ha h
    · have hwp := h.2 j ((List.mem_erase_of_ne hji).2 hj) (fun k hk => hr k (List.mem_of_mem_erase hk))
      cases hjo : ops[j]? with
      | none =>
        have hopsAt : opsAt ops [j] = [] := by simp [opsAt, hjo]
        rw [hopsAt] at hwp ⊢
        obtain ⟨hob, hwp⟩ := hwp
        refine ⟨hob, ih (rest.erase j) a w ((List.mem_erase_of_ne (fun e => hji e.symm)).2 hi) (by have := List.length_erase_of_mem hj; omega) (fun k hk => hlit k (List.mem_of_mem_erase hk)) (fun k hk => hdst k (List.mem_of_mem_erase hk)) hst ha ?_⟩
        have := hwp
        rw [List.erase_comm] at this
        exact this
      | some o' =>
        have hopsAt : opsAt ops [j] = [o'] := by simp [opsAt, hjo]
        rw [hopsAt] at hwp ⊢
        obtain ⟨hne, hlk⟩ := hoth j o' hji hjo
        have hnl : d ∉ o'.looksAt ops := fun hm => by have := hr i hi; rw [hlk hm] at this; cases this
        have hagree : ∀ t ∈ o'.looksAt ops, a.tmps[t]? = (a.put (some d) v).tmps[t]? := by
          intro t ht
          simp only [Act.put, Array.getElem?_setIfInBounds]
          rw [if_neg (fun e => hnl (by rw [e]; exact ht))]
        have hwt : Region.wanted o' (yielded ops a.tmps) = Region.wanted o' (yielded ops (a.put (some d) v).tmps) := by
          unfold Region.wanted
          cases hg : o'.guard with
          | none => rfl
          | some g =>
            obtain ⟨j', c⟩ := g
            simp only [yielded]
            cases hj : (ops[j']?).bind (·.dst) with
            | none => rfl
            | some t =>
              have : t ∈ o'.looksAt ops := by
                unfold Oper.looksAt
                rw [hg]
                exact List.mem_append_right _ (by simp [hj])
              simp only [Option.bind_some, hagree t this]
        have hev : execOp a.eval o' = execOp (a.put (some d) v).eval o' := by
          refine execOp_congr o' (fun cs c e => ?_) fun x hx => eval_of fun t e => ?_
          · have := hpl j o' hjo
            unfold plainB at this; rw [e] at this; cases this
          · subst e
            exact hagree t (List.mem_append_left _ (List.mem_filterMap.2 ⟨.tmp t, by simpa using hx, rfl⟩))
        have hnext : ∀ (ds : List Deferred) (u : Value) (w' : World), wpListIn F n P ops (nq fun _ b'' w'' => (litB ops mask j = true ∨ St w0 W HL w'') ∧ wpT F n P w0 W HL ops mask Q m ((rest.erase i).erase j) b'' w'') [] (({ (a.put (some d) v) with defers := ds } : Act).put o'.dst u) w' →
            wpListIn F n P ops (nq fun _ b'' w'' => (litB ops mask j = true ∨ St w0 W HL w'') ∧ wpT F n P w0 W HL ops mask Q (m + 1) (rest.erase j) b'' w'') [] (({ a with defers := ds } : Act).put o'.dst u) w' := by
          intro ds u w' hh
          obtain ⟨h1, h2⟩ := hh
          have hst' : St w0 W HL w' := by
            rcases h1 with h1 | h1
            · rw [hlit j hj] at h1; cases h1
            · exact h1
          refine ⟨h1, ih (rest.erase j) _ w' ((List.mem_erase_of_ne (fun e => hji e.symm)).2 hi) (by have := List.length_erase_of_mem hj; omega) (fun k hk => hlit k (List.mem_of_mem_erase hk)) (fun k hk => hdst k (List.mem_of_mem_erase hk)) hst' (fun t ht u' hu' => ?_) ?_⟩
          · cases hdj : o'.dst with
            | none => exact ha t ht u' hu'
            | some e =>
              have hne2 : e ≠ t := fun hh => hdst j hj e (by simp [dstAt, hjo, hdj]) (by rw [hh]; exact ht)
              simp only [Act.put, Array.getElem?_setIfInBounds]
              rw [if_neg hne2]
              exact ha t ht u' hu'
          · rw [List.erase_comm, put_comm _ _ _ _ _ hne]
            exact h2
        simp only [wpListIn] at hwp ⊢
        rw [hwt]
        by_cases hw : Region.wanted o' (yielded ops (a.put (some d) v).tmps) = true
        · rw [if_pos hw] at hwp ⊢
          refine ⟨fun f _ => hF.out.fn f, ?_⟩
          have h2 := hwp.2
          rw [Oper.semAt_plain F _ _ (hnd j o' hjo), ← hev] at h2
          rw [Oper.semAt_plain F _ _ (hnd j o' hjo)]
          exact uponIn_sim h2 (fun u w' hh => hnext a.defers u w' hh) (fun x w' hh => hnext (x :: a.defers) undef w' hh)
        · rw [if_neg hw] at hwp ⊢
          exact ⟨fun f _ => hF.out.fn f, hnext a.defers undef w hwp.2⟩
/-- A list without what stands at a place. -/
class EraX (l : List Nat) (k : Nat) (r : outParam (List Nat)) : Prop where h : l.eraseIdx k = r
instance (x : Nat) (r : List Nat) : EraX (x :: r) 0 r := ⟨rfl⟩
instance (x k : Nat) (r r' : List Nat) [h : EraX r k r'] : EraX (x :: r) (k + 1) (x :: r') := ⟨by rw [List.eraseIdx_cons_succ, h.h]⟩
theorem era_head (i : Nat) (r : List Nat) : (i :: r).erase i = r := by simp
theorem era_step {j i : Nat} {r r' : List Nat} (hne : Nat.beq j i = false) (h : r.erase i = r') : (j :: r).erase i = j :: r' := by
  rw [List.erase_cons]
  have : (j == i) = false := by
    simp only [beq_eq_false_iff_ne]
    intro e
    rw [e] at hne
    simp at hne
  rw [this]
  simp [h]
/-- A region in which what is looked at is waited for. -/
def regOk (ops : Array Oper) : Bool := (List.range ops.size).all fun i => match ops[i]? with
  | none => true
  | some o => plainB o && (!edgeB ops i i) && (match o.dst with | none => true | some d => (!(o.looksAt ops).contains d) &&
      ((List.range ops.size).all fun j => Nat.beq j i || (match ops[j]? with | none => true | some o' => o'.dst != some d && (!(o'.looksAt ops).contains d || edgeB ops j i))))
class RegV (ops : Array Oper) : Prop where
  ok : regOk ops = true
  few : ops.size ≤ 300
/-- None of those that are left is waited for. -/
def unbl (rest : List Nat) (aft : Array Edge) : Bool := rest.all fun j => !(aft.any fun e => Region.binds .any e && e.on == j)
section
variable {F : Fence} {n : Nat} {P : Program} {N : Nat} {ds : List Deferred} {w0 : World} {W : Nat → Prop} {σ : List (Nat × Value)} {H HL : List HE} {Q : Exit → Act → World → Prop} {ops : Array Oper} {m : Nat} {rest rest' : List Nat}
theorem RegV.at_ (h : RegV ops) {i : Nat} {o : Oper} (hi : ops[i]? = some o) : plainB o = true ∧ edgeB ops i i = false ∧ ∀ d, o.dst = some d → d ∉ o.looksAt ops ∧ ∀ j o', j ≠ i → ops[j]? = some o' → o'.dst ≠ some d ∧ (d ∈ o'.looksAt ops → edgeB ops j i = true) := by
  have h1 := List.all_eq_true.1 h.ok i (List.mem_range.2 (Array.getElem?_eq_some_iff.1 hi).1)
  rw [hi] at h1
  simp only [Bool.and_eq_true] at h1
  obtain ⟨⟨h1, h2⟩, h3⟩ := h1
  refine ⟨h1, by simpa using h2, fun d hd => ?_⟩
  rw [hd] at h3
  simp only [Bool.and_eq_true] at h3
  obtain ⟨h3, h4⟩ := h3
  refine ⟨by simpa using h3, fun j o' hne hj => ?_⟩
  have h5 := List.all_eq_true.1 h4 j (List.mem_range.2 (Array.getElem?_eq_some_iff.1 hj).1)
  rw [hj] at h5
  have e : Nat.beq j i = false := by
    cases hb : Nat.beq j i with
    | false => rfl
    | true => exact absurd (Nat.eq_of_beq_eq_true hb) hne
  rw [e] at h5
  simp only [Bool.false_or, Bool.and_eq_true] at h5
  refine ⟨by simpa using h5.1, fun hm => ?_⟩
  have h6 := h5.2
  have e3 : (o'.looksAt ops).contains d = true := by simpa using hm
  rw [e3] at h6
  simpa using h6
theorem RegV.lit (h : RegV ops) (hpos : 0 < ops.size) (j : Nat) : litB ops (List.replicate 300 true) j = false := by
  have hm : ∀ k, k < 300 → mAt (List.replicate 300 true) k = true := fun k hk => by
    unfold mAt
    rw [List.getD_eq_getElem?_getD, List.getElem?_replicate, if_pos hk]
    rfl
  cases hc : litB ops (List.replicate 300 true) j with
  | false => rfl
  | true =>
    have hf := h.few
    unfold litB at hc
    cases hj : ops[j]? with
    | none =>
      have h1 := List.all_eq_true.1 hc 0 (List.mem_range.2 hpos)
      rw [hm 0 (by omega)] at h1
      unfold edgeB at h1
      rw [hj] at h1
      simp at h1
    | some o =>
      have hlt := (Array.getElem?_eq_some_iff.1 hj).1
      have h1 := List.all_eq_true.1 hc j (List.mem_range.2 hlt)
      rw [hm j (by omega), (h.at_ hj).2.1] at h1
      simp at h1
theorem look_any {i d : Nat} {o : Oper} {v : Value} [hF : Wide F] [hV : RegV ops] (hio : ops.toList[i]? = some o) (hd : o.dst = some d) (hin : i ∈ rest) (hok : unbl rest o.after = true) (hlen : Nat.ble rest.length (m + 1) = true)
    (hq : (wantd ops σ o = some true ∧ LQ P w0 W HL σ o v) ∨ (wantd ops σ o = some false ∧ v = undef)) (hdN : Nat.blt d N = true) (hs : Sub HL H) (he : rest.erase i = rest')
    (h : J N ds w0 W ((d, v) :: σ) H (wpT F n P w0 W HL ops (List.replicate 300 true) Q m rest')) : J N ds w0 W σ H (wpT F n P w0 W HL ops (List.replicate 300 true) Q (m + 1) rest) := by
  intro a w ha hst
  subst he
  rw [Array.getElem?_toList] at hio
  have hpos : 0 < ops.size := by have := (Array.getElem?_eq_some_iff.1 hio).1; omega
  refine look_core (v := v) (L := look σ) hio hd (fun j o' hj => (hV.at_ hj).1) (fun j o' hne hj => ((hV.at_ hio).2.2 d hd).2 j o' hne hj) (fun a' ha' => ?_) m rest a w hin (Nat.le_of_ble_eq_true hlen) (fun j _ => hV.lit hpos j) (fun j hj t ht hm => ?_) (hst.sub hs) (fun t _ u hu => ha.at_ t u hu) ?_
  · rcases hq with ⟨hw, hl⟩ | ⟨hw, hv⟩
    · refine .inl ⟨wanted_at ha' hw, fun w' hw' => hl _ (fun x hx u hu => ?_) w' hw'⟩
      cases x with
      | tmp t =>
        have := ha' t (List.mem_append_left _ (List.mem_filterMap.2 ⟨.tmp t, hx, rfl⟩)) u hu
        simp [Act.eval, this]
      | const u => simpa [ev, Act.eval] using hu
      | global g => simpa [ev, Act.eval] using hu
      | func f => simpa [ev, Act.eval] using hu
    · exact .inr ⟨wanted_at ha' hw, hv⟩
  · unfold dstAt at ht
    cases hjo : ops[j]? with
    | none => rw [hjo] at ht; cases ht
    | some o' =>
      rw [hjo] at ht
      have ht' : o'.dst = some t := ht
      by_cases hji : j = i
      · subst hji
        rw [hio] at hjo
        injection hjo with e
        subst e
        exact ((hV.at_ hio).2.2 t ht').1 hm
      · have h1 := ((hV.at_ hjo).2.2 t ht').2 i o (fun e => hji e.symm) hio
        have h2 := h1.2 hm
        unfold edgeB at h2
        rw [hio] at h2
        have h3 := List.all_eq_true.1 hok j hj
        simp only at h2
        rw [h2] at h3
        simp at h3
  · exact h _ _ (ha.put d v (by simpa using hdN)) hst
theorem mem_of_get {l : List Nat} {k i : Nat} (h : l[k]? = some i) : i ∈ l := List.mem_of_getElem? h
/-- The operation that stands there in the list of what is left, first. -/
theorem t_look (k : Nat) {i d : Nat} {op : Op} {ty : TypeId} {pos : String} {aft : Array Edge} {gd : Option (Nat × Bool)} {vs : List Value} {v : Value} {c : Prop} [hF : Wide F] [hV : RegV ops] (hk : rest[k]? = some i) (hio : ops.toList[i]? = some ⟨some d, op, ty, pos, aft, gd⟩) (hw : wantd ops σ ⟨some d, op, ty, pos, aft, gd⟩ = some true) (hv : vals σ op.operands.toList = some vs) [hp : LV P w0 W HL op vs v c] (hdN : Nat.blt d N = true) (hlen : Nat.ble rest.length (m + 1) = true) [he : EraX rest k rest'] (hc : c)
    (hok : (unbl rest aft && rest.erase i == rest.eraseIdx k) = true) (hs : Sub HL H) (h : J N ds w0 W ((d, v) :: σ) H (wpT F n P w0 W HL ops (List.replicate 300 true) Q m rest')) : J N ds w0 W σ H (wpT F n P w0 W HL ops (List.replicate 300 true) Q (m + 1) rest) := by
  simp only [Bool.and_eq_true, beq_iff_eq] at hok
  exact look_any hio rfl (mem_of_get hk) hok.1 hlen (.inl ⟨hw, lq_of (vs := vs) (c := c) hv hc⟩) hdN hs (hok.2.trans he.h) h
/-- The same; it is not wanted. -/
theorem t_none (k : Nat) {i d : Nat} {op : Op} {ty : TypeId} {pos : String} {aft : Array Edge} {gd : Option (Nat × Bool)} [hF : Wide F] [hV : RegV ops] (hk : rest[k]? = some i) (hio : ops.toList[i]? = some ⟨some d, op, ty, pos, aft, gd⟩) (hw : wantd ops σ ⟨some d, op, ty, pos, aft, gd⟩ = some false) (hdN : Nat.blt d N = true) (hlen : Nat.ble rest.length (m + 1) = true) [he : EraX rest k rest']
    (hok : (unbl rest aft && rest.erase i == rest.eraseIdx k) = true) (hs : Sub HL H) (h : J N ds w0 W ((d, undef) :: σ) H (wpT F n P w0 W HL ops (List.replicate 300 true) Q m rest')) : J N ds w0 W σ H (wpT F n P w0 W HL ops (List.replicate 300 true) Q (m + 1) rest) := by
  simp only [Bool.and_eq_true, beq_iff_eq] at hok
  exact look_any hio rfl (mem_of_get hk) hok.1 hlen (.inr ⟨hw, rfl⟩) hdN hs (hok.2.trans he.h) h
variable {mask : List Bool}
theorem t_nrm (he : rest = rest') (h : J N ds w0 W σ H (wpT F n P w0 W HL ops mask Q m rest')) : J N ds w0 W σ H (wpT F n P w0 W HL ops mask Q m rest) := by rw [he]; exact h
/-- A region that draws: all of its operations, in each order that may be; what HL holds stays. -/
theorem c_drv {id : Nat} {l : List Oper} (HL : List HE) (r : List Nat) [hF : Wide F] (hs : Sub HL H) (hr : (hvIdx l.toArray (List.replicate l.toArray.size false) == r) = true) (hmx : P.follows .mixedOrders = true) (hok : maskOkX l.toArray (List.replicate l.toArray.size false) = true) (hp : (pvIdx l.toArray (List.replicate l.toArray.size false)).isEmpty = true) (hk : (Nat.ble l.toArray.size 300 && regOk l.toArray) = true)
    (h : RegV l.toArray → J N ds w0 W σ H (wpT F n P w0 W HL l.toArray (List.replicate 300 true) Q r.length r)) : J N ds w0 W σ H ((Code.region id l.toArray true).wpIn F n P Q) :=
  c_drx HL _ r hs (by simpa using hr) hmx hok (by
    simp only [Bool.and_eq_true] at hk
    rw [List.isEmpty_iff.1 hp]
    exact x_nil (t_weak 300 hk.1 (h ⟨hk.2, Nat.le_of_ble_eq_true hk.1⟩)))
theorem t_lit (b0 : Bool) {i j t : Nat} {o : Oper} {b : Bool} {r : List Nat} {k : Act → World → Prop} (hk : rest = i :: r) (hio : ops.toList[i]? = some o) (hg : o.guard = some (j, b)) (ht : (ops[j]?).bind (·.dst) = some t) (hv : look σ t = some (.bool b0)) (h : J N ds w0 W σ H (wpT F n P w0 W HL ops mask Q m rest)) : J N ds w0 W σ H (wpT F n P w0 W HL ops mask Q m rest) := h
/-- A guard that is not known: both ways. -/
theorem t_gd {i j t : Nat} {o : Oper} {b c : Bool} {p : Prop} {r : List Nat} [hb : BoolP c p] (hk : rest = i :: r) (hio : ops.toList[i]? = some o) (hg : o.guard = some (j, b)) (ht : (ops[j]?).bind (·.dst) = some t) (hv : look σ t = some (.bool c))
    (h1 : p → J N ds w0 W ((t, .bool true) :: σ) H (wpT F n P w0 W HL ops mask Q m rest)) (h2 : ¬ p → J N ds w0 W ((t, .bool false) :: σ) H (wpT F n P w0 W HL ops mask Q m rest)) : J N ds w0 W σ H (wpT F n P w0 W HL ops mask Q m rest) := j_dec t hv h1 h2
end
section
variable {P : Program} {w0 : World} {W : Nat → Prop} {H : List HE}
instance (priority := 2500) (t u : TypeId) (x y : Operand) (b : Bool) [hu : Und P t .bool] : LV P w0 W H (.binOp .eql t x y u) [.bool b, .bool b] (.bool true) True := ⟨fun c => by
  have := LV.h (P := P) (w0 := w0) (W := W) (H := H) (op := .binOp .eql t x y u) (vs := [.bool b, .bool b]) (v := .bool (b == b)) c
  rw [beq_self_eq_true] at this
  exact this⟩
instance (priority := 2500) (t u : TypeId) (x y : Operand) (k : IntKind) (a : Int) : LV P w0 W H (.binOp .eql t x y u) [.int k a, .int k a] (.bool true) True := ⟨fun c => by
  have := LV.h (P := P) (w0 := w0) (W := W) (H := H) (op := .binOp .eql t x y u) (vs := [.int k a, .int k a]) (v := .bool (a == a)) c
  rw [beq_self_eq_true] at this
  exact this⟩
instance (priority := 2500) (t u : TypeId) (x y : Operand) (k : IntKind) (a : Int) : LV P w0 W H (.binOp .neq t x y u) [.int k a, .int k a] (.bool false) True := ⟨fun c => by
  have := LV.h (P := P) (w0 := w0) (W := W) (H := H) (op := .binOp .neq t x y u) (vs := [.int k a, .int k a]) (v := .bool (a != a)) c
  rw [bne_self_eq_false] at this
  exact this⟩
end
end Go.Proofs.YtemmnpgebpffbaaGreat
/- Package chart: Check, Places, Head, header; the reference's Check and Same. -/
namespace Go.Proofs.YtemmnpgebpffbaaGreat
open Go.RowKit
def placesTo (W k : Nat) : List (Int × Int) := (List.range k).map fun i => (tX W i, tY W i)
theorem placesTo_len (W k : Nat) : (placesTo W k).length = k := by simp [placesTo]
theorem placesTo_succ (W k : Nat) : placesTo W (k + 1) = placesTo W k ++ [(tX W k, tY W k)] := by simp [placesTo, List.range_succ]
theorem placesTo_get (W k i : Nat) (h : i < k) : (placesTo W k).getD i default = (tX W i, tY W i) := by simp [placesTo, List.getD_eq_getElem?_getD, h]
theorem tXY {W x y : Nat} (h : x < cntF W) : tX W (y * cntF W + x) = x ∧ tY W (y * cntF W + x) = y := by
  unfold tX tY
  rw [Nat.add_comm, Nat.mul_comm, Nat.add_mul_mod_self_left, Nat.mod_eq_of_lt h, Nat.add_mul_div_left _ _ (by omega), Nat.div_eq_of_lt h, Nat.zero_add]
  exact ⟨rfl, rfl⟩
/-- What is wrong with a map. -/
def chkC (W H : Int) (z : List Int) (cell : Int) : Int := if chkF W H z ≠ 0 then chkF W H z else if cell < 1 ∨ 1000 < cell then 1 else 0
instance (priority := 2000) (P : Program) (s t : TypeId) (x : Operand) (a : Int) (dd : TypeDesc) [hs : Und P s dd] [ht : Und P t (.int .u32)] : PV P (.convert s t x) [.int .i32 a] (.int .u32 (u32N a : Nat)) True := ⟨by
  rintro hc ρ ⟨dst, op', ty, pos, aft, gd⟩ rfl h w
  have e : IntKind.u32.wrap a = (u32N a : Nat) := by unfold u32N; rw [IntKind.wrap_u32']; omega
  simp [execOp, map1 h, convert, run_underlying hs.h, run_underlying ht.h, Conv.intToInt, e]⟩
attribute [local irreducible] OJ J HdJ Code.wpIn wpListIn Oper.wpIn bodyPost CallsIn Does
set_option maxRecDepth 4000
set_option maxHeartbeats 16000000 in
theorem chkc_any (W H : Int) (A : Option Addr) (c : Nat) (z : List Int) (cell ox oy : Int) (w : World) :
    Does Tryz.prog 73 [.agg #[.int .i64 W, .int .i64 H, .slice A z.length c, .int .i64 cell, .int .i32 ox, .int .i32 oy]] [] w (fun v S' => v = .int .i64 (chkC W H z cell) ∧ S' = []) := by
  refine does_of Tryz.func73 rfl Tryz.ntmps73 rfl ⟨by simp, .nil⟩ (fun n => ?_)
  simp only [slots]
  unfold chkC
  refine z_tas
  refine lfv rfl rfl rfl (fun w _ => chk_any W H A c z w) ?_
  refine z_tas
  · exact j_out1 rfl rfl (.nil _) ⟨by rw [if_pos (by assumption)], rfl⟩
  · exact j_out1 rfl rfl (.nil _) ⟨by rw [if_neg (by assumption), if_pos (by omega)], rfl⟩
  · exact j_out1 rfl rfl (.nil _) ⟨by rw [if_neg (by assumption), if_pos (by omega)], rfl⟩
  · exact j_out1 rfl rfl (.nil _) ⟨by rw [if_neg (by assumption), if_neg (by omega)], rfl⟩
set_option maxHeartbeats 16000000 in
theorem places_any (W H : Nat) (w : World) (hm : W ≤ 256 ∧ H ≤ 256) :
    Does Tryz.prog 76 [.int .i64 W, .int .i64 H] [] w (fun v S' => ∃ A' c', v = .slice A' (placesTo W (nT W H)).length c' ∧ S' = [.row (.slice A' (placesTo W (nT W H)).length c') 142 2 (placesTo W (nT W H)).length (flat spotE (placesTo W (nT W H)))]) := by
  refine does_of Tryz.func76 rfl Tryz.ntmps76 rfl ⟨by simp, .nil⟩ (fun n => ?_)
  simp only [slots]
  have hcW := cnt_le hm.1
  have hcH := cnt_le hm.2
  refine j_nil (e := 142) (size := 2) ?_
  refine z_tas
  refine lfv rfl rfl rfl (fun w _ => cnt_any H w (by omega)) ?_
  refine z_tas
  refine c_loop (X := Nat × Option Addr × Nat) (fun q => q.1 ≤ cntF H) (fun q => [(0, .int .i64 W), (5, .slice q.2.1 (placesTo W (q.1 * cntF W)).length q.2.2), (9, .int .i64 (cntF H : Nat)), (10, .int .i64 q.1)])
    (fun q => [.row (.slice q.2.1 (placesTo W (q.1 * cntF W)).length q.2.2) 142 2 (placesTo W (q.1 * cntF W)).length (flat spotE (placesTo W (q.1 * cntF W)))]) (fun q => cntF H - q.1) (0, none, 0) (by simp) ⟨rfl, by simp [look, placesTo], rfl, rfl, trivial⟩ (by simp only [Nat.zero_mul]; exact Sub.refl _) ?_
  rintro ⟨y, A1, c1⟩ hy
  simp only at hy ⊢
  rcases Nat.lt_or_ge y (cntF H) with h | h
  · refine z_gob
    refine lfv rfl rfl rfl (fun w _ => cnt_any W w (by omega)) ?_
    refine z_tas
    have hyW : (y + 1) * cntF W ≤ 16 * 16 := Nat.mul_le_mul (by omega) hcW
    rw [Nat.add_mul, Nat.one_mul] at hyW
    refine c_loop (X := Nat × Option Addr × Nat) (fun q => q.1 ≤ cntF W) (fun q => [(0, .int .i64 W), (5, .slice q.2.1 (placesTo W (y * cntF W + q.1)).length q.2.2), (6, .int .i64 y), (9, .int .i64 (cntF H : Nat)), (10, .int .i64 y), (14, .int .i64 (cntF W : Nat)), (15, .int .i64 q.1)])
      (fun q => [.row (.slice q.2.1 (placesTo W (y * cntF W + q.1)).length q.2.2) 142 2 (placesTo W (y * cntF W + q.1)).length (flat spotE (placesTo W (y * cntF W + q.1)))]) (fun q => cntF W - q.1) (0, A1, c1) (by simp) ⟨rfl, rfl, rfl, rfl, rfl, rfl, rfl, trivial⟩ (Sub.refl _) ?_
    rintro ⟨x, A2, c2⟩ hx
    simp only at hx ⊢
    have hpl := placesTo_len W (y * cntF W + x)
    rcases Nat.lt_or_ge x (cntF W) with h2 | h2
    · have hps := placesTo_succ W (y * cntF W + x)
      rw [(tXY h2).1, (tXY h2).2] at hps
      refine z_tas
      rename_i A3 c3
      rw [← hps]
      exact c_round (x + 1, A3, c3) (by show x + 1 ≤ _; omega) (by show _ - (x + 1) < _ - x; omega) ⟨rfl, rfl, rfl, rfl, rfl, rfl, by simp [look], trivial⟩ Sub.au
    · obtain rfl : x = cntF W := by omega
      refine z_tas
      exact c_round (y + 1, A2, c2) (by show y + 1 ≤ _; omega) (by show _ - (y + 1) < _ - y; omega) ⟨rfl, by simp only [Nat.add_mul, Nat.one_mul]; rfl, rfl, by simp [look], trivial⟩ (by simp only [Nat.add_mul, Nat.one_mul]; exact Sub.au)
  · obtain rfl : y = cntF H := by omega
    refine z_tas
    have e : nT W H = cntF H * cntF W := Nat.mul_comm _ _
    rw [e]
    exact j_out1 rfl rfl (Sub.refl _) ⟨_, _, rfl, rfl⟩
set_option maxHeartbeats 16000000 in
theorem head_any (W H : Nat) (w : World) (hm : W ≤ 256 ∧ H ≤ 256) :
    Does Tryz.prog 75 [.int .i64 W, .int .i64 H] [] w (fun v S' => v = .int .i64 (headN W H : Nat) ∧ S' = []) := by
  refine does_of Tryz.func75 rfl Tryz.ntmps75 rfl ⟨by simp, .nil⟩ (fun n => ?_)
  simp only [slots]
  have hn := nT_le hm
  have hcW := cnt_le hm.1
  have hcH := cnt_le hm.2
  have e : (6 * (cntF W : Int)) * (cntF H : Int) = ((6 * nT W H : Nat) : Int) := by unfold nT; push_cast; rw [Int.mul_assoc]
  refine z_tas
  refine lfv rfl rfl rfl (fun w _ => cnt_any W w (by omega)) ?_
  refine z_tas
  refine lfv rfl rfl rfl (fun w _ => cnt_any H w (by omega)) ?_
  refine z_tas
  refine j_out1 rfl rfl (.nil _) ⟨?_, rfl⟩
  rw [e]
  unfold headN
  congr 1
  omega
set_option maxHeartbeats 16000000 in
theorem header_any (W H cell : Nat) (A : Option Addr) (c m : Nat) (ox oy : Int) (w : World) (hm : W ≤ 256 ∧ H ≤ 256 ∧ cell ≤ 1000) (hox : InR .i32 ox) (hoy : InR .i32 oy) :
    Does Tryz.prog 74 [.agg #[.int .i64 W, .int .i64 H, .slice A m c, .int .i64 cell, .int .i32 ox, .int .i32 oy]] [] w (fun v S' => ∃ A' c', v = .slice A' (hdrB W H cell ox oy).length c' ∧ S' = [.row (.slice A' (hdrB W H cell ox oy).length c') 5 1 (hdrB W H cell ox oy).length (ints .u8 (hdrB W H cell ox oy))]) := by
  refine does_of Tryz.func74 rfl Tryz.ntmps74 rfl ⟨by simp, .nil⟩ (fun n => ?_)
  simp only [slots]
  refine z_tas
  refine lf rfl rfl rfl (S := []) (fun w hw ho => bput_any none 0 [] 1296978516 4 w ⟨Ro.nil _ _ _⟩ (by decide) (by decide) (by decide)) ?_
  rintro v S' ⟨A1, c1, rfl, rfl⟩
  refine z_tas
  refine c_drx _ [false, true, true, true, true, false, true, true, true, true, false, false] [0, 5, 10, 11] (Sub.refl _) rfl (by decide) (by decide +kernel) ?_
  refine z_gob
  refine lf rfl rfl rfl (S := []) (fun w hw ho => bput_any A1 c1 (bytesN 1296978516 4) W 2 w ⟨Ro.row hw (Split.nil _) (by refine z_hs)⟩ (by omega) (by decide) (by rw [bytesN_len]; decide)) ?_
  rintro v S' ⟨A2, c2, rfl, rfl⟩
  have hl2 := bytesN_len W 2
  have hl3 := bytesN_len H 2
  have hl4 := bytesN_len 1296978516 4
  refine z_gob
  refine lf rfl rfl rfl (S := []) (fun w hw ho => bput_any A2 c2 (bytesN 1296978516 4 ++ bytesN W 2) H 2 w ⟨Ro.row hw (Split.nil _) (by refine z_hs)⟩ (by omega) (by decide) (by rw [List.length_append]; omega)) ?_
  rintro v S' ⟨A3, c3, rfl, rfl⟩
  refine z_gob
  refine lf rfl rfl rfl (S := []) (fun w hw ho => bput_any A3 c3 (bytesN 1296978516 4 ++ bytesN W 2 ++ bytesN H 2) cell 2 w ⟨Ro.row hw (Split.nil _) (by refine z_hs)⟩ (by omega) (by decide) (by simp only [List.length_append]; omega)) ?_
  rintro v S' ⟨A4, c4, rfl, rfl⟩
  have hl5 := bytesN_len cell 2
  have hl6 := bytesN_len (u32N ox) 4
  refine z_tas
  have hu1 := u32N_lt ox
  have hu2 := u32N_lt oy
  refine c_drx _ [false, true, true, true, true, false, true, true, true, true, false, false] [0, 5, 10, 11] (Sub.refl _) rfl (by decide) (by decide +kernel) ?_
  refine z_gob
  refine lf rfl rfl rfl (S := []) (fun w hw ho => bput_any A4 c4 (bytesN 1296978516 4 ++ bytesN W 2 ++ bytesN H 2 ++ bytesN cell 2) (u32N ox) 4 w ⟨Ro.row hw (Split.nil _) (by refine z_hs)⟩ (by have := u32N_lt ox; omega) (by decide) (by simp only [List.length_append]; omega)) ?_
  rintro v S' ⟨A5, c5, rfl, rfl⟩
  refine z_gob
  refine lf rfl rfl rfl (S := []) (fun w hw ho => bput_any A5 c5 (bytesN 1296978516 4 ++ bytesN W 2 ++ bytesN H 2 ++ bytesN cell 2 ++ bytesN (u32N ox) 4) (u32N oy) 4 w ⟨Ro.row hw (Split.nil _) (by refine z_hs)⟩ (by have := u32N_lt oy; omega) (by decide) (by simp only [List.length_append]; omega)) ?_
  rintro v S' ⟨A6, c6, rfl, rfl⟩
  refine z_gob
  exact j_out1 rfl rfl (.cons (.here _ _) (.nil _)) ⟨_, _, rfl, rfl⟩
end Go.Proofs.YtemmnpgebpffbaaGreat
/- Package chart: Put; the reference's Put. -/
namespace Go.Proofs.YtemmnpgebpffbaaGreat
open Go.RowKit
theorem tXY_in {W H i : Nat} (hm : W ≤ 256 ∧ H ≤ 256) (hi : i < nT W H) : InR .i64 (tX W i) ∧ InR .i64 (tY W i) := by
  obtain ⟨h1, h2⟩ := tile_in hi
  have := cnt_le hm.1
  have := cnt_le hm.2
  unfold tX tY
  generalize i % cntF W = x at *
  generalize i / cntF W = y at *
  simp only [InR]
  omega
theorem chk_ok {W H cell : Nat} {z : List Int} (hW : 2 ≤ W ∧ W ≤ 256 ∧ 2 ≤ H ∧ H ≤ 256 ∧ 1 ≤ cell ∧ cell ≤ 1000) (hz : z.length = W * H) : chkC W H z cell = 0 := by
  have h : chkF W H z = 0 := by
    unfold chkF
    rw [if_neg (by omega), if_pos (by rw [hz]; push_cast; rfl)]
  unfold chkC
  rw [h, if_neg (by simp), if_neg (by omega)]
theorem tile_put {W H i : Nat} {z : List Int} (hi : i < nT W H) (hz : z.length = W * H) : putB (tilW W H i : Nat) (tilH W H i : Nat) (cutN W H z i) = some (rawB (tilW W H i) (cutN W H z i)) ∧ putC (tilW W H i : Nat) (tilH W H i : Nat) (cutN W H z i) = 0 := by
  have hb := tile_box hi
  have h := putB_ok (a := (tilW W H i : Nat)) (b := (tilH W H i : Nat)) (z := cutN W H z i) ⟨(rightB_iff _ _).2 (by omega), by rw [cutN_len hz]; push_cast; rfl⟩
  rw [Int.toNat_natCast] at h
  exact h
attribute [local irreducible] OJ J HdJ Code.wpIn wpListIn Oper.wpIn bodyPost CallsIn Does
set_option maxRecDepth 4000
set_option maxHeartbeats 16000000 in
theorem cput_bad (W H : Int) (A : Option Addr) (c : Nat) (z : List Int) (cell ox oy : Int) (w : World) (hc : chkC W H z cell ≠ 0) :
    Does Tryz.prog 39 [.agg #[.int .i64 W, .int .i64 H, .slice A z.length c, .int .i64 cell, .int .i32 ox, .int .i32 oy]] [] w (fun v S' => v = .tuple #[.slice none 0 0, .int .i64 (chkC W H z cell)] ∧ S' = []) := by
  refine does_of Tryz.func39 rfl Tryz.ntmps39 rfl ⟨by simp, .nil⟩ (fun n => ?_)
  simp only [slots]
  refine z_tas
  refine lfv rfl rfl rfl (fun w _ => chkc_any W H A c z cell ox oy w) ?_
  refine z_tas
  exact j_out2 rfl rfl rfl (.nil _) ⟨rfl, rfl⟩
theorem tilput_any (A : Option Addr) (c W H : Nat) (z : List Int) (i : Nat) (w : World) (hr : RoA w (blocks []) A (rawB (tilW W H i) (cutN W H z i)).length c 1 (ints .u8 (rawB (tilW W H i) (cutN W H z i)))) (hm : (rawB (tilW W H i) (cutN W H z i)).length < 1000000000) :
    Does Tryz.prog 80 [.slice A (rawB (tilW W H i) (cutN W H z i)).length c] [] w (fun v S' => ∃ A' c', v = .slice A' (tilB W H z i).length c' ∧ S' = [.row (.slice A' (tilB W H z i).length c') 5 1 (tilB W H z i).length (ints .u8 (tilB W H z i))]) := crcput_any A c _ w hr (raw_u8 _ _) hm
set_option maxHeartbeats 64000000 in
theorem cput_ok (W H cell : Nat) (A : Option Addr) (c : Nat) (z : List Int) (ox oy : Int) (w : World) (hr : RoA w (blocks []) A z.length c 1 (ints .i16 z)) (hW : 2 ≤ W ∧ W ≤ 256 ∧ 2 ≤ H ∧ H ≤ 256 ∧ 1 ≤ cell ∧ cell ≤ 1000) (hz : z.length = W * H) (hin : In16 z) (hox : InR .i32 ox) (hoy : InR .i32 oy) :
    Does Tryz.prog 39 [.agg #[.int .i64 W, .int .i64 H, .slice A z.length c, .int .i64 cell, .int .i32 ox, .int .i32 oy]] [] w (fun v S' => ∃ A' c', v = .tuple #[.slice A' (chartB W H cell ox oy z).length c', .int .i64 0] ∧ S' = [.row (.slice A' (chartB W H cell ox oy z).length c') 5 1 (chartB W H cell ox oy z).length (ints .u8 (chartB W H cell ox oy z))]) := by
  have hchk := chk_ok hW hz
  have hn := nT_le (W := W) (H := H) (by omega)
  have hhn : headN W H ≤ 2000 := by unfold headN; omega
  have hpl := placesTo_len W (nT W H)
  refine does_of Tryz.func39 rfl Tryz.ntmps39 rfl ⟨by simp, .nil⟩ (fun n => ?_)
  simp only [slots]
  refine z_tas
  refine lfv rfl rfl rfl (fun w _ => chkc_any W H A c z cell ox oy w) ?_
  rw [hchk]
  refine z_tas
  rename_i b1
  refine lf rfl rfl rfl (S := []) (fun w hw ho => header_any W H cell A c z.length ox oy w (by omega) hox hoy) ?_
  rintro v S' ⟨Ah, ch, rfl, rfl⟩
  refine z_tas
  refine lfv rfl rfl rfl (fun w _ => head_any W H w (by omega)) ?_
  refine z_tas
  refine lf rfl rfl rfl (S := []) (fun w hw ho => places_any W H w (by omega)) ?_
  rintro v S' ⟨Ap, cp, rfl, rfl⟩
  refine j_nil (e := 5) (size := 1) ?_
  refine z_tas
  refine c_loop (X := Nat × (Option Addr × Nat) × (Option Addr × Nat)) (fun q => q.1 ≤ nT W H)
    (fun q => [(1, .pointer (some ⟨b1, 0, none⟩)), (5, .slice q.2.1.1 (dirTo W H cell ox oy z q.1).length q.2.1.2), (6, .slice q.2.2.1 (bodyTo W H z q.1).length q.2.2.2), (7, .int .i64 (headN W H : Nat)), (36, .slice Ap (placesTo W (nT W H)).length cp), (37, .int .i64 (placesTo W (nT W H)).length), (38, .int .i64 q.1)])
    (fun q => [.row (.slice q.2.1.1 (dirTo W H cell ox oy z q.1).length q.2.1.2) 5 1 (dirTo W H cell ox oy z q.1).length (ints .u8 (dirTo W H cell ox oy z q.1)), .row (.slice q.2.2.1 (bodyTo W H z q.1).length q.2.2.2) 5 1 (bodyTo W H z q.1).length (ints .u8 (bodyTo W H z q.1)),
      .row (.slice Ap (placesTo W (nT W H)).length cp) 142 2 (placesTo W (nT W H)).length (flat spotE (placesTo W (nT W H))), .blk b1 33 [.int .i64 W, .int .i64 H, .slice A z.length c, .int .i64 cell, .int .i32 ox, .int .i32 oy]]) (fun q => nT W H - q.1) (0, (Ah, ch), (none, 0)) (by simp) ⟨rfl, rfl, rfl, rfl, rfl, rfl, rfl, trivial⟩ ?_ ?_
  · exact (Sub.cons (Has.there _ (Has.there _ (Has.here _ _))) (Sub.cons (Has.here _ _) (Sub.cons (Has.here _ _) (Sub.cons (Has.here _ _) (Sub.nil _)))))
  rintro ⟨i, ⟨Ah, ch⟩, ⟨Ab, cb⟩⟩ hi
  simp only at hi ⊢
  have hdl := dirTo_len W H cell ox oy z i
  have hbl := bodyTo_len hz i
  rcases Nat.lt_or_ge i (nT W H) with h | h
  · have hpg := placesTo_get W _ i h
    have htl := tilB_len (i := i) hz
    obtain ⟨hX, hY⟩ := tXY_in (by omega) h
    obtain ⟨hp1, hp2⟩ := tile_put h hz
    have hcl := cutN_le (i := i) hz
    have hci := in16_cut hin W H i
    have hrl := raw_len (tilW W H i) _ hcl
    have hdu := dirTo_u8 W H cell ox oy z i
    refine z_tas
    simp only [hpg]
    refine lfv rfl rfl rfl (fun w _ => box_any W H (tX W i) (tY W i) w hX hY (by omega)) ?_
    refine z_tas
    refine lf rfl rfl rfl (S := []) (fun w hw ho => cut_any W H A c z (tX W i) (tY W i) w ⟨hr.h.go hw (Split.nil _)⟩ hX hY (by omega) hz) ?_
    rintro v S' ⟨A2, c2, rfl, rfl⟩
    refine z_tas
    refine lf rfl rfl rfl (S := []) (fun w hw ho => put8_any A2 c2 (cutN W H z i) (tilW W H i : Nat) (tilH W H i : Nat) w ⟨Ro.row hw (Split.nil _) (by refine z_hs)⟩ hci (by omega)) ?_
    rintro v S' ⟨A3, c3, rfl, rfl⟩
    rw [hp1, hp2, Option.getD_some]
    refine z_tas
    refine lf rfl rfl rfl (S := []) (fun w hw ho => tilput_any A3 c3 W H z i w ⟨Ro.row hw (Split.nil _) (by refine z_hs)⟩ (by omega)) ?_
    rintro v S' ⟨A4, c4, rfl, rfl⟩
    generalize htb : tilB W H z i = tb at *
    refine z_tas
    refine j_set 75 _ rfl (v' := .int .u64 (headN W H + (bodyTo W H z i).length : Nat)) (by push_cast; rfl) ?_
    refine lf rfl rfl rfl (S := []) (fun w hw ho => bput_any Ah ch (dirTo W H cell ox oy z i) (headN W H + (bodyTo W H z i).length) 4 w ⟨Ro.row hw (Split.nil _) (by refine z_hs)⟩ (by unfold headN; omega) (by omega) (by omega)) ?_
    rintro v S' ⟨A5, c5, rfl, rfl⟩
    have hl5 := bytesN_len (headN W H + (bodyTo W H z i).length) 4
    refine z_tas
    refine lf rfl rfl rfl (S := []) (fun w hw ho => bput_any A5 c5 (dirTo W H cell ox oy z i ++ bytesN (headN W H + (bodyTo W H z i).length) 4) tb.length 2 w ⟨Ro.row hw (Split.nil _) (by refine z_hs)⟩ (by omega) (by omega) (by rw [List.length_append]; omega)) ?_
    rintro v S' ⟨A6, c6, rfl, rfl⟩
    refine z_tas
    rename_i A7 c7
    subst htb
    exact c_round (i + 1, (A6, c6), (A7, c7)) (by show i + 1 ≤ _; omega) (by show _ - (i + 1) < _ - i; omega) ⟨rfl, rfl, rfl, rfl, rfl, rfl, by simp [look], trivial⟩ (by simp only [dirTo, bodyTo]; exact Sub.au)
  · obtain rfl : i = nT W H := by omega
    have hdu := dirTo_u8 W H cell ox oy z (nT W H)
    have hcl := crcP_len (dirTo W H cell ox oy z (nT W H))
    refine z_tas
    refine lf rfl rfl rfl (S := []) (fun w hw ho => crcput_any Ah ch (dirTo W H cell ox oy z (nT W H)) w ⟨Ro.row hw (Split.nil _) (by refine z_hs)⟩ hdu (by omega)) ?_
    rintro v S' ⟨A4, c4, rfl, rfl⟩
    refine z_tas
    exact j_out2 rfl rfl rfl (.cons (.here _ _) (.nil _)) ⟨_, _, rfl, rfl⟩
end Go.Proofs.YtemmnpgebpffbaaGreat
/- Package chart: Open, Tile. -/
namespace Go.Proofs.YtemmnpgebpffbaaGreat
open Go.RowKit
def i32N (x : Nat) : Int := IntKind.i32.wrap (x : Int)
/-- Where tiles begin, and how long they are. -/
def atL (ys : List Int) (k : Nat) : List Int := (List.range k).map fun i => ((atY ys i : Nat) : Int)
def szL (ys : List Int) (k : Nat) : List Int := (List.range k).map fun i => ((szY ys i : Nat) : Int)
theorem atL_len (ys : List Int) (k : Nat) : (atL ys k).length = k := by simp [atL]
theorem szL_len (ys : List Int) (k : Nat) : (szL ys k).length = k := by simp [szL]
theorem atL_succ (ys : List Int) (k : Nat) : atL ys (k + 1) = atL ys k ++ [((atY ys k : Nat) : Int)] := by simp [atL, List.range_succ]
theorem szL_succ (ys : List Int) (k : Nat) : szL ys (k + 1) = szL ys k ++ [((szY ys k : Nat) : Int)] := by simp [szL, List.range_succ]
theorem atL_get (ys : List Int) (k i : Nat) (h : i < k) : (atL ys k).getD i 0 = ((atY ys i : Nat) : Int) := by simp [atL, List.getD_eq_getElem?_getD, h]
theorem szL_get (ys : List Int) (k i : Nat) (h : i < k) : (szL ys k).getD i 0 = ((szY ys i : Nat) : Int) := by simp [szL, List.getD_eq_getElem?_getD, h]
/-- What Open comes to. -/
def OpenR (ys : List Int) (v : Value) (S' : List HE) : Prop :=
  (openC ys = 0 ∧ ∃ A1 c1 A2 c2, v = .tuple #[.agg #[.int .i64 (wY ys : Nat), .int .i64 (hY ys : Nat), .slice none 0 0, .int .i64 (cellY ys : Nat), .int .i32 (i32N (leY ys 10 4)), .int .i32 (i32N (leY ys 14 4)), .slice A1 (atL ys (nY ys)).length c1, .slice A2 (szL ys (nY ys)).length c2], .int .i64 0] ∧
    S' = [.row (.slice A1 (atL ys (nY ys)).length c1) 3 1 (atL ys (nY ys)).length (ints .i64 (atL ys (nY ys))), .row (.slice A2 (szL ys (nY ys)).length c2) 3 1 (szL ys (nY ys)).length (ints .i64 (szL ys (nY ys)))]) ∨
  (openC ys ≠ 0 ∧ v = .tuple #[.agg #[.int .i64 0, .int .i64 0, .slice none 0 0, .int .i64 0, .int .i32 0, .int .i32 0, .slice none 0 0, .slice none 0 0], .int .i64 (openC ys)] ∧ S' = [])
attribute [local irreducible] OJ J HdJ Code.wpIn wpListIn Oper.wpIn bodyPost CallsIn Does
set_option maxRecDepth 4000
set_option maxHeartbeats 64000000 in
theorem open_any (A : Option Addr) (c : Nat) (ys : List Int) (w : World) (hr : RoA w (blocks []) A ys.length c 1 (ints .u8 ys)) (hu : U8s ys) (hm : ys.length < 100000000) :
    Does Tryz.prog 83 [.slice A ys.length c] [] w (OpenR ys) := by
  refine does_of Tryz.func83 rfl Tryz.ntmps83 rfl ⟨by simp, .nil⟩ (fun n => ?_)
  simp only [slots]
  have hcl : ys.length ≤ c := by obtain ⟨_, _, e, q1, -⟩ := hr.h; injection e with _ _ e; omega
  rcases Nat.lt_or_ge ys.length 18 with h18 | h18
  · have hoc : openC ys = 5 := if_pos h18
    refine z_tas
    refine z_ro
    exact .inr ⟨by omega, by rw [hoc]; rfl, rfl⟩
  have hl0 := leY_lt hu (a := 0) (n := 4) (by omega)
  have hl4 := leY_lt hu (a := 4) (n := 2) (by omega)
  have hl6 := leY_lt hu (a := 6) (n := 2) (by omega)
  have hl8 := leY_lt hu (a := 8) (n := 2) (by omega)
  have hl10 := leY_lt hu (a := 10) (n := 4) (by omega)
  have hl14 := leY_lt hu (a := 14) (n := 4) (by omega)
  refine z_tas
  refine lfv rfl rfl rfl (fun w hw => chnum_any A c ys 0 4 w ⟨hr.h.go hw (Split.nil _)⟩ hu (by omega) (by omega) (by omega)) ?_
  by_cases hmg : leY ys 0 4 = 1296978516
  rotate_left
  · have hoc : openC ys = 3 := by unfold openC; rw [if_neg (by omega), if_pos hmg]
    refine z_tas
    refine z_ro
    exact .inr ⟨by omega, by rw [hoc]; rfl, rfl⟩
  rw [hmg]
  refine z_tas
  refine lfv rfl rfl rfl (fun w hw => chnum_any A c ys 4 2 w ⟨hr.h.go hw (Split.nil _)⟩ hu (by omega) (by omega) (by omega)) ?_
  refine z_tas
  refine lfv rfl rfl rfl (fun w hw => chnum_any A c ys 6 2 w ⟨hr.h.go hw (Split.nil _)⟩ hu (by omega) (by omega) (by omega)) ?_
  refine z_tas
  refine lfv rfl rfl rfl (fun w hw => chnum_any A c ys 8 2 w ⟨hr.h.go hw (Split.nil _)⟩ hu (by omega) (by omega) (by omega)) ?_
  refine z_tas
  refine lfv rfl rfl rfl (fun w hw => chnum_any A c ys 10 4 w ⟨hr.h.go hw (Split.nil _)⟩ hu (by omega) (by omega) (by omega)) ?_
  refine z_tas
  refine lfv rfl rfl rfl (fun w hw => chnum_any A c ys 14 4 w ⟨hr.h.go hw (Split.nil _)⟩ hu (by omega) (by omega) (by omega)) ?_
  have ew : leY ys 4 2 = wY ys := rfl
  have eh : leY ys 6 2 = hY ys := rfl
  have ec : leY ys 8 2 = cellY ys := rfl
  rw [ew] at hl4
  rw [eh] at hl6
  rw [ec] at hl8
  rw [ew, eh, ec]
  generalize hox : leY ys 10 4 = ox at *
  generalize hoy : leY ys 14 4 = oy at *
  by_cases hrg : rangeY ys
  rotate_left
  · have hoc : openC ys = 2 := by unfold openC; rw [if_neg (by omega), if_neg (by omega), if_pos hrg]
    unfold rangeY at hrg
    generalize wY ys = W at *
    generalize hY ys = H at *
    generalize cellY ys = cell at *
    refine z_tas
    all_goals first
      | (refine z_ro; exact .inr ⟨by omega, by rw [hoc]; rfl, rfl⟩)
      | (exfalso; omega)
  have hrg0 := hrg
  unfold rangeY at hrg
  have hn : nY ys ≤ 256 := nT_le (by omega)
  have hhn : headN (wY ys) (hY ys) = 22 + 6 * nY ys := rfl
  have hatd : ∀ i, atY ys i = match i with | 0 => headN (wY ys) (hY ys) | i + 1 => atY ys i + szY ys i := fun i => by cases i <;> rfl
  have hocd : openC ys = if ys.length < headN (wY ys) (hY ys) then 5 else if ¬ crcOk (ys.take (headN (wY ys) (hY ys))) then 4 else if ¬ (∀ i, i < nY ys → fromY ys i = atY ys i) then 2 else if atY ys (nY ys) ≠ ys.length then 5 else 0 := by
    conv => lhs; unfold openC
    rw [if_neg (by omega), if_neg (by omega), if_neg (fun e => e hrg0)]
  have e1 : IntKind.i32.wrap (ox : Int) = i32N ox := rfl
  have e2 : IntKind.i32.wrap (oy : Int) = i32N oy := rfl
  generalize hn0 : headN (wY ys) (hY ys) = hd at *
  refine z_tas
  rw [e1, e2]
  refine lfv rfl rfl rfl (fun w _ => head_any (wY ys) (hY ys) w (by omega)) ?_
  rw [hn0]
  rcases Nat.lt_or_ge ys.length hd with hlt | hge
  · have hoc : openC ys = 5 := by rw [hocd, if_pos hlt]
    refine z_tas
    refine z_ro
    exact .inr ⟨by omega, by rw [hoc]; rfl, rfl⟩
  rw [if_neg (by omega)] at hocd
  have htl : (ys.take hd).length = hd := by rw [List.length_take]; omega
  have htu : U8s (ys.take hd) := fun x hx => hu x (List.mem_of_mem_take hx)
  refine j_sub 0 hd hr (by omega) fun hr0 => ?_
  rw [List.drop_zero, Nat.sub_zero] at hr0
  refine z_tas
  refine lf rfl rfl rfl (S := []) (fun w hw ho => crcget_any _ _ hd (ys.take hd) w htl ⟨hr0.h.go hw (Split.nil _)⟩ htu (by omega)) ?_
  rintro v S' hcg
  rcases hcg with ⟨hok, Ag, cg, rfl, rfl⟩ | ⟨hno, rfl, rfl⟩
  rotate_left
  · have hoc : openC ys = 4 := by rw [hocd, if_pos hno]
    refine z_tas
    refine z_ro
    exact .inr ⟨by omega, by rw [hoc]; rfl, rfl⟩
  rw [if_neg (fun e => e hok)] at hocd
  refine z_tas
  rename_i b2 _ b4 _ _ _ _ _ _ _
  refine lf rfl rfl rfl (S := []) (fun w hw ho => places_any (wY ys) (hY ys) w (by omega)) ?_
  rintro v S' ⟨Ap, cp, rfl, rfl⟩
  have hpl := placesTo_len (wY ys) (nY ys)
  have hnn : nT (wY ys) (hY ys) = nY ys := rfl
  rw [hnn]
  refine j_nil (e := 3) (size := 1) ?_
  refine j_nil (e := 3) (size := 1) ?_
  refine z_tas
  refine j_set 94 _ rfl (v' := .int .i64 (nY ys : Nat)) (by rw [hpl]) ?_
  refine j_set 10 _ rfl (v' := .int .i64 (atY ys 0 : Nat)) (by rw [atY, hn0]) ?_
  refine c_loop (X := Nat × (Option Addr × Nat) × (Option Addr × Nat)) (fun q => q.1 ≤ nY ys ∧ ∀ j, j < q.1 → fromY ys j = atY ys j)
    (fun q => [(0, .slice A ys.length c), (2, .pointer (some ⟨b2, 0, none⟩)), (4, .pointer (some ⟨b4, 0, none⟩)), (10, .int .i64 (atY ys q.1 : Nat)), (94, .int .i64 (nY ys : Nat)), (95, .int .i64 q.1)])
    (fun q => [.blk b4 152 [.int .i64 (wY ys : Nat), .int .i64 (hY ys : Nat), .slice none 0 0, .int .i64 (cellY ys : Nat), .int .i32 (i32N ox), .int .i32 (i32N oy), .slice q.2.1.1 (atL ys q.1).length q.2.1.2, .slice q.2.2.1 (szL ys q.1).length q.2.2.2], .row (.slice q.2.1.1 (atL ys q.1).length q.2.1.2) 3 1 (atL ys q.1).length (ints .i64 (atL ys q.1)), .row (.slice q.2.2.1 (szL ys q.1).length q.2.2.2) 3 1 (szL ys q.1).length (ints .i64 (szL ys q.1)), .blk b2 152 [.int .i64 0, .int .i64 0, .slice none 0 0, .int .i64 0, .int .i32 0, .int .i32 0, .slice none 0 0, .slice none 0 0]]) (fun q => nY ys - q.1) (0, (none, 0), (none, 0)) ⟨by simp, fun j hj => by omega⟩ ?_ ?_ ?_
  · exact ⟨rfl, rfl, rfl, rfl, rfl, rfl, trivial⟩
  · exact (Sub.cons (Has.there _ (Has.there _ (Has.there _ (Has.there _ (Has.here _ _))))) (Sub.cons (Has.here _ _) (Sub.cons (Has.here _ _) (Sub.cons (Has.there _ (Has.there _ (Has.here _ _))) (Sub.nil _)))))
  rintro ⟨i, ⟨A1, c1⟩, ⟨A2, c2⟩⟩ ⟨hi, hfr⟩
  simp only at hi hfr ⊢
  have hal := atL_len ys i
  have hsl := szL_len ys i
  rcases Nat.lt_or_ge i (nY ys) with h | h
  · have hlf := leY_lt hu (a := 18 + 6 * i) (n := 4) (by omega)
    have hls := leY_lt hu (a := 18 + 6 * i + 4) (n := 2) (by omega)
    refine z_tas
    refine j_set 101 _ rfl (v' := .int .i64 (18 + 6 * i : Nat)) (by push_cast; rfl) ?_
    refine lfv rfl rfl rfl (fun w hw => chnum_any A c ys (18 + 6 * i) 4 w ⟨hr.h.go hw (Split.nil _)⟩ hu (by omega) (by omega) (by omega)) ?_
    have ef : leY ys (18 + 6 * i) 4 = fromY ys i := rfl
    rw [ef] at hlf ⊢
    refine z_tas
    refine j_set 107 _ rfl (v' := .int .i64 (18 + 6 * i + 4 : Nat)) (by push_cast; rfl) ?_
    refine lfv rfl rfl rfl (fun w hw => chnum_any A c ys (18 + 6 * i + 4) 2 w ⟨hr.h.go hw (Split.nil _)⟩ hu (by omega) (by omega) (by omega)) ?_
    have es : leY ys (18 + 6 * i + 4) 2 = szY ys i := rfl
    rw [es] at hls ⊢
    by_cases hfe : fromY ys i = atY ys i
    rotate_left
    · have hoc : openC ys = 2 := by rw [hocd, if_pos (fun e => hfe (e i h))]
      refine z_tas
      refine z_ro
      exact .inr ⟨by omega, by rw [hoc]; rfl, rfl⟩
    have hps := atL_succ ys i
    have hpz := szL_succ ys i
    have hnx : atY ys (i + 1) = atY ys i + szY ys i := rfl
    rw [hfe]
    rw [hfe] at hlf
    have hbig : atY ys i ≤ 4294967296 := by omega
    refine z_gon
    refine c_drx [.blk b4 152 [.int .i64 (wY ys : Nat), .int .i64 (hY ys : Nat), .slice none 0 0, .int .i64 (cellY ys : Nat), .int .i32 (i32N ox), .int .i32 (i32N oy), .slice A1 (atL ys i).length c1, .slice A2 (szL ys i).length c2]] [true, true, true, false, false, true, true, false, false, false, true, false, false, false] [3, 4, 7, 8, 9, 11, 12, 13] Sub.au rfl (by decide) (by decide +kernel) ?_
    refine z_gob
    all_goals first
      | (rename_i A3 c3 A4 c4; exact c_round (i + 1, (A3, c3), (A4, c4)) ⟨by show i + 1 ≤ _; omega, fun j hj => by
          rcases Nat.lt_or_ge j i with h1 | h1
          · exact hfr j h1
          · rw [show j = i by omega]; exact hfe⟩ (by show _ - (i + 1) < _ - i; omega) ⟨rfl, rfl, rfl, by simp only [hnx]; rfl, rfl, by simp [look], trivial⟩ (by simp only [hps, hpz]; exact Sub.au))
      | (rename_i A3 c3 _ A4 c4; exact c_round (i + 1, (A3, c3), (A4, c4)) ⟨by show i + 1 ≤ _; omega, fun j hj => by
          rcases Nat.lt_or_ge j i with h1 | h1
          · exact hfr j h1
          · rw [show j = i by omega]; exact hfe⟩ (by show _ - (i + 1) < _ - i; omega) ⟨rfl, rfl, rfl, by simp only [hnx]; rfl, rfl, by simp [look], trivial⟩ (by simp only [hps, hpz]; exact Sub.au))
  · obtain rfl : i = nY ys := by omega
    have hfr2 : ∀ j, j < nY ys → fromY ys j = atY ys j := hfr
    rw [if_neg (fun e => e hfr2)] at hocd
    by_cases hend : atY ys (nY ys) = ys.length
    · rw [if_neg (fun e => e hend)] at hocd
      refine z_gob
      refine j_outK (.cons (.there _ (.here _ _)) (.cons (.there _ (.here _ _)) (.nil _))) ?_
      refine z_rk
      trace_state
      refine .inl ⟨hocd, _, _, _, _, ?_, rfl⟩
      rw [hox, hoy]
      rfl
    · rw [if_pos hend] at hocd
      refine z_gob
      refine z_ro
      exact .inr ⟨by omega, by rw [hocd]; rfl, rfl⟩
end Go.Proofs.YtemmnpgebpffbaaGreat
/- Package chart: Tile. -/
namespace Go.Proofs.YtemmnpgebpffbaaGreat
open Go.RowKit
/-- Heights that are a tile's bytes. -/
def TilOk (ys : List Int) (i : Nat) (zs : List Int) : Prop := zs.length = tilW (wY ys) (hY ys) i * tilH (wY ys) (hY ys) i ∧ In16 zs ∧ segT ys i = crcP (rawB (tilW (wY ys) (hY ys) i) zs)
/-- Why bytes are no tile. -/
def TilC (ys : List Int) (i : Nat) (code : Int) : Prop := (code = 4 ∧ ¬ crcOk (segT ys i)) ∨ (crcOk (segT ys i) ∧ ((code = 3 ∧ ¬ Rowed (tilW (wY ys) (hY ys) i * tilH (wY ys) (hY ys) i) ((segT ys i).take ((segT ys i).length - 4))) ∨ (code = 2 ∧ Rowed (tilW (wY ys) (hY ys) i * tilH (wY ys) (hY ys) i) ((segT ys i).take ((segT ys i).length - 4)))))
theorem TilC.ne {ys : List Int} {i : Nat} {code : Int} (h : TilC ys i code) : code ≠ 0 := by rcases h with ⟨rfl, -⟩ | ⟨-, ⟨rfl, -⟩ | ⟨rfl, -⟩⟩ <;> decide
theorem TilC.one {ys : List Int} {i : Nat} {a b : Int} (h : TilC ys i a) (g : TilC ys i b) : a = b := by
  rcases h with ⟨rfl, h1⟩ | ⟨h1, ⟨rfl, h2⟩ | ⟨rfl, h2⟩⟩ <;> rcases g with ⟨rfl, g1⟩ | ⟨g1, ⟨rfl, g2⟩ | ⟨rfl, g2⟩⟩ <;> first | rfl | contradiction
def TileR (ys : List Int) (i : Nat) (v : Value) (S' : List HE) : Prop := ∃ (zs : List Int) (A : Option Addr) (c : Nat) (code : Int) (T : List HE), v = .tuple #[.slice A zs.length c, .int .i64 code] ∧ S' = .row (.slice A zs.length c) 92 1 zs.length (ints .i16 zs) :: T ∧ ((code = 0 ∧ TilOk ys i zs) ∨ (TilC ys i code ∧ zs = [] ∧ ∀ z, ¬ TilOk ys i z))
abbrev dirV (ys : List Int) (A1 : Option Addr) (c1 : Nat) (A2 : Option Addr) (c2 : Nat) : Value := .agg #[.int .i64 (wY ys : Nat), .int .i64 (hY ys : Nat), .slice none 0 0, .int .i64 (cellY ys : Nat), .int .i32 (i32N (leY ys 10 4)), .int .i32 (i32N (leY ys 14 4)), .slice A1 (atL ys (nY ys)).length c1, .slice A2 (szL ys (nY ys)).length c2]
theorem crcP_take (ys : List Int) : (crcP ys).take ((crcP ys).length - 4) = ys := by
  rw [crcP_len, Nat.add_sub_cancel]
  unfold crcP
  rw [List.take_left]
attribute [local irreducible] OJ J HdJ Code.wpIn wpListIn Oper.wpIn bodyPost CallsIn Does
set_option maxRecDepth 4000
set_option maxHeartbeats 16000000 in
theorem tile_none (A : Option Addr) (c : Nat) (ys : List Int) (A1 A2 : Option Addr) (c1 c2 : Nat) (i : Int) (w : World) (hi : i < 0 ∨ nY ys ≤ i) :
    Does Tryz.prog 117 [.slice A ys.length c, dirV ys A1 c1 A2 c2, .int .i64 i] [] w (fun v S' => v = .tuple #[.slice none 0 0, .int .i64 7] ∧ S' = []) := by
  have hal := atL_len ys (nY ys)
  refine does_of Tryz.func117 rfl Tryz.ntmps117 rfl ⟨by simp, .nil⟩ (fun n => ?_)
  simp only [slots]
  refine z_gob
  all_goals exact j_out2 rfl rfl rfl (.nil _) ⟨rfl, rfl⟩
set_option maxHeartbeats 64000000 in
theorem ctile_any (A : Option Addr) (c : Nat) (ys : List Int) (A1 A2 : Option Addr) (c1 c2 : Nat) (i : Nat) (w : World) (hr : RoA w (blocks []) A ys.length c 1 (ints .u8 ys)) (h1 : RoA w (blocks []) A1 (atL ys (nY ys)).length c1 1 (ints .i64 (atL ys (nY ys)))) (h2 : RoA w (blocks []) A2 (szL ys (nY ys)).length c2 1 (ints .i64 (szL ys (nY ys)))) (hu : U8s ys) (hm : ys.length < 100000000) (hO : Opens ys) (hi : i < nY ys) :
    Does Tryz.prog 117 [.slice A ys.length c, dirV ys A1 c1 A2 c2, .int .i64 i] [] w (TileR ys i) := by
  have hal := atL_len ys (nY ys)
  have hsl := szL_len ys (nY ys)
  have hrg := hO.rng
  have hin := hO.in_ hi
  have hatg := atL_get ys _ i hi
  have hszg := szL_get ys _ i hi
  unfold rangeY at hrg
  have hn : nY ys ≤ 256 := nT_le (by omega)
  have hcl : ys.length ≤ c := by obtain ⟨_, _, e, q1, -⟩ := hr.h; injection e with _ _ e; omega
  have hpg := placesTo_get (wY ys) (nT (wY ys) (hY ys)) i hi
  have hpl := placesTo_len (wY ys) (nT (wY ys) (hY ys))
  have hi2 : i < nT (wY ys) (hY ys) := hi
  have hbx := tile_box (W := wY ys) (H := hY ys) hi
  obtain ⟨hX, hY'⟩ := tXY_in (W := wY ys) (H := hY ys) (i := i) (by omega) hi
  refine does_of Tryz.func117 rfl Tryz.ntmps117 rfl ⟨by simp, .nil⟩ (fun n => ?_)
  simp only [slots]
  refine z_tas
  refine c_drv _ (0 :: 1 :: 2 :: 3 :: 4 :: 5 :: 6 :: 7 :: 8 :: 9 :: 10 :: 11 :: 12 :: 13 :: 14 :: 15 :: 16 :: 17 :: 18 :: 19 :: 20 :: 21 :: 22 :: 23 :: 24 :: 25 :: 26 :: 27 :: 28 :: 29 :: []) (Sub.refl _) (by decide +kernel) (by decide) (by decide +kernel) (by decide +kernel) (by decide +kernel) ?_; intro _
  refine z_gov
  refine lf rfl rfl rfl (S := []) (fun w hw ho => places_any (wY ys) (hY ys) w (by omega)) ?_
  rintro v S' ⟨Ap, cp, rfl, rfl⟩
  refine z_gov
  refine z_gov
  simp only [hpg]
  refine lfv rfl rfl rfl (fun w _ => box_any (wY ys) (hY ys) (tX (wY ys) i) (tY (wY ys) i) w hX hY' (by omega)) ?_
  obtain ⟨b1, o1, rfl, hA1⟩ := h1.at_ (by omega : 0 < (atL ys (nY ys)).length)
  obtain ⟨b2, o2, rfl, hA2⟩ := h2.at_ (by omega : 0 < (szL ys (nY ys)).length)
  refine z_gov
  refine c_drv _ (0 :: 1 :: 2 :: 3 :: 4 :: 5 :: 6 :: 7 :: 8 :: 9 :: 10 :: 11 :: 12 :: 13 :: 14 :: 15 :: 16 :: 17 :: 18 :: 19 :: 20 :: 21 :: 22 :: 23 :: []) (Sub.refl _) (by decide +kernel) (by decide) (by decide +kernel) (by decide +kernel) (by decide +kernel) ?_; intro _
  refine z_gov
  refine j_set 55 _ rfl (v' := .int .i64 (atY ys i : Nat)) (by rw [hatg]) ?_
  refine j_set 66 _ rfl (v' := .int .i64 (atY ys i + szY ys i : Nat)) (by rw [hatg, hszg]; push_cast; rfl) ?_
  refine j_sub (atY ys i) (atY ys i + szY ys i) hr (by omega) fun hr0 => ?_
  rw [Nat.add_sub_cancel_left] at hr0
  refine z_gov
  rw [Nat.add_sub_cancel_left]
  have hgl := seg_len hin
  have hgu := seg_u8 hu (atY ys i) (szY ys i)
  refine lf rfl rfl rfl (S := []) (fun w hw ho => crcget_any _ _ (szY ys i) (segT ys i) w hgl ⟨hr0.h.go hw (Split.nil _)⟩ hgu (by omega)) ?_
  rintro v S' hcg
  have hgl2 : (segT ys i).length = szY ys i := hgl
  rcases hcg with ⟨hok, Ag, cg, rfl, rfl⟩ | ⟨hno, rfl, rfl⟩
  rotate_left
  · refine z_gov
    refine j_nil (e := 92) (size := 1) ?_
    exact j_out2 rfl rfl rfl (.cons (.here _ _) (.nil _)) ⟨[], none, 0, 4, [], rfl, rfl, .inr ⟨.inl ⟨rfl, hno⟩, rfl, fun z hz => hno (by rw [hz.2.2]; exact crcOk_P _)⟩⟩
  have hbu : U8s ((segT ys i).take (szY ys i - 4)) := fun x hx => hgu x (List.mem_of_mem_take hx)
  have hbl : ((segT ys i).take (szY ys i - 4)).length ≤ szY ys i := by rw [List.length_take]; omega
  have hsl2 := leY_lt hu (a := 18 + 6 * i + 4) (n := 2) (by have := hO.head; unfold headN at this; omega)
  have hsz2 : szY ys i < 65536 := hsl2
  have heq := crcOk_eq hok
  rw [hgl2] at heq
  have hnone : ∀ z, TilOk ys i z → pack (rowB (deltas z (tilW (wY ys) (hY ys) i))) = (segT ys i).take (szY ys i - 4) := by
    intro z hz
    have h3 := crcP_take (rawB (tilW (wY ys) (hY ys) i) z)
    rw [← hz.2.2, hgl2] at h3
    exact h3.symm
  refine z_gov
  refine lf rfl rfl rfl (S := []) (fun w hw ho => get8_any Ag cg ((segT ys i).take (szY ys i - 4)) (tilW (wY ys) (hY ys) i) (tilH (wY ys) (hY ys) i) w ⟨Ro.row hw (Split.nil _) (by refine z_hs)⟩ hbu (by omega) (by omega)) ?_
  rintro v S' ⟨zs, Az, cz, code, T, rfl, rfl, hz⟩
  refine j_perm (H' := [.row (.slice Az zs.length cz) 92 1 zs.length (ints .i16 zs)]) (.cons (.here _ _) (.nil _)) ?_
  refine z_gob
  refine j_out2 rfl rfl rfl (Sub.refl _) ⟨zs, Az, cz, code, [], rfl, rfl, ?_⟩
  rcases hz with ⟨rfl, g1, g2, g3⟩ | ⟨hcode, rfl, hno⟩
  · exact .inl ⟨rfl, g1, g2, by rw [heq]; unfold rawB; rw [g3]⟩
  · refine .inr ⟨.inr ⟨hok, ?_⟩, rfl, fun z hz => hno z hz.1 hz.2.1 (hnone z hz)⟩
    rw [hgl2]
    exact hcode
end Go.Proofs.YtemmnpgebpffbaaGreat
/- The engine: a scope with labels to which nobody jumps. -/
namespace Go.Proofs.YtemmnpgebpffbaaGreat
open Go.RowKit
theorem stepR_scope {P : Program} {b : Frame} {a : Act} {k : List Item} {cs : List Frame} {w : World} {c : Code} :
    step P (lone (b.atR a (.code (.scope c) :: k)) cs w) = .next (lone (b.atR a (.code c :: .inScope c :: k)) cs w) :=
  step_lone_go (by simp [stepG, stepG.exec, Frame.atR])
theorem stepR_inScope {P : Program} {b : Frame} {a : Act} {k : List Item} {cs : List Frame} {w : World} {c : Code} :
    step P (lone (b.atR a (.inScope c :: k)) cs w) = .next (lone (b.atR a k) cs w) :=
  step_lone_go (by simp [stepG, stepG.exec, Frame.atR])
/-- No jump leaves. -/
def sq (Q : Exit → Act → World → Prop) : Exit → Act → World → Prop
  | .goto _ => fun _ _ => False
  | e => Q e
theorem wpIn_scope {F : Fence} {n : Nat} {P : Program} {Q : Exit → Act → World → Prop} {a : Act} {w : World} {c : Code} (h : c.wpIn F n P (sq Q) a w) : (Code.scope c).wpIn F n P Q a w := by
  intro b k cs hro hb hr
  have h0 : (lone (b.atR a (.code (.scope c) :: k)) cs w).fenced P F := fenced_calm hb hr rfl
  obtain ⟨e, a₁, w₁, hq, harr⟩ := h b (.inScope c :: k) cs hro hb hr
  cases e with
  | normal => exact ⟨.normal, a₁, w₁, hq, .head h0 stepR_scope (StepsIn.trans harr (.one (fenced_calm hb hr rfl) stepR_inScope))⟩
  | exit id =>
    have hx : exitTo id (.inScope c :: k) = exitTo id k := by simp [exitTo]
    exact ⟨_, a₁, w₁, hq, fun k' hk => .head h0 stepR_scope (harr.1 k' (by rw [hx]; exact hk)),
      fun hr' hk => let ⟨k₁, h1, h2⟩ := harr.2 hr' (by rw [hx]; exact hk); ⟨k₁, h1, .head h0 stepR_scope h2⟩⟩
  | goto l => exact hq.elim
  | ret => exact ⟨_, a₁, w₁, hq, .of_steps (.one h0 stepR_scope) harr⟩
  | panic ch => exact ⟨_, a₁, w₁, hq, .of_steps (.one h0 stepR_scope) harr⟩
  | outgrown => exact ⟨_, a₁, w₁, hq, .of_steps (.one h0 stepR_scope) harr⟩
section
variable {F : Fence} {n : Nat} {P : Program} {N : Nat} {ds : List Deferred} {w0 : World} {W : Nat → Prop} {σ : List (Nat × Value)} {H : List HE} {Q : Exit → Act → World → Prop}
theorem c_scope {c : Code} (h : J N ds w0 W σ H (c.wpIn F n P (sq Q))) : J N ds w0 W σ H ((Code.scope c).wpIn F n P Q) := fun a w ha hw => wpIn_scope (h a w ha hw)
theorem c_label {l : Nat} (h : J N ds w0 W σ H (Q .normal)) : J N ds w0 W σ H ((Code.label l).wpIn F n P Q) := fun a w ha hw => wpIn_label (h a w ha hw)
end
instance {F : Fence} {n : Nat} {P : Program} {Q : Exit → Act → World → Prop} (c : Code) : CC ((Code.scope c).wpIn F n P Q) (c.wpIn F n P (sq Q)) := ⟨c_scope⟩
instance {F : Fence} {n : Nat} {P : Program} {Q : Exit → Act → World → Prop} (l : Nat) : CC ((Code.label l).wpIn F n P Q) (Q .normal) := ⟨c_label⟩
instance {Q : Exit → Act → World → Prop} : CC (sq Q .normal) (Q .normal) := ⟨fun h => h⟩
instance {Q : Exit → Act → World → Prop} : CC (sq Q .ret) (Q .ret) := ⟨fun h => h⟩
instance {Q : Exit → Act → World → Prop} (id : Nat) : CC (sq Q (.exit id)) (Q (.exit id)) := ⟨fun h => h⟩
end Go.Proofs.YtemmnpgebpffbaaGreat
/- Package chart: Get. -/
namespace Go.Proofs.YtemmnpgebpffbaaGreat
open Go.RowKit
/-- Heights whose tiles bytes are. -/
def Good9 (ys : List Int) (f : List Int) : Prop := In16 f ∧ f.length = wY ys * hY ys ∧ ∀ j, j < nY ys → segT ys j = tilB (wY ys) (hY ys) f j
theorem Good9.til {ys f : List Int} (h : Good9 ys f) {i : Nat} (hi : i < nY ys) : TilOk ys i (cutN (wY ys) (hY ys) f i) := ⟨cutN_len h.2.1, in16_cut h.1 _ _ _, h.2.2 i hi⟩
theorem TilOk.one {ys a b : List Int} {i : Nat} (hi : i < nY ys) (h : TilOk ys i a) (g : TilOk ys i b) : a = b := by
  have hb := tile_box (W := wY ys) (H := hY ys) hi
  have e := h.2.2.symm.trans g.2.2
  have e2 := congrArg (fun l => l.take (l.length - 4)) e
  simp only [crcP_take] at e2
  exact back8 (by omega : 0 < tilW (wY ys) (hY ys) i) (by rw [h.1, g.1]) g.2.1 h.2.1 e2
/-- Why bytes are no map, or that they are one. -/
def GetC (ys : List Int) (code : Int) : Prop := (code ≠ 0 ∧ openC ys = code) ∨ (openC ys = 0 ∧ ∃ i, i < nY ys ∧ TilC ys i code ∧ (∀ z, ¬ TilOk ys i z) ∧ ∀ j, j < i → ∃ z, TilOk ys j z) ∨ (openC ys = 0 ∧ code = 0 ∧ ∀ j, j < nY ys → ∃ z, TilOk ys j z)
theorem GetC.one {ys : List Int} {a b : Int} (h : GetC ys a) (g : GetC ys b) : a = b := by
  rcases h with ⟨h1, h2⟩ | ⟨h1, i, hi, h2, h3, h4⟩ | ⟨h1, h2, h3⟩ <;> rcases g with ⟨g1, g2⟩ | ⟨g1, k, hk, g2, g3, g4⟩ | ⟨g1, g2, g3⟩
  · rw [← h2, g2]
  · omega
  · omega
  · omega
  · have e : i = k := by
      rcases Nat.lt_trichotomy i k with e | e | e
      · obtain ⟨z, hz⟩ := g4 i e; exact absurd hz (h3 z)
      · exact e
      · obtain ⟨z, hz⟩ := h4 k e; exact absurd hz (g3 z)
    subst e
    exact h2.one g2
  · obtain ⟨z, hz⟩ := g3 i hi; exact absurd hz (h3 z)
  · omega
  · obtain ⟨z, hz⟩ := h3 k hk; exact absurd hz (g3 z)
  · rw [h2, g2]
def GetR9 (ys : List Int) (v : Value) (S' : List HE) : Prop :=
  (∃ code, code ≠ 0 ∧ GetC ys code ∧ v = .tuple #[.agg #[.int .i64 0, .int .i64 0, .slice none 0 0, .int .i64 0, .int .i32 0, .int .i32 0], .int .i64 code] ∧ S' = []) ∨
  (GetC ys 0 ∧ ∃ (g : List Int) (A : Option Addr) (c : Nat), g.length = wY ys * hY ys ∧ (∀ f, Good9 ys f → g = f) ∧ v = .tuple #[.agg #[.int .i64 (wY ys : Nat), .int .i64 (hY ys : Nat), .slice A g.length c, .int .i64 (cellY ys : Nat), .int .i32 (i32N (leY ys 10 4)), .int .i32 (i32N (leY ys 14 4))], .int .i64 0] ∧
    S' = [.row (.slice A g.length c) 92 1 g.length (ints .i16 g)])
theorem lay_len9 (W H m : Nat) (A B : Option Addr) (c d : Nat) (z ys : List Int) (X Y : Int) (w : World) (hzm : z.length = m) (hown : Own [.row (.slice A m c) 92 1 m (ints .i16 z)] w) (hr : RoA w (blocks [.row (.slice A m c) 92 1 m (ints .i16 z)]) B ys.length d 1 (ints .i16 ys)) (hX : InR .i64 X) (hY : InR .i64 Y) (hm : 2 ≤ W ∧ W ≤ 256 ∧ 2 ≤ H ∧ H ≤ 256) (hz : z.length = W * H) (hc : z.length ≤ c) (hyb : ys.length < 1000000) (hys : ys.length = (boxF W H X Y).2.2.1 * (boxF W H X Y).2.2.2 ∧ 0 < (boxF W H X Y).2.2.1) :
    Does Tryz.prog 118 [.agg #[.int .i64 W, .int .i64 H, .slice A m c], .agg #[.int .i64 X, .int .i64 Y], .slice B ys.length d] [.row (.slice A m c) 92 1 m (ints .i16 z)] w
      (fun v S' => v = .bool true ∧ S' = [.row (.slice A m c) 92 1 m (ints .i16 (layTo ys W (boxF W H X Y).1 (boxF W H X Y).2.1 (boxF W H X Y).2.2.1 z (boxF W H X Y).2.2.2))]) := by
  subst hzm
  refine (lay_any W H A B c d z ys X Y w hown hr hX hY hm hz hc hyb).mono ?_
  rintro v S' (⟨h1, -, -, h2⟩ | ⟨-, h2, -⟩)
  · exact ⟨h1, h2⟩
  · exact absurd hys h2
attribute [local irreducible] OJ J HdJ Code.wpIn wpListIn Oper.wpIn bodyPost CallsIn Does
set_option maxRecDepth 4000
set_option maxHeartbeats 64000000 in
theorem get_any9 (A : Option Addr) (c : Nat) (ys : List Int) (w : World) (hr : RoA w (blocks []) A ys.length c 1 (ints .u8 ys)) (hu : U8s ys) (hm : ys.length < 100000000) :
    Does Tryz.prog 82 [.slice A ys.length c] [] w (GetR9 ys) := by
  refine does_of Tryz.func82 rfl Tryz.ntmps82 rfl ⟨by simp, .nil⟩ (fun n => ?_)
  simp only [slots]
  refine z_tas
  rename_i b2
  refine lf rfl rfl rfl (S := []) (fun w hw ho => open_any A c ys w ⟨hr.h.go hw (Split.nil _)⟩ hu hm) ?_
  rintro v S' hop
  rcases hop with ⟨hoc, A1, c1, A2, c2, rfl, rfl⟩ | ⟨hoc, rfl, rfl⟩
  rotate_left
  · generalize hcode : openC ys = code at *
    refine z_tas
    all_goals first
      | (refine z_ro; exact .inl ⟨code, hoc, .inl ⟨hoc, hcode⟩, rfl, rfl⟩)
      | (exfalso; omega)
  have hO := (openC_iff ys).1 hoc
  have hrg := hO.rng
  unfold rangeY at hrg
  have hal := atL_len ys (nY ys)
  have hsl := szL_len ys (nY ys)
  have hn : nY ys ≤ 256 := nT_le (by omega)
  have hnp : 1 ≤ nY ys := nT_pos (by omega)
  have hpl := placesTo_len (wY ys) (nY ys)
  have hWH : wY ys * hY ys ≤ 65536 := by have := Nat.mul_le_mul (show wY ys ≤ 256 by omega) (show hY ys ≤ 256 by omega); omega
  have hmul : (wY ys : Int) * (hY ys : Int) = ((wY ys * hY ys : Nat) : Int) := by push_cast; rfl
  have hmi : 0 ≤ (wY ys : Int) * (hY ys : Int) ∧ (wY ys : Int) * (hY ys : Int) ≤ 65536 := by rw [hmul]; omega
  refine z_tas
  rename_i b4 b6
  refine j_set 28 _ rfl (v' := .int .i64 (wY ys * hY ys : Nat)) (by rw [hmul]) ?_
  refine z_tas
  rename_i bg
  refine lf rfl rfl rfl (S := []) (fun w hw ho => places_any (wY ys) (hY ys) w (by omega)) ?_
  rintro v S' ⟨Ap, cp, rfl, rfl⟩
  have hnn : nT (wY ys) (hY ys) = nY ys := rfl
  rw [hnn]
  refine z_tas
  refine j_set 39 _ rfl (v' := .int .i64 (nY ys : Nat)) (by rw [hpl]) ?_
  refine c_loop (X := Nat × List Int) (fun q => q.1 ≤ nY ys ∧ q.2.length = wY ys * hY ys ∧ (∀ j, j < q.1 → ∃ z, TilOk ys j z) ∧ ∀ f, Good9 ys f → LaidR (wY ys) (hY ys) f q.2 q.1)
    (fun q => [(0, .slice A ys.length c), (2, .pointer (some ⟨b2, 0, none⟩)), (4, .pointer (some ⟨b4, 0, none⟩)), (5, .int .i64 0), (6, .pointer (some ⟨b6, 0, none⟩)), (38, .slice Ap (placesTo (wY ys) (nY ys)).length cp), (39, .int .i64 (nY ys : Nat)), (40, .int .i64 q.1)])
    (fun q => [.row (.slice (some ⟨bg, 0, none⟩) (wY ys * hY ys) (wY ys * hY ys)) 92 1 (wY ys * hY ys) (ints .i16 q.2), .blk b6 33 [.int .i64 (wY ys : Nat), .int .i64 (hY ys : Nat), .slice (some ⟨bg, 0, none⟩) (wY ys * hY ys) (wY ys * hY ys), .int .i64 (cellY ys : Nat), .int .i32 (i32N (leY ys 10 4)), .int .i32 (i32N (leY ys 14 4))], .row (.slice Ap (placesTo (wY ys) (nY ys)).length cp) 142 2 (placesTo (wY ys) (nY ys)).length (flat spotE (placesTo (wY ys) (nY ys))), .blk b4 152 [.int .i64 (wY ys : Nat), .int .i64 (hY ys : Nat), .slice none 0 0, .int .i64 (cellY ys : Nat), .int .i32 (i32N (leY ys 10 4)), .int .i32 (i32N (leY ys 14 4)), .slice A1 (atL ys (nY ys)).length c1, .slice A2 (szL ys (nY ys)).length c2], .row (.slice A1 (atL ys (nY ys)).length c1) 3 1 (atL ys (nY ys)).length (ints .i64 (atL ys (nY ys))), .row (.slice A2 (szL ys (nY ys)).length c2) 3 1 (szL ys (nY ys)).length (ints .i64 (szL ys (nY ys))), .blk b2 33 [.int .i64 0, .int .i64 0, .slice none 0 0, .int .i64 0, .int .i32 0, .int .i32 0]]) (fun q => nY ys - q.1) (0, List.replicate (wY ys * hY ys) 0) ⟨by simp, by simp, fun j hj => by omega, fun f hf => LaidR.zero (by simp)⟩ ⟨rfl, rfl, rfl, rfl, rfl, rfl, rfl, rfl, trivial⟩ Sub.au ?_
  rintro ⟨i, g⟩ ⟨hi, hgl, hj, hg⟩
  dsimp only at hi hgl hj hg ⊢
  rcases Nat.lt_or_ge i (nY ys) with h | h
  · have hpg := placesTo_get (wY ys) _ i h
    obtain ⟨hX, hY'⟩ := tXY_in (W := wY ys) (H := hY ys) (i := i) (by omega) h
    have hbx := tile_box (W := wY ys) (H := hY ys) h
    refine z_tas
    simp only [hpg]
    refine lf rfl rfl rfl (S := []) (fun w hw ho => ctile_any A c ys A1 A2 c1 c2 i w ⟨hr.h.go hw (Split.nil _)⟩ ⟨Ro.row hw (Split.nil _) (by refine z_hs)⟩ ⟨Ro.row hw (Split.nil _) (by refine z_hs)⟩ hu hm hO h) ?_
    rintro v S' ⟨zs, Az, cz, code, T, rfl, rfl, hz⟩
    refine j_perm (H' := .row (.slice Az zs.length cz) 92 1 zs.length (ints .i16 zs) :: _) (.cons (.here _ _) (Sub.appR T _)) ?_
    rcases hz with ⟨rfl, hok⟩ | ⟨hcode, rfl, hno⟩
    rotate_left
    · have hne := hcode.ne
      refine z_tas
      all_goals first
        | (exfalso; omega)
        | (refine z_ro; exact .inl ⟨code, hne, .inr (.inl ⟨hoc, i, h, hcode, hno, hj⟩), rfl, rfl⟩)
    · have hzl : zs.length ≤ 256 := by have := Nat.mul_le_mul hbx.2.1 hbx.2.2.2; rw [hok.1]; exact this
      refine z_tas
      refine lfn (S := [.row (.slice (some ⟨bg, 0, none⟩) (wY ys * hY ys) (wY ys * hY ys)) 92 1 (wY ys * hY ys) (ints .i16 g)]) rfl rfl (by first | exact (Split.cons (Has.there _ (Has.here _ _)) (Split.nil _)) | exact (Split.cons (Has.there _ (Has.there _ (Has.here _ _))) (Split.nil _)) | exact (Split.cons (Has.there _ (Has.there _ (Has.there _ (Has.here _ _)))) (Split.nil _))) rfl (fun w hw ho => lay_len9 (wY ys) (hY ys) (wY ys * hY ys) (some ⟨bg, 0, none⟩) Az (wY ys * hY ys) cz g zs (tX (wY ys) i) (tY (wY ys) i) w hgl ho ⟨Ro.row hw (by first | exact (Split.cons (Has.there _ (Has.here _ _)) (Split.nil _)) | exact (Split.cons (Has.there _ (Has.there _ (Has.here _ _))) (Split.nil _)) | exact (Split.cons (Has.there _ (Has.there _ (Has.there _ (Has.here _ _)))) (Split.nil _))) (by refine z_hs)⟩ hX hY' (by omega) hgl (by omega) (by omega) ⟨hok.1, by show 0 < tilW _ _ _; omega⟩) ?_
      rintro v S' ⟨rfl, rfl⟩
      refine z_tas
      refine c_round (i + 1, layTo zs (wY ys) (boxF (wY ys) (hY ys) (tX (wY ys) i) (tY (wY ys) i)).1 (boxF (wY ys) (hY ys) (tX (wY ys) i) (tY (wY ys) i)).2.1 (boxF (wY ys) (hY ys) (tX (wY ys) i) (tY (wY ys) i)).2.2.1 g (boxF (wY ys) (hY ys) (tX (wY ys) i) (tY (wY ys) i)).2.2.2) ⟨by show i + 1 ≤ _; omega, ?_, fun j hjj => ?_, fun f hf => ?_⟩ (by show _ - (i + 1) < _ - i; omega) ⟨rfl, rfl, rfl, rfl, rfl, rfl, rfl, by simp [look], trivial⟩ Sub.au
      · have hbi := boxF_in (wY ys) (hY ys) (tX (wY ys) i) (tY (wY ys) i)
        exact layTo_len hgl hbi.1 hbi.2.1 hok.1 _ (Nat.le_refl _)
      · rcases Nat.lt_or_ge j i with h1 | h1
        · exact hj j h1
        · rw [show j = i by have : j < i + 1 := hjj; omega]; exact ⟨zs, hok⟩
      · have e := TilOk.one h hok (hf.til h)
        subst e
        exact (hg f hf).next hf.2.1 h
  · obtain rfl : i = nY ys := by omega
    refine z_tas
    refine j_outK (.cons (.here _ _) (.nil _)) ?_
    refine z_rk
    refine .inr ⟨.inr (.inr ⟨hoc, rfl, hj⟩), g, some ⟨bg, 0, none⟩, wY ys * hY ys, hgl, fun f hf => (hg f hf).all hf.2.1, by rw [hgl]; rfl, by rw [hgl]⟩
end Go.Proofs.YtemmnpgebpffbaaGreat
/- Layer 8's statements: the walk of TileCuts. -/
namespace Go.Proofs.YtemmnpgebpffbaaGreat
open Go.RowKit
theorem j_outC {P : Program} {N : Nat} {w0 : World} {W : Nat → Prop} {σ : List (Nat × Value)} {H : List HE} {fn : Func} {t : Tmp} {b ty sz bs : Nat} {z : Value} {dd : TypeDesc} {cs : List Value} {k : HE → List HE} {S' : List HE} {Rl : Value → List HE → Prop} [Und P ty dd] [hd : YesAgg dd] [Inf P ty sz bs z] [hb : At b H ty cs k]
    (hres : fn.results = #[.cell t ty]) (hv : look σ t = some (.pointer (some ⟨b, 0, none⟩))) (hl : cs.length = sz) (hs : Sub S' H) (hR : Rl (.agg cs.toArray) S') : J N [] w0 W σ H (bodyPost P fn (fun e w' => ∃ v S', e = .returned v ∧ Rl v S' ∧ St w0 W S' w') .ret) :=
  fun a w ha hw => by
    obtain ⟨R, h1, -⟩ := hb.h
    have hg : HE.holds w (.blk b ty cs) := (hw.perm h1.perm).own.holds _ (List.mem_cons_self ..)
    refine ⟨ha.defers, _, results_cell_row (d := dd) hres _ _ b ty cs.toArray (0, 0) (by rw [getD_of ha hv]) hg Und.h ?_ (by simpa [hl] using (Inf.size (P := P) (t := ty))), _, S', rfl, hR, hw.sub hs⟩
    have := hd.h
    cases dd <;> simp_all [aggB]
theorem l_skipU {F : Fence} {n : Nat} {P : Program} {N : Nat} {ds : List Deferred} {w0 : World} {W : Nat → Prop} {σ : List (Nat × Value)} {H : List HE} {Q : Exit → Act → World → Prop} {ops : Array Oper} {rest : List Oper} {o : Oper} [hF : Wide F] {d t j : Nat} {b : Bool}
    (hg : o.guard = some (j, b)) (ht : (ops[j]?).bind (·.dst) = some t) (hv : look σ t = some undef) (hd : o.dst = some d) (hdN : Nat.blt d N = true) (h : J N ds w0 W ((d, undef) :: σ) H (wpListIn F n P ops Q rest)) : J N ds w0 W σ H (wpListIn F n P ops Q (o :: rest)) :=
  fun a w ha hs => wpListIn_step fun K hK => by
    have hw : Region.wanted o (yielded ops a.tmps) = false := by
      unfold Region.wanted
      rw [hg]
      simp only [yielded, ht, Option.bind_some, ha.at_ t _ hv]
      rfl
    rw [hw]
    refine ⟨fun f _ => hF.out.fn f, hK _ _ ?_⟩
    rw [hd]
    exact h _ _ (ha.put d undef (by simpa using hdN)) hs
/-- Two ways join: what holds at the join. -/
theorem c_join {F : Fence} {n : Nat} {P : Program} {N : Nat} {ds : List Deferred} {w0 : World} {W : Nat → Prop} {σ : List (Nat × Value)} {H : List HE} {Q : Exit → Act → World → Prop} {x y : Code} {X : Type} (R : X → Prop) (σI : X → List (Nat × Value)) (HI : X → List HE)
    (hx : J N ds w0 W σ H (x.wpIn F n P (Exit.then (fun a w => ∃ z, R z ∧ True ∧ Tm N ds (σI z) a ∧ St w0 W (HI z) w) Q))) (hy : ∀ z, R z → J N ds w0 W (σI z) (HI z) (y.wpIn F n P Q)) : J N ds w0 W σ H ((Code.seq x y).wpIn F n P Q) :=
  c_seq (hx.mono fun a w h => wpIn_mono h (by
    rintro e a w h
    cases e with
    | normal => obtain ⟨z, h1, -, h2, h3⟩ := h; exact hy z h1 a w h2 h3
    | _ => exact h))
def fieldV (z : List Int) (i : Nat) : Int := if i < z.length then z.getD i 0 else if 0 < z.length then IntKind.i16.wrap ((z.getD (i % z.length) 0).tdiv 2) else ((i % 7 : Nat) : Int)
def fieldF (z : List Int) (m : Nat) : List Int := (List.range m).map (fieldV z)
theorem fieldF_len (z : List Int) (m : Nat) : (fieldF z m).length = m := by simp [fieldF]
theorem fieldF_succ (z : List Int) (m : Nat) : fieldF z (m + 1) = fieldF z m ++ [fieldV z m] := by simp [fieldF, List.range_succ]
attribute [local irreducible] OJ J HdJ Code.wpIn wpListIn Oper.wpIn bodyPost CallsIn Does
set_option maxRecDepth 4000
set_option maxHeartbeats 16000000 in
theorem field_any (a b : Int) (ha : InR .u8 a) (hb : InR .u8 b) (W H : Nat) (hW : 2 + a % 39 = W) (hH : 2 + b % 39 = H) (A : Option Addr) (c : Nat) (z : List Int) (w : World) (hr : RoA w (blocks []) A z.length c 1 (ints .i16 z)) (hm : z.length < 1000000) :
    Does Tryz.prog 38 [.int .u8 a, .int .u8 b, .slice A z.length c] [] w (fun v S' => ∃ A' c', v = .agg #[.int .i64 W, .int .i64 H, .slice A' (fieldF z (W * H)).length c'] ∧ S' = [.row (.slice A' (fieldF z (W * H)).length c') 92 1 (fieldF z (W * H)).length (ints .i16 (fieldF z (W * H)))]) := by
  have ha1 : 0 ≤ a ∧ a ≤ 255 := ha
  have hb1 : 0 ≤ b ∧ b ≤ 255 := hb
  have hW2 : 2 ≤ W ∧ W ≤ 40 := by omega
  have hH2 : 2 ≤ H ∧ H ≤ 40 := by omega
  have hWH : W * H ≤ 1600 := by have := Nat.mul_le_mul hW2.2 hH2.2; omega
  have hcast : (W : Int) * H = ((W * H : Nat) : Int) := by push_cast; rfl
  have hmul : 0 ≤ (W : Int) * H ∧ (W : Int) * H ≤ 1600 := by rw [hcast]; omega
  refine does_of Tryz.func38 rfl Tryz.ntmps38 rfl ⟨by simp, .nil⟩ (fun n => ?_)
  simp only [slots]
  refine j_nil (e := 92) (size := 1) ?_
  refine z_gox
  rw [hW, hH]
  rename_i b6 b7
  refine c_loop (X := Nat × Option Addr × Nat) (fun q => q.1 ≤ W * H) (fun q => [(2, .slice A z.length c), (6, .pointer (some ⟨b6, 0, none⟩)), (7, .pointer (some ⟨b7, 0, none⟩)), (8, .int .i64 q.1)])
    (fun q => [.blk b7 31 [.int .i64 W, .int .i64 H, .slice q.2.1 (fieldF z q.1).length q.2.2], .blk b6 31 [.int .i64 0, .int .i64 0, .slice none 0 0], .row (.slice q.2.1 (fieldF z q.1).length q.2.2) 92 1 (fieldF z q.1).length (ints .i16 (fieldF z q.1))]) (fun q => W * H - q.1) (0, none, 0) (by simp) ⟨rfl, rfl, rfl, rfl, trivial⟩ (Sub.refl _) ?_
  rintro ⟨i, A1, c1⟩ hi
  simp only at hi ⊢
  have hfl := fieldF_len z i
  have hfs := fieldF_succ z i
  refine z_gox
  refine c_cond rfl (fun h => ?_) (fun h => ?_)
  · have hlt : i < W * H := by have := of_decide_eq_true h; omega
    refine z_gox
    refine c_cond rfl (fun h2 => ?_) (fun h2 => ?_)
    · have h2' : i < z.length := by have := of_decide_eq_true h2; omega
      have hfv : fieldV z i = z.getD i 0 := if_pos h2'
      obtain ⟨bA, oA, rfl, hA⟩ := hr.at_ (by omega : 0 < z.length)
      rw [hfv] at hfs
      refine z_gox
      rename_i A2 c2
      exact c_round (i + 1, A2, c2) (by show i + 1 ≤ _; omega) (by show _ - (i + 1) < _ - i; omega) ⟨rfl, rfl, rfl, by simp [look], trivial⟩ (by simp only [hfs]; exact Sub.au)
    · have h2' : ¬ i < z.length := by have := of_decide_eq_false h2; omega
      refine z_gox
      refine c_cond rfl (fun h3 => ?_) (fun h3 => ?_)
      · have h3' : 0 < z.length := by have := of_decide_eq_true h3; omega
        have hfv : fieldV z i = IntKind.i16.wrap ((z.getD (i % z.length) 0).tdiv 2) := by unfold fieldV; rw [if_neg h2', if_pos h3']
        have hmc : (i : Int) % (z.length : Int) = ((i % z.length : Nat) : Int) := by push_cast; rfl
        have hml := Nat.mod_lt i h3'
        have hmt : ((i : Int) % (z.length : Int)).toNat = i % z.length := by rw [hmc, Int.toNat_natCast]
        have hmi : 0 ≤ (i : Int) % (z.length : Int) ∧ (i : Int) % (z.length : Int) < z.length := by rw [hmc]; omega
        rw [hfv, ← hmt] at hfs
        obtain ⟨bA, oA, rfl, hA⟩ := hr.at_ h3'
        refine z_gox
        rename_i A2 c2
        exact c_round (i + 1, A2, c2) (by show i + 1 ≤ _; omega) (by show _ - (i + 1) < _ - i; omega) ⟨rfl, rfl, rfl, by simp [look], trivial⟩ (by simp only [hfs]; exact Sub.au)
      · have h3' : ¬ 0 < z.length := by have := of_decide_eq_false h3; omega
        have hfv : fieldV z i = (i : Int) % 7 := by unfold fieldV; rw [if_neg h2', if_neg h3']; push_cast; rfl
        rw [hfv] at hfs
        refine z_gox
        rename_i A2 c2
        exact c_round (i + 1, A2, c2) (by show i + 1 ≤ _; omega) (by show _ - (i + 1) < _ - i; omega) ⟨rfl, rfl, rfl, by simp [look], trivial⟩ (by simp only [hfs]; exact Sub.au)
  · obtain rfl : i = W * H := by have := of_decide_eq_false h; omega
    refine z_gox
    exact j_outC rfl rfl rfl Sub.au ⟨_, _, rfl, rfl⟩
end Go.Proofs.YtemmnpgebpffbaaGreat
/- The engine: a guard that is known, in a drawn region. -/
namespace Go.Proofs.YtemmnpgebpffbaaGreat
open Go.RowKit
/-- Asks whether a guard is known already (t_lit of EngV has an argument too many: it never holds). -/
theorem t_litG {F : Fence} {n : Nat} {P : Program} {N : Nat} {ds : List Deferred} {w0 : World} {W : Nat → Prop} {σ : List (Nat × Value)} {H HL : List HE} {Q : Exit → Act → World → Prop} {ops : Array Oper} {m : Nat} {rest : List Nat} {mask : List Bool} (b0 : Bool) {i j t : Nat} {o : Oper} {b : Bool} {r : List Nat} (hk : rest = i :: r) (hio : ops.toList[i]? = some o) (hg : o.guard = some (j, b)) (ht : (ops[j]?).bind (·.dst) = some t) (hv : look σ t = some (.bool b0)) (h : J N ds w0 W σ H (wpT F n P w0 W HL ops mask Q m rest)) : J N ds w0 W σ H (wpT F n P w0 W HL ops mask Q m rest) := h
end Go.Proofs.YtemmnpgebpffbaaGreat
/- Layer 9: what the statements' own checks reckon; maps made. -/
namespace Go.Proofs.YtemmnpgebpffbaaGreat
open Go.RowKit
instance (priority := 3000) {P : Program} {w0 : World} {W : Nat → Prop} {H : List HE} (x y : Operand) (t e b q m c sz bs r r' : Nat) (z : Value) (k : IntKind) [hu : Und P t (.slice e)] [hI : Inf P e sz bs z] [hm : NMul 0 sz r] [hr : NAdd q r r'] : LV P w0 W H (.indexAddr t x y) [.slice (some ⟨b, q, none⟩) m c, .int k 0] (.pointer (some ⟨b, r', none⟩)) (0 < m) := ⟨fun h =>
  LV.h (P := P) (w0 := w0) (W := W) (H := H) (op := .indexAddr t x y) (vs := [.slice (some ⟨b, q, none⟩) m c, .int k ((0 : Nat) : Int)]) (v := .pointer (some ⟨b, r', none⟩)) h⟩
def zf9 : List Int := fieldF [5, 9] 110
def bf9 : List Int := chartB 22 5 30 (-7) 8 zf9
def bx9 : List Int := bf9.set 92 (bits .xor .u8 (bf9.getD 92 0) 1)
def by9 : List Int := bx9.set 5 9
theorem zf9_len : zf9.length = 110 := by decide +kernel
theorem bf9_len : bf9.length = 93 := by decide +kernel
theorem bx9_len : bx9.length = 93 := by unfold bx9; rw [List.length_set, bf9_len]
theorem by9_len : by9.length = 93 := by unfold by9; rw [List.length_set, bx9_len]
theorem zf9_in : In16 zf9 := in16_of (fun x hx => by
  have h : ∀ y ∈ zf9, -32768 ≤ y ∧ y ≤ 32767 := by decide +kernel
  exact h x hx)
theorem bf9_u8 : U8s bf9 := chartB_u8 22 5 30 (-7) 8 zf9
theorem bx9_u8 : U8s bx9 := fun x hx => by
  have h : ∀ y ∈ bx9, 0 ≤ y ∧ y < 256 := by decide +kernel
  exact h x hx
theorem by9_u8 : U8s by9 := fun x hx => by
  have h : ∀ y ∈ by9, 0 ≤ y ∧ y < 256 := by decide +kernel
  exact h x hx
theorem bf9_hdr : wY bf9 = 22 ∧ hY bf9 = 5 ∧ cellY bf9 = 30 ∧ i32N (leY bf9 10 4) = -7 ∧ i32N (leY bf9 14 4) = 8 ∧ nY bf9 = 2 := by decide +kernel
theorem bf9_open : Opens bf9 := chart_opens (by omega) (by rw [zf9_len])
theorem bf9_good : Good9 bf9 zf9 := by
  obtain ⟨h1, h2, -, -, -, h3⟩ := bf9_hdr
  refine ⟨zf9_in, by rw [h1, h2, zf9_len], fun j hj => ?_⟩
  rw [h1, h2]
  exact chart_seg (by omega) (by rw [zf9_len]) (by unfold nY at hj; rw [h1, h2] at hj; exact hj)
theorem bf9_get : GetC bf9 0 := .inr (.inr ⟨(openC_iff _).2 bf9_open, rfl, fun j hj => ⟨_, bf9_good.til hj⟩⟩)
theorem bx9_get : GetC bx9 4 := by
  have hh : wY bx9 = 22 ∧ hY bx9 = 5 ∧ nY bx9 = 2 := by decide +kernel
  obtain ⟨h1, h2, h3⟩ := hh
  have hc : ¬ crcOk (segT bx9 1) := by decide +kernel
  refine .inr (.inl ⟨by decide +kernel, 1, by rw [h3]; decide, .inl ⟨rfl, hc⟩, fun z hz => hc (by rw [hz.2.2]; exact crcOk_P _), fun j hj => ?_⟩)
  obtain rfl : j = 0 := by omega
  refine ⟨cutN 22 5 zf9 0, ?_, in16_cut zf9_in _ _ _, ?_⟩
  · rw [h1, h2]
    exact cutN_len (by rw [zf9_len])
  · rw [h1, h2]
    decide +kernel
theorem by9_get : GetC by9 2 := .inl ⟨by decide, by decide +kernel⟩
theorem bf9_at : atY bf9 0 = 34 := by decide +kernel
theorem head9 : headN 22 5 = 34 := by decide
theorem places9 : (placesTo 22 (nT 22 5)).length = 2 := by rw [placesTo_len]; decide
theorem til9 : tilW 22 5 1 * tilH 22 5 1 = 30 := by decide +kernel
attribute [local irreducible] OJ J HdJ Code.wpIn wpListIn Oper.wpIn bodyPost CallsIn Does
set_option maxRecDepth 4000
set_option maxHeartbeats 16000000 in
theorem made_any (a b : Int) (ha : InR .u8 a) (hb : InR .u8 b) (W H : Nat) (hW : 2 + a % 39 = W) (hH : 2 + b % 39 = H) (A : Option Addr) (c : Nat) (z : List Int) (cell : Int) (hc : InR .u16 cell) (ox oy : Int) (w : World) (hr : RoA w (blocks []) A z.length c 1 (ints .i16 z)) (hm : z.length < 1000000) :
    Does Tryz.prog 10 [.int .u8 a, .int .u8 b, .slice A z.length c, .int .u16 cell, .int .i32 ox, .int .i32 oy] [] w (fun v S' => ∃ A' c', v = .agg #[.int .i64 W, .int .i64 H, .slice A' (fieldF z (W * H)).length c', .int .i64 (1 + cell % 1000), .int .i32 ox, .int .i32 oy] ∧ S' = [.row (.slice A' (fieldF z (W * H)).length c') 92 1 (fieldF z (W * H)).length (ints .i16 (fieldF z (W * H)))]) := by
  have hc1 : 0 ≤ cell ∧ cell ≤ 65535 := hc
  refine does_of Tryz.func10 rfl Tryz.ntmps10 rfl ⟨by simp, .nil⟩ (fun n => ?_)
  simp only [slots]
  refine z_tas
  refine lf rfl rfl rfl (S := []) (fun w hw ho => field_any a b ha hb W H hW hH A c z w ⟨hr.h.go hw (Split.nil _)⟩ hm) ?_
  rintro v S' ⟨Af, cf, rfl, rfl⟩
  refine z_tas
  refine j_outK (.cons (.here _ _) (.nil _)) ?_
  refine z_rk
  exact ⟨_, _, rfl, rfl⟩
theorem get_any9M (A : Option Addr) (c m : Nat) (ys : List Int) (w : World) (hl : ys.length = m) (hr : RoA w (blocks []) A m c 1 (ints .u8 ys)) (hu : U8s ys) (hm : m < 100000000) :
    Does Tryz.prog 82 [.slice A m c] [] w (GetR9 ys) := by
  subst hl
  exact get_any9 A c ys w hr hu hm
end Go.Proofs.YtemmnpgebpffbaaGreat
/- Layer 9's statements: the walk of ChartBack. -/
namespace Go.Proofs.YtemmnpgebpffbaaGreat
open Go.RowKit
theorem wr16_in (x : Int) : -32768 ≤ IntKind.i16.wrap x ∧ IntKind.i16.wrap x ≤ 32767 := by
  have h : IntKind.i16.wrap x = if 32768 ≤ x % 65536 then x % 65536 - 65536 else x % 65536 := by simp [IntKind.wrap, IntKind.bits, IntKind.signed]
  rw [h]
  split <;> omega
theorem field_in16 {z : List Int} (hz : ∀ v ∈ z, InR .i16 v) (m : Nat) : In16 (fieldF z m) := in16_of fun v hv => by
  unfold fieldF at hv
  obtain ⟨i, -, rfl⟩ := List.mem_map.1 hv
  unfold fieldV
  split
  · rename_i h
    rw [List.getD_eq_getElem?_getD, List.getElem?_eq_getElem h]
    exact hz _ (List.getElem_mem ..)
  split
  · exact wr16_in _
  · show -32768 ≤ ((i % 7 : Nat) : Int) ∧ ((i % 7 : Nat) : Int) ≤ 32767
    omega
theorem i32_u32 {x : Int} (h : InR .i32 x) : i32N (u32N x) = x := by
  have h1 : -2147483648 ≤ x ∧ x ≤ 2147483647 := h
  unfold i32N u32N
  generalize hn : (((x % 4294967296).toNat : Nat) : Int) = n
  have e : IntKind.i32.wrap n = if 2147483648 ≤ n % 4294967296 then n % 4294967296 - 4294967296 else n % 4294967296 := by simp [IntKind.wrap, IntKind.bits, IntKind.signed]
  rw [e]
  split <;> omega
theorem chart_good {W H cell : Nat} {ox oy : Int} {z : List Int} (hW : 2 ≤ W ∧ W ≤ 256 ∧ 2 ≤ H ∧ H ≤ 256 ∧ 1 ≤ cell ∧ cell ≤ 1000) (hz : z.length = W * H) (hi : In16 z) : Good9 (chartB W H cell ox oy z) z := by
  obtain ⟨-, h2, h3, -⟩ := chart_hdr (W := W) (H := H) (cell := cell) (ox := ox) (oy := oy) (z := z) (by omega)
  refine ⟨hi, by rw [h2, h3, hz], fun j hj => ?_⟩
  rw [h2, h3]
  exact chart_seg (by omega) hz (by unfold nY at hj; rw [h2, h3] at hj; exact hj)
theorem chart_get {W H cell : Nat} {ox oy : Int} {z : List Int} (hW : 2 ≤ W ∧ W ≤ 256 ∧ 2 ≤ H ∧ H ≤ 256 ∧ 1 ≤ cell ∧ cell ≤ 1000) (hz : z.length = W * H) (hi : In16 z) : GetC (chartB W H cell ox oy z) 0 :=
  .inr (.inr ⟨(openC_iff _).2 (chart_opens hW hz), rfl, fun j hj => ⟨_, (chart_good hW hz hi).til hj⟩⟩)
theorem chart_big {W H cell : Nat} {ox oy : Int} {z : List Int} (hW : W ≤ 256 ∧ H ≤ 256) (hz : z.length = W * H) : headN W H ≤ (chartB W H cell ox oy z).length ∧ (chartB W H cell ox oy z).length < 1000000 := by
  have h1 := nT_le hW
  have h2 := bodyTo_len hz (nT W H)
  rw [chartB_len]
  have : headN W H = 22 + 6 * nT W H := rfl
  omega
attribute [local irreducible] OJ J HdJ Code.wpIn wpListIn Oper.wpIn bodyPost CallsIn Does
set_option maxRecDepth 4000
end Go.Proofs.YtemmnpgebpffbaaGreat
/- The reference of layer 10: Height, Tile, Use; the law's room. -/
namespace Go.Proofs.YtemmnpgebpffbaaGreat
open Go.RowKit
theorem subA_zero9 (b c s : Nat) : subA (some ⟨b, 0, none⟩) 0 c s = some ⟨b, 0, none⟩ := by
  unfold subA
  split
  · rfl
  · simp [Addr.add]
section
variable {N : Nat} {ds : List Deferred} {w0 : World} {W : Nat → Prop} {σ : List (Nat × Value)} {H R : List HE} {q : Act → World → Prop}
theorem j_cap9 {A : Option Addr} {m c e s : Nat} {xs : List Value} (hh : Has H (.row (.slice A m c) e s m xs) R) (h : m ≤ c ∧ c ≤ maxLen → J N ds w0 W σ H q) : J N ds w0 W σ H q := by
  intro a w ha hw
  have h1 : w.ownsRow 0 e s (.slice A m c) m xs := hw.own.holds _ (hh.perm.mem_iff.2 (List.mem_cons_self ..))
  refine h ?_ a w ha hw
  obtain ⟨hx, hr⟩ := h1
  rcases hr with ⟨he, hm⟩ | ⟨g, cap, cur, he, e1, e2, e3, e4, e5, e6⟩
  · injection he with f1 f2 f3
    subst f3; exact ⟨by omega, Nat.zero_le _⟩
  · injection he with f1 f2 f3
    subst f3; exact ⟨e3, e4⟩
/-- A row of one's own, made shorter. -/
theorem j_trunc9 {A : Option Addr} {m c e s : Nat} {xs : List Value} (k : Nat) (hh : Has H (.row (.slice A m c) e s m xs) R) (hk : k ≤ m) (h0 : 0 < m) (h : J N ds w0 W σ (.row (.slice A k c) e s k (xs.take (k * s)) :: R) q) : J N ds w0 W σ H q := by
  intro a w ha hw
  have h1 : w.ownsRow 0 e s (.slice A m c) m xs := hw.own.holds _ (hh.perm.mem_iff.2 (List.mem_cons_self ..))
  have h2 : w.ownsRow 0 e s (.slice A k c) k (xs.take (k * s)) := by
    obtain ⟨hx, hr⟩ := h1
    have hks : k * s ≤ m * s := Nat.mul_le_mul_right s hk
    refine ⟨by rw [List.length_take, hx, Nat.min_eq_left hks], ?_⟩
    rcases hr with ⟨he, hm⟩ | ⟨g, cap, cur, he, e1, e2, e3, e4, e5, e6⟩
    · omega
    · injection he with f1 f2 f3
      subst f1 f3
      refine .inr ⟨g, _, cur, rfl, e1, e2, by omega, e4, e5, ?_⟩
      rw [← e6, List.take_take, Nat.min_eq_left hks]
  refine h a w ha (hw.turn hh (y := .row (.slice A k c) e s k (xs.take (k * s))) h2 rfl rfl rfl (Nat.le_refl _) (fun _ _ _ => rfl) (.inl ?_))
  cases A <;> rfl
end
/-- The height of a column and a row, or why there is none. -/
def offH (W H : Nat) (x y : Int) : Bool := decide (x < 0) || (decide (y < 0) || (decide ((W : Int) ≤ x) || decide ((H : Int) ≤ y)))
def heightF (W H : Nat) (z : List Int) (x y : Int) : Int × Int :=
  if x < 0 ∨ y < 0 ∨ (W : Int) ≤ x ∨ (H : Int) ≤ y then (0, 9) else if z.getD (y * W + x).toNat 0 = -32768 then (0, 8) else (z.getD (y * W + x).toNat 0, 0)
/-- The tiles that were used, behind one that is. -/
def useL (L : List Int) (n : Int) : Nat → List Int
  | 0 => [n]
  | i + 1 => if L.getD i 0 = n then useL L n i else useL L n i ++ [L.getD i 0]
def metB (L : List Int) (n : Int) : Nat → Bool
  | 0 => false
  | i + 1 => metB L n i || decide (L.getD i 0 = n)
theorem useL_pos (L : List Int) (n : Int) : ∀ i, 0 < (useL L n i).length
  | 0 => by simp [useL]
  | i + 1 => by have := useL_pos L n i; unfold useL; split <;> simp <;> omega
theorem useL_len (L : List Int) (n : Int) : ∀ i, (useL L n i).length ≤ i + 1
  | 0 => Nat.le_refl _
  | i + 1 => by have := useL_len L n i; unfold useL; split <;> simp <;> omega
attribute [local irreducible] OJ J HdJ Code.wpIn wpListIn Oper.wpIn bodyPost CallsIn Does
set_option maxRecDepth 4000
set_option maxHeartbeats 16000000 in
theorem rheight_any (W H : Nat) (A : Option Addr) (c : Nat) (z : List Int) (x y : Int) (w : World) (hr : RoA w (blocks []) A z.length c 1 (ints .i16 z)) (hW : 1 ≤ W ∧ W ≤ 256 ∧ 1 ≤ H ∧ H ≤ 256) (hz : z.length = W * H) :
    Does Tryz.prog 152 [.agg #[.int .i64 W, .int .i64 H, .slice A z.length c], .int .i64 x, .int .i64 y] [] w (fun v S' => v = .tuple #[.int .i16 (heightF W H z x y).1, .int .i64 (heightF W H z x y).2] ∧ S' = []) := by
  refine does_of Tryz.func152 rfl Tryz.ntmps152 rfl ⟨by simp, .nil⟩ (fun n => ?_)
  simp only [slots]
  by_cases ho : x < 0 ∨ y < 0 ∨ (W : Int) ≤ x ∨ (H : Int) ≤ y
  · have e : heightF W H z x y = (0, 9) := if_pos ho
    rw [e]
    refine z_tas
    all_goals first
      | exact j_out2 rfl rfl rfl (.nil _) ⟨rfl, rfl⟩
      | (exfalso; omega)
  obtain ⟨X, rfl⟩ : ∃ X : Nat, x = X := ⟨x.toNat, by omega⟩
  obtain ⟨Y, rfl⟩ : ∃ Y : Nat, y = Y := ⟨y.toNat, by omega⟩
  have h1 : (Y + 1) * W ≤ H * W := Nat.mul_le_mul_right _ (by omega)
  rw [Nat.add_mul, Nat.one_mul, Nat.mul_comm H, ← hz] at h1
  have h2 : z.length ≤ 65536 := by rw [hz]; have := Nat.mul_le_mul hW.2.1 hW.2.2.2; omega
  have hm : (Y : Int) * (W : Int) = ((Y * W : Nat) : Int) := by push_cast; rfl
  obtain ⟨bA, oA, rfl, hA⟩ := hr.at_ (by omega : 0 < z.length)
  have e : heightF W H z X Y = if z.getD ((Y : Int) * W + X).toNat 0 = -32768 then (0, 8) else (z.getD ((Y : Int) * W + X).toNat 0, 0) := if_neg ho
  rw [e]
  refine z_tas
  · exact j_out2 rfl rfl rfl (.nil _) ⟨by rw [if_pos (by assumption)], rfl⟩
  · exact j_out2 rfl rfl rfl (.nil _) ⟨by rw [if_neg (by assumption)], rfl⟩
end Go.Proofs.YtemmnpgebpffbaaGreat
/- Layer 10: a cache's memory, one block: slots behind one another. -/
namespace Go.Proofs.YtemmnpgebpffbaaGreat
open Go.RowKit
structure Slt where
  t : Int
  w : Int
  z : List Int
  u : Int
instance : Inhabited Slt := ⟨⟨0, 0, [], 0⟩⟩
def sltE (s : Slt) : List Value := .int .i64 s.t :: .int .i64 s.w :: (ints .i16 s.z ++ [.int .i64 s.u])
def slotsE (l : List Slt) : List Value := l.flatMap sltE
def Slts (l : List Slt) : Prop := ∀ s ∈ l, s.z.length = 256
/-- A cache's cells: pre are bytes and directory. -/
def cacheE (pre : List Value) (l : List Slt) (room clock met miss : Int) : List Value := pre ++ (slotsE l ++ [.int .i64 room, .int .i64 clock, .int .i64 met, .int .i64 miss])
theorem sltE_len {s : Slt} (h : s.z.length = 256) : (sltE s).length = 259 := by simp [sltE, ints, h]
theorem slotsE_len : ∀ {l : List Slt}, Slts l → (slotsE l).length = 259 * l.length
  | [], _ => rfl
  | s :: r, h => by
    have h1 := sltE_len (h s (List.mem_cons_self ..))
    have h2 := slotsE_len (l := r) (fun x hx => h x (List.mem_cons_of_mem _ hx))
    unfold slotsE at h2 ⊢
    rw [List.flatMap_cons, List.length_append, h1, h2, List.length_cons]
    omega
/-- A cell of a slot. -/
theorem slotsE_get : ∀ {l : List Slt} (_ : Slts l) (i j : Nat), i < l.length → j < 259 → (slotsE l)[i * 259 + j]? = (sltE (l.getD i default))[j]?
  | [], _, i, j, hi, _ => by simp at hi
  | s :: r, h, 0, j, _, hj => by
    have h1 := sltE_len (h s (List.mem_cons_self ..))
    unfold slotsE
    rw [List.flatMap_cons, Nat.zero_mul, Nat.zero_add, List.getElem?_append_left (by omega)]
    rfl
  | s :: r, h, i + 1, j, hi, hj => by
    have h1 := sltE_len (h s (List.mem_cons_self ..))
    have ih := slotsE_get (l := r) (fun x hx => h x (List.mem_cons_of_mem _ hx)) i j (by simpa using hi) hj
    unfold slotsE at ih ⊢
    rw [List.flatMap_cons, List.getElem?_append_right (by omega), h1, show (i + 1) * 259 + j - 259 = i * 259 + j by omega, ih]
    rfl
section
variable {pre : List Value} {l : List Slt} {room clock met miss : Int}
theorem cacheE_slot (hp : pre.length = 9) (hl : Slts l) {i j : Nat} (hi : i < l.length) (hj : j < 259) : (cacheE pre l room clock met miss)[9 + i * 259 + j]? = (sltE (l.getD i default))[j]? := by
  have hs := slotsE_len hl
  unfold cacheE
  rw [List.getElem?_append_right (by omega), hp, show 9 + i * 259 + j - 9 = i * 259 + j by omega, List.getElem?_append_left (by omega)]
  exact slotsE_get hl i j hi hj
theorem cacheE_tile (hp : pre.length = 9) (hl : Slts l) {i : Nat} (hi : i < l.length) : (cacheE pre l room clock met miss)[9 + i * 259]? = some (.int .i64 (l.getD i default).t) := cacheE_slot hp hl hi (j := 0) (by omega)
theorem cacheE_w (hp : pre.length = 9) (hl : Slts l) {i : Nat} (hi : i < l.length) : (cacheE pre l room clock met miss)[9 + i * 259 + 1]? = some (.int .i64 (l.getD i default).w) := cacheE_slot hp hl hi (j := 1) (by omega)
theorem cacheE_used (hp : pre.length = 9) (hl : Slts l) {i : Nat} (hi : i < l.length) : (cacheE pre l room clock met miss)[9 + i * 259 + 258]? = some (.int .i64 (l.getD i default).u) := by
  rw [cacheE_slot hp hl hi (by omega)]
  have hm : (l.getD i default).z.length = 256 := hl _ (by rw [List.getD_eq_getElem?_getD, List.getElem?_eq_getElem hi]; exact List.getElem_mem ..)
  generalize l.getD i default = s at *
  unfold sltE
  rw [List.getElem?_cons_succ, List.getElem?_cons_succ, List.getElem?_append_right (by rw [ints_len, hm]; exact Nat.le_refl _), ints_len, hm]
  rfl
theorem cacheE_z (hp : pre.length = 9) (hl : Slts l) {i j : Nat} (hi : i < l.length) (hj : j < 256) : (cacheE pre l room clock met miss)[9 + i * 259 + (2 + j)]? = some (.int .i16 ((l.getD i default).z.getD j 0)) := by
  rw [cacheE_slot hp hl hi (by omega)]
  have hm : (l.getD i default).z.length = 256 := hl _ (by rw [List.getD_eq_getElem?_getD, List.getElem?_eq_getElem hi]; exact List.getElem_mem ..)
  generalize l.getD i default = s at *
  unfold sltE
  rw [show 2 + j = j + 1 + 1 by omega, List.getElem?_cons_succ, List.getElem?_cons_succ, List.getElem?_append_left (by rw [ints_len, hm]; exact hj)]
  simp only [ints, List.getElem?_map, List.getD_eq_getElem?_getD, List.getElem?_eq_getElem (show j < s.z.length by omega)]
  rfl
theorem cacheE_tail (hp : pre.length = 9) (hl : Slts l) (h32 : l.length = 32) (k : Nat) : (cacheE pre l room clock met miss)[8297 + k]? = [Value.int .i64 room, .int .i64 clock, .int .i64 met, .int .i64 miss][k]? := by
  have hs := slotsE_len hl
  unfold cacheE
  rw [List.getElem?_append_right (by omega), List.getElem?_append_right (by omega)]
  congr 1
  omega
end
end Go.Proofs.YtemmnpgebpffbaaGreat
/- Package cache: oldest. -/
namespace Go.Proofs.YtemmnpgebpffbaaGreat
open Go.RowKit
/-- How many cells a type has. -/
class SzI (P : Program) (e : TypeId) (sz : outParam Nat) : Prop where h : ∃ i, P.info? e = some i ∧ i.size = sz
instance : SzI Tryz.prog 155 259 := ⟨Tryz.t155, by kernel_rfl, by kernel_rfl⟩
instance (priority := 100) {P : Program} {w0 : World} {W : Nat → Prop} {H : List HE} (x y : Operand) (t e m b q sz j r r' : Nat) (k : IntKind) [hu : Und P t (.array m e)] [hI : SzI P e sz] [hm : NMul j sz r] [hr : NAdd q r r'] : LV P w0 W H (.indexAddr t x y) [.pointer (some ⟨b, q, none⟩), .int k (j : Int)] (.pointer (some ⟨b, r', none⟩)) (j < m) := ⟨by
  rintro hi ρ ⟨dst, op', ty, pos, aft, gd⟩ rfl h w _
  obtain ⟨hx, hy⟩ := map2 h
  have h1 := hu.h
  obtain ⟨ii, h2, h3⟩ := hI.h
  rw [← hr.h, ← hm.h]
  simp [execOp, hx, hy, Instr.indexAt, run_underlying h1, asIntOf, sizeOf, typeInfo, h2, h3, hi, add_none, Instr.sureAddr]⟩
instance (priority := 100) {P : Program} {w0 : World} {W : Nat → Prop} {H : List HE} (x y : Operand) (t e m b q sz j r r' : Nat) (k : IntKind) [hu : Und P t (.array m e)] [hI : SzI P e sz] [hm : NMul j sz r] [hr : NAdd q r r'] : MS P w0 W H (.indexAddr t x y) [.pointer (some ⟨b, q, none⟩), .int k (j : Int)] (.pointer (some ⟨b, r', none⟩)) (j < m) :=
  ⟨fun hc _ _ _ _ _ _ _ _ _ _ _ _ _ h1 h2 h3 => o_val (by simp) rfl h2 (fun a w ha _ => by
    obtain ⟨p1, p2⟩ := vals2 h1
    have g1 := hu.h
    obtain ⟨ii, g2, g3⟩ := hI.h
    rw [← hr.h, ← hm.h]
    simp [execOp, ha.eval p1, ha.eval p2, Instr.indexAt, run_underlying g1, asIntOf, sizeOf, typeInfo, g2, g3, hc, add_none, Instr.sureAddr]) h3⟩
def oldTo (l : List Slt) : Nat → Nat
  | 0 => 0
  | i + 1 => if (l.getD i default).u < (l.getD (oldTo l i) default).u then i else oldTo l i
theorem oldTo_lt (l : List Slt) : ∀ i, 0 < i → oldTo l i < i
  | 0, h => by omega
  | i + 1, _ => by
    unfold oldTo
    split
    · omega
    · rcases Nat.eq_zero_or_pos i with e | e
      · subst e; simp [oldTo]
      · have := oldTo_lt l i e; omega
attribute [local irreducible] OJ J HdJ Code.wpIn wpListIn Oper.wpIn bodyPost CallsIn Does
set_option maxRecDepth 4000
set_option maxHeartbeats 16000000 in
theorem oldest_any (g : Nat) (pre : List Value) (l : List Slt) (room : Nat) (clock met miss : Int) (w : World) (hown : Own [.blk g 158 (cacheE pre l room clock met miss)] w) (hp : pre.length = 9) (hl : Slts l) (h32 : l.length = 32) (hr : 1 ≤ room ∧ room ≤ 32) :
    Does Tryz.prog 142 [.pointer (some ⟨g, 0, none⟩)] [.blk g 158 (cacheE pre l room clock met miss)] w (fun v S' => ∃ k, k < room ∧ v = .pointer (some ⟨g, 9 + k * 259, none⟩) ∧ (((l.getD k default).t < 0 ∧ ∀ j, j < k → 0 ≤ (l.getD j default).t) ∨ ((∀ j, j < room → 0 ≤ (l.getD j default).t) ∧ k = oldTo l room)) ∧ S' = [.blk g 158 (cacheE pre l room clock met miss)]) := by
  have i0 : Get (cacheE pre l room clock met miss) 8297 (.int .i64 room) := ⟨cacheE_tail hp hl h32 0⟩
  have ft := fun i (hi : i < 32) => cacheE_tile (pre := pre) (l := l) (room := room) (clock := clock) (met := met) (miss := miss) hp hl (i := i) (by omega)
  have fu := fun i (hi : i < 32) => cacheE_used (pre := pre) (l := l) (room := room) (clock := clock) (met := met) (miss := miss) hp hl (i := i) (by omega)
  refine does_of Tryz.func142 rfl Tryz.ntmps142 rfl hown (fun n => ?_)
  simp only [slots]
  generalize cacheE pre l room clock met miss = cs at *
  refine z_tas
  refine c_loop (X := Nat) (fun i => i ≤ room ∧ ∀ j, j < i → 0 ≤ (l.getD j default).t) (fun i => [(0, .pointer (some ⟨g, 0, none⟩)), (3, .int .i64 (oldTo l i : Nat)), (8, .int .i64 room), (9, .int .i64 i)]) (fun _ => [.blk g 158 cs]) (fun i => room - i) 0 ⟨by omega, fun j hj => by omega⟩ ⟨rfl, rfl, rfl, rfl, trivial⟩ (Sub.refl _) ?_
  rintro i ⟨hi, hj⟩
  rcases Nat.lt_or_ge i room with h | h
  · have i1 : Get cs (9 + i * 259) (.int .i64 (l.getD i default).t) := ⟨ft i (by omega)⟩
    have i2 : Get cs (9 + i * 259 + 258) (.int .i64 (l.getD i default).u) := ⟨fu i (by omega)⟩
    have ho : oldTo l i < 32 := by
      rcases Nat.eq_zero_or_pos i with e | e
      · subst e; simp [oldTo]
      · have := oldTo_lt l i e; omega
    have i3 : Get cs (9 + oldTo l i * 259 + 258) (.int .i64 (l.getD (oldTo l i) default).u) := ⟨fu _ ho⟩
    have e := oldTo.eq_2 l i
    refine z_tas
    · exact j_out1 rfl rfl (Sub.refl _) ⟨i, h, rfl, .inl ⟨by assumption, hj⟩, rfl⟩
    · refine c_round (i + 1) ⟨by omega, fun j hjj => ?_⟩ (by show room - (i + 1) < room - i; omega) ⟨rfl, by rw [e, if_pos (by assumption)]; rfl, rfl, by simp [look], trivial⟩ (Sub.refl _)
      rcases Nat.lt_or_ge j i with h1 | h1
      · exact hj j h1
      · rw [show j = i by omega]; omega
    · refine c_round (i + 1) ⟨by omega, fun j hjj => ?_⟩ (by show room - (i + 1) < room - i; omega) ⟨rfl, by rw [e, if_neg (by assumption)]; rfl, rfl, by simp [look], trivial⟩ (Sub.refl _)
      rcases Nat.lt_or_ge j i with h1 | h1
      · exact hj j h1
      · rw [show j = i by omega]; omega
  · obtain rfl : i = room := by omega
    have ho := oldTo_lt l i (by omega)
    refine z_tas
    exact j_out1 rfl rfl (Sub.refl _) ⟨oldTo l i, ho, rfl, .inr ⟨hj, rfl⟩, rfl⟩
end Go.Proofs.YtemmnpgebpffbaaGreat
/- Layer 10: cells of a cache that are set. -/
namespace Go.Proofs.YtemmnpgebpffbaaGreat
open Go.RowKit
theorem over_set {cs : List Value} {q : Nat} (v : Value) (h : q < cs.length) : Over cs q [v] (cs.set q v) := ⟨by
  refine ⟨?_, by show q + 1 ≤ cs.length; exact h⟩
  rw [List.set_eq_take_append_cons_drop, if_pos h]
  simp⟩
theorem slotsE_set : ∀ {l : List Slt} (_ : Slts l) (i j : Nat) (v : Value) (s' : Slt), i < l.length → j < 259 → sltE s' = (sltE (l.getD i default)).set j v → slotsE (l.set i s') = (slotsE l).set (i * 259 + j) v
  | [], _, i, j, v, s', hi, _, _ => by simp at hi
  | s :: r, h, 0, j, v, s', _, hj, e => by
    have h1 := sltE_len (h s (List.mem_cons_self ..))
    have e' : sltE s' = (sltE s).set j v := e
    unfold slotsE
    rw [List.set_cons_zero, List.flatMap_cons, List.flatMap_cons, Nat.zero_mul, Nat.zero_add, List.set_append_left _ _ (by omega), e']
  | s :: r, h, i + 1, j, v, s', hi, hj, e => by
    have h1 := sltE_len (h s (List.mem_cons_self ..))
    have ih := slotsE_set (l := r) (fun x hx => h x (List.mem_cons_of_mem _ hx)) i j v s' (by simpa using hi) hj e
    unfold slotsE at ih ⊢
    rw [List.set_cons_succ, List.flatMap_cons, List.flatMap_cons, ih, List.set_append_right _ _ (by omega), h1, show (i + 1) * 259 + j - 259 = i * 259 + j by omega]
section
variable {pre : List Value} {l : List Slt} {room clock met miss : Int}
theorem cacheE_len (hp : pre.length = 9) (hl : Slts l) (h32 : l.length = 32) : (cacheE pre l room clock met miss).length = 8301 := by
  have := slotsE_len hl
  unfold cacheE
  simp only [List.length_append, List.length_cons, List.length_nil]
  omega
theorem cacheE_set (hp : pre.length = 9) (hl : Slts l) {i j : Nat} {v : Value} {s' : Slt} (hi : i < l.length) (hj : j < 259) (e : sltE s' = (sltE (l.getD i default)).set j v) : (cacheE pre l room clock met miss).set (9 + i * 259 + j) v = cacheE pre (l.set i s') room clock met miss := by
  have hs := slotsE_len hl
  unfold cacheE
  rw [List.set_append_right _ _ (by omega), hp, show 9 + i * 259 + j - 9 = i * 259 + j by omega, List.set_append_left _ _ (by omega), slotsE_set hl i j v s' hi hj e]
theorem cacheE_setT (hp : pre.length = 9) (hl : Slts l) {i : Nat} (hi : i < l.length) (t : Int) : (cacheE pre l room clock met miss).set (9 + i * 259) (.int .i64 t) = cacheE pre (l.set i { l.getD i default with t := t }) room clock met miss := cacheE_set hp hl (j := 0) hi (by omega) rfl
theorem cacheE_setW (hp : pre.length = 9) (hl : Slts l) {i : Nat} (hi : i < l.length) (t : Int) : (cacheE pre l room clock met miss).set (9 + i * 259 + 1) (.int .i64 t) = cacheE pre (l.set i { l.getD i default with w := t }) room clock met miss := cacheE_set hp hl (j := 1) hi (by omega) rfl
theorem cacheE_setU (hp : pre.length = 9) (hl : Slts l) {i : Nat} (hi : i < l.length) (t : Int) : (cacheE pre l room clock met miss).set (9 + i * 259 + 258) (.int .i64 t) = cacheE pre (l.set i { l.getD i default with u := t }) room clock met miss := by
  have hm : (l.getD i default).z.length = 256 := hl _ (by rw [List.getD_eq_getElem?_getD, List.getElem?_eq_getElem hi]; exact List.getElem_mem ..)
  refine cacheE_set hp hl (j := 258) hi (by omega) ?_
  generalize l.getD i default = s at *
  unfold sltE
  rw [List.set_cons_succ, List.set_cons_succ, List.set_append_right _ _ (by rw [ints_len, hm]; exact Nat.le_refl _), ints_len, hm]
  rfl
theorem Slts.set {l : List Slt} (hl : Slts l) (i : Nat) {s : Slt} (h : s.z.length = 256) : Slts (l.set i s) := fun x hx => by
  rcases List.mem_or_eq_of_mem_set hx with h1 | h1
  · exact hl x h1
  · rw [h1]; exact h
theorem cacheE_setClock (hp : pre.length = 9) (hl : Slts l) (h32 : l.length = 32) (x : Int) : (cacheE pre l room clock met miss).set 8298 (.int .i64 x) = cacheE pre l room x met miss := by
  have hs := slotsE_len hl
  unfold cacheE
  rw [List.set_append_right _ _ (by omega), List.set_append_right _ _ (by omega), hp, hs, h32]
  rfl
theorem cacheE_setMet (hp : pre.length = 9) (hl : Slts l) (h32 : l.length = 32) (x : Int) : (cacheE pre l room clock met miss).set 8299 (.int .i64 x) = cacheE pre l room clock x miss := by
  have hs := slotsE_len hl
  unfold cacheE
  rw [List.set_append_right _ _ (by omega), List.set_append_right _ _ (by omega), hp, hs, h32]
  rfl
theorem cacheE_setMiss (hp : pre.length = 9) (hl : Slts l) (h32 : l.length = 32) (x : Int) : (cacheE pre l room clock met miss).set 8300 (.int .i64 x) = cacheE pre l room clock met x := by
  have hs := slotsE_len hl
  unfold cacheE
  rw [List.set_append_right _ _ (by omega), List.set_append_right _ _ (by omega), hp, hs, h32]
  rfl
end
end Go.Proofs.YtemmnpgebpffbaaGreat
/- Package cache: Met, Held. -/
namespace Go.Proofs.YtemmnpgebpffbaaGreat
open Go.RowKit
/-- Of those that were used ahead of a time the one that was used last. -/
def bestH (l : List Slt) (last : Int) : Nat → Int
  | 0 => -1
  | i + 1 => if 0 ≤ (l.getD i default).t ∧ (l.getD i default).u < last ∧ (bestH l last i < 0 ∨ (l.getD (bestH l last i).toNat default).u < (l.getD i default).u) then i else bestH l last i
def heldN (l : List Slt) (room : Nat) : Nat → Int → List Int
  | 0, _ => []
  | k + 1, last => if bestH l last room < 0 then [] else (l.getD (bestH l last room).toNat default).t :: heldN l room k (l.getD (bestH l last room).toNat default).u
theorem bestH_in (l : List Slt) (last : Int) : ∀ i, -1 ≤ bestH l last i ∧ bestH l last i < (i : Int)
  | 0 => by simp [bestH]
  | i + 1 => by have := bestH_in l last i; unfold bestH; split <;> omega
theorem heldN_len (l : List Slt) (room : Nat) : ∀ k last, (heldN l room k last).length ≤ k
  | 0, _ => by simp [heldN]
  | k + 1, last => by unfold heldN; split <;> simp; exact heldN_len l room k _
attribute [local irreducible] OJ J HdJ Code.wpIn wpListIn Oper.wpIn bodyPost CallsIn Does
set_option maxRecDepth 4000
end Go.Proofs.YtemmnpgebpffbaaGreat
