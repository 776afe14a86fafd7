/- The engine: in a drawn region, an operation that only reckons or looks may be taken first, whatever turns memory behind it. -/
import Derived.Test.YtokoopdkofgabaaEngW
namespace Go.Proofs.Ytokoopdkofgabaa
open Go.RowKit
theorem look_core {F : Fence} {n : Nat} {P : Program} {w0 : World} {W : Nat → Prop} {HL : List HE} {Q : Exit → Act → World → Prop} {ops : Array Oper} {mask : List Bool} [hF : Wide F] {i d : Nat} {o : Oper} {v : Value} {L : Nat → Option Value}
    (hio : ops[i]? = some o) (hd : o.dst = some d)
    (hpl : ∀ (j : Nat) (o' : Oper), ops[j]? = some o' → plainB o' = true)
    (hoth : ∀ (j : Nat) (o' : Oper), j ≠ i → ops[j]? = some o' → o'.dst ≠ some d ∧ (d ∈ o'.looksAt ops → edgeB ops j i = true))
    (hval : ∀ a : Act, (∀ t ∈ o.looksAt ops, ∀ u, L t = some u → a.tmps[t]? = some u) → (Region.wanted o (yielded ops a.tmps) = true ∧ ∀ w, St w0 W HL w → (execOp a.eval o).run P w = .ok (.value v) w) ∨ (Region.wanted o (yielded ops a.tmps) = false ∧ v = undef)) :
    ∀ (m : Nat) (rest : List Nat) (a : Act) (w : World), i ∈ rest → rest.length ≤ m + 1 → (∀ j ∈ rest, litB ops mask j = false) → (∀ j ∈ rest, ∀ t, dstAt ops j = some t → t ∉ o.looksAt ops) → St w0 W HL w →
      (∀ t ∈ o.looksAt ops, ∀ u, L t = some u → a.tmps[t]? = some u) → wpT F n P w0 W HL ops mask Q m (rest.erase i) (a.put (some d) v) w → wpT F n P w0 W HL ops mask Q (m + 1) rest a w := by
  have hnd : ∀ (j : Nat) (o' : Oper), ops[j]? = some o' → ∀ c, o'.op ≠ .defer c := by
    intro j o' h c e
    have := hpl j o' h
    unfold plainB at this; rw [e] at this; cases this
  have hme : ∀ (m : Nat) (rest : List Nat) (a : Act) (w : World), St w0 W HL w → (∀ t ∈ o.looksAt ops, ∀ u, L t = some u → a.tmps[t]? = some u) → wpT F n P w0 W HL ops mask Q m (rest.erase i) (a.put (some d) v) w →
      wpListIn F n P ops (nq fun _ b' w' => (litB ops mask i = true ∨ St w0 W HL w') ∧ wpT F n P w0 W HL ops mask Q m (rest.erase i) b' w') [o] a w := by
    intro m rest a w hst ha h
    simp only [wpListIn]
    rcases hval a ha with ⟨hw1, hw2⟩ | ⟨hw1, hw2⟩
    · rw [if_pos hw1]
      refine ⟨fun f _ => hF.out.fn f, ?_⟩
      rw [Oper.semAt_plain F _ _ (hnd i o hio), hw2 w hst, Oper.uponIn_value, hd]
      exact ⟨.inr hst, h⟩
    · rw [if_neg (by rw [hw1]; simp)]
      refine ⟨fun f _ => hF.out.fn f, ?_⟩
      rw [hd]
      subst hw2
      exact ⟨.inr hst, h⟩
  intro m
  induction m with
  | zero =>
    intro rest a w hi hlen hlit hdst hst ha h
    refine ⟨fun e => (by rw [e] at hi; cases hi), fun j hj hr => ?_⟩
    have hji : j = i := by
      match rest, hlen, hi, hj with
      | [x], _, hi, hj => rw [List.mem_singleton.1 hi, List.mem_singleton.1 hj]
    subst hji
    have hopsAt : opsAt ops [j] = [o] := by simp [opsAt, hio]
    rw [hopsAt]
    exact hme 0 rest a w hst ha h
  | succ m ih =>
    intro rest a w hi hlen hlit hdst hst ha h
    refine ⟨fun e => (by rw [e] at hi; cases hi), fun j hj hr => ?_⟩
    by_cases hji : j = i
    · subst hji
      have hopsAt : opsAt ops [j] = [o] := by simp [opsAt, hio]
      rw [hopsAt]
      exact hme (m + 1) rest a w hst ha h
    · have hwp := h.2 j ((List.mem_erase_of_ne hji).2 hj) (fun k hk => hr k (List.mem_of_mem_erase hk))
      cases hjo : ops[j]? with
      | none =>
        have hopsAt : opsAt ops [j] = [] := by simp [opsAt, hjo]
        rw [hopsAt] at hwp ⊢
        obtain ⟨hob, hwp⟩ := hwp
        refine ⟨hob, ih (rest.erase j) a w ((List.mem_erase_of_ne (fun e => hji e.symm)).2 hi) (by have := List.length_erase_of_mem hj; omega) (fun k hk => hlit k (List.mem_of_mem_erase hk)) (fun k hk => hdst k (List.mem_of_mem_erase hk)) hst ha ?_⟩
        have := hwp
        rw [List.erase_comm] at this
        exact this
      | some o' =>
        have hopsAt : opsAt ops [j] = [o'] := by simp [opsAt, hjo]
        rw [hopsAt] at hwp ⊢
        obtain ⟨hne, hlk⟩ := hoth j o' hji hjo
        have hnl : d ∉ o'.looksAt ops := fun hm => by have := hr i hi; rw [hlk hm] at this; cases this
        have hagree : ∀ t ∈ o'.looksAt ops, a.tmps[t]? = (a.put (some d) v).tmps[t]? := by
          intro t ht
          simp only [Act.put, Array.getElem?_setIfInBounds]
          rw [if_neg (fun e => hnl (by rw [e]; exact ht))]
        have hwt : Region.wanted o' (yielded ops a.tmps) = Region.wanted o' (yielded ops (a.put (some d) v).tmps) := by
          unfold Region.wanted
          cases hg : o'.guard with
          | none => rfl
          | some g =>
            obtain ⟨j', c⟩ := g
            simp only [yielded]
            cases hj : (ops[j']?).bind (·.dst) with
            | none => rfl
            | some t =>
              have : t ∈ o'.looksAt ops := by
                unfold Oper.looksAt
                rw [hg]
                exact List.mem_append_right _ (by simp [hj])
              simp only [Option.bind_some, hagree t this]
        have hev : execOp a.eval o' = execOp (a.put (some d) v).eval o' := by
          refine execOp_congr o' (fun cs c e => ?_) fun x hx => eval_of fun t e => ?_
          · have := hpl j o' hjo
            unfold plainB at this; rw [e] at this; cases this
          · subst e
            exact hagree t (List.mem_append_left _ (List.mem_filterMap.2 ⟨.tmp t, by simpa using hx, rfl⟩))
        have hnext : ∀ (ds : List Deferred) (u : Value) (w' : World), wpListIn F n P ops (nq fun _ b'' w'' => (litB ops mask j = true ∨ St w0 W HL w'') ∧ wpT F n P w0 W HL ops mask Q m ((rest.erase i).erase j) b'' w'') [] (({ (a.put (some d) v) with defers := ds } : Act).put o'.dst u) w' →
            wpListIn F n P ops (nq fun _ b'' w'' => (litB ops mask j = true ∨ St w0 W HL w'') ∧ wpT F n P w0 W HL ops mask Q (m + 1) (rest.erase j) b'' w'') [] (({ a with defers := ds } : Act).put o'.dst u) w' := by
          intro ds u w' hh
          obtain ⟨h1, h2⟩ := hh
          have hst' : St w0 W HL w' := by
            rcases h1 with h1 | h1
            · rw [hlit j hj] at h1; cases h1
            · exact h1
          refine ⟨h1, ih (rest.erase j) _ w' ((List.mem_erase_of_ne (fun e => hji e.symm)).2 hi) (by have := List.length_erase_of_mem hj; omega) (fun k hk => hlit k (List.mem_of_mem_erase hk)) (fun k hk => hdst k (List.mem_of_mem_erase hk)) hst' (fun t ht u' hu' => ?_) ?_⟩
          · cases hdj : o'.dst with
            | none => exact ha t ht u' hu'
            | some e =>
              have hne2 : e ≠ t := fun hh => hdst j hj e (by simp [dstAt, hjo, hdj]) (by rw [hh]; exact ht)
              simp only [Act.put, Array.getElem?_setIfInBounds]
              rw [if_neg hne2]
              exact ha t ht u' hu'
          · rw [List.erase_comm, put_comm _ _ _ _ _ hne]
            exact h2
        simp only [wpListIn] at hwp ⊢
        rw [hwt]
        by_cases hw : Region.wanted o' (yielded ops (a.put (some d) v).tmps) = true
        · rw [if_pos hw] at hwp ⊢
          refine ⟨fun f _ => hF.out.fn f, ?_⟩
          have h2 := hwp.2
          rw [Oper.semAt_plain F _ _ (hnd j o' hjo), ← hev] at h2
          rw [Oper.semAt_plain F _ _ (hnd j o' hjo)]
          exact uponIn_sim h2 (fun u w' hh => hnext a.defers u w' hh) (fun x w' hh => hnext (x :: a.defers) undef w' hh)
        · rw [if_neg hw] at hwp ⊢
          exact ⟨fun f _ => hF.out.fn f, hnext a.defers undef w hwp.2⟩
/-- A list without what stands at a place. -/
class EraX (l : List Nat) (k : Nat) (r : outParam (List Nat)) : Prop where h : l.eraseIdx k = r
instance (x : Nat) (r : List Nat) : EraX (x :: r) 0 r := ⟨rfl⟩
instance (x k : Nat) (r r' : List Nat) [h : EraX r k r'] : EraX (x :: r) (k + 1) (x :: r') := ⟨by rw [List.eraseIdx_cons_succ, h.h]⟩
theorem era_head (i : Nat) (r : List Nat) : (i :: r).erase i = r := by simp
theorem era_step {j i : Nat} {r r' : List Nat} (hne : Nat.beq j i = false) (h : r.erase i = r') : (j :: r).erase i = j :: r' := by
  rw [List.erase_cons]
  have : (j == i) = false := by
    simp only [beq_eq_false_iff_ne]
    intro e
    rw [e] at hne
    simp at hne
  rw [this]
  simp [h]
/-- A region in which what is looked at is waited for. -/
def regOk (ops : Array Oper) : Bool := (List.range ops.size).all fun i => match ops[i]? with
  | none => true
  | some o => plainB o && (!edgeB ops i i) && (match o.dst with | none => true | some d => (!(o.looksAt ops).contains d) &&
      ((List.range ops.size).all fun j => Nat.beq j i || (match ops[j]? with | none => true | some o' => o'.dst != some d && (!(o'.looksAt ops).contains d || edgeB ops j i))))
class RegV (ops : Array Oper) : Prop where
  ok : regOk ops = true
  few : ops.size ≤ 300
/-- None of those that are left is waited for. -/
def unbl (rest : List Nat) (aft : Array Edge) : Bool := rest.all fun j => !(aft.any fun e => Region.binds .any e && e.on == j)
section
variable {F : Fence} {n : Nat} {P : Program} {N : Nat} {ds : List Deferred} {w0 : World} {W : Nat → Prop} {σ : List (Nat × Value)} {H HL : List HE} {Q : Exit → Act → World → Prop} {ops : Array Oper} {m : Nat} {rest rest' : List Nat}
theorem RegV.at_ (h : RegV ops) {i : Nat} {o : Oper} (hi : ops[i]? = some o) : plainB o = true ∧ edgeB ops i i = false ∧ ∀ d, o.dst = some d → d ∉ o.looksAt ops ∧ ∀ j o', j ≠ i → ops[j]? = some o' → o'.dst ≠ some d ∧ (d ∈ o'.looksAt ops → edgeB ops j i = true) := by
  have h1 := List.all_eq_true.1 h.ok i (List.mem_range.2 (Array.getElem?_eq_some_iff.1 hi).1)
  rw [hi] at h1
  simp only [Bool.and_eq_true] at h1
  obtain ⟨⟨h1, h2⟩, h3⟩ := h1
  refine ⟨h1, by simpa using h2, fun d hd => ?_⟩
  rw [hd] at h3
  simp only [Bool.and_eq_true] at h3
  obtain ⟨h3, h4⟩ := h3
  refine ⟨by simpa using h3, fun j o' hne hj => ?_⟩
  have h5 := List.all_eq_true.1 h4 j (List.mem_range.2 (Array.getElem?_eq_some_iff.1 hj).1)
  rw [hj] at h5
  have e : Nat.beq j i = false := by
    cases hb : Nat.beq j i with
    | false => rfl
    | true => exact absurd (Nat.eq_of_beq_eq_true hb) hne
  rw [e] at h5
  simp only [Bool.false_or, Bool.and_eq_true] at h5
  refine ⟨by simpa using h5.1, fun hm => ?_⟩
  have h6 := h5.2
  have e3 : (o'.looksAt ops).contains d = true := by simpa using hm
  rw [e3] at h6
  simpa using h6
theorem RegV.lit (h : RegV ops) (hpos : 0 < ops.size) (j : Nat) : litB ops (List.replicate 300 true) j = false := by
  have hm : ∀ k, k < 300 → mAt (List.replicate 300 true) k = true := fun k hk => by
    unfold mAt
    rw [List.getD_eq_getElem?_getD, List.getElem?_replicate, if_pos hk]
    rfl
  cases hc : litB ops (List.replicate 300 true) j with
  | false => rfl
  | true =>
    have hf := h.few
    unfold litB at hc
    cases hj : ops[j]? with
    | none =>
      have h1 := List.all_eq_true.1 hc 0 (List.mem_range.2 hpos)
      rw [hm 0 (by omega)] at h1
      unfold edgeB at h1
      rw [hj] at h1
      simp at h1
    | some o =>
      have hlt := (Array.getElem?_eq_some_iff.1 hj).1
      have h1 := List.all_eq_true.1 hc j (List.mem_range.2 hlt)
      rw [hm j (by omega), (h.at_ hj).2.1] at h1
      simp at h1
theorem look_any {i d : Nat} {o : Oper} {v : Value} [hF : Wide F] [hV : RegV ops] (hio : ops.toList[i]? = some o) (hd : o.dst = some d) (hin : i ∈ rest) (hok : unbl rest o.after = true) (hlen : Nat.ble rest.length (m + 1) = true)
    (hq : (wantd ops σ o = some true ∧ LQ P w0 W HL σ o v) ∨ (wantd ops σ o = some false ∧ v = undef)) (hdN : Nat.blt d N = true) (hs : Sub HL H) (he : rest.erase i = rest')
    (h : J N ds w0 W ((d, v) :: σ) H (wpT F n P w0 W HL ops (List.replicate 300 true) Q m rest')) : J N ds w0 W σ H (wpT F n P w0 W HL ops (List.replicate 300 true) Q (m + 1) rest) := by
  intro a w ha hst
  subst he
  rw [Array.getElem?_toList] at hio
  have hpos : 0 < ops.size := by have := (Array.getElem?_eq_some_iff.1 hio).1; omega
  refine look_core (v := v) (L := look σ) hio hd (fun j o' hj => (hV.at_ hj).1) (fun j o' hne hj => ((hV.at_ hio).2.2 d hd).2 j o' hne hj) (fun a' ha' => ?_) m rest a w hin (Nat.le_of_ble_eq_true hlen) (fun j _ => hV.lit hpos j) (fun j hj t ht hm => ?_) (hst.sub hs) (fun t _ u hu => ha.at_ t u hu) ?_
  · rcases hq with ⟨hw, hl⟩ | ⟨hw, hv⟩
    · refine .inl ⟨wanted_at ha' hw, fun w' hw' => hl _ (fun x hx u hu => ?_) w' hw'⟩
      cases x with
      | tmp t =>
        have := ha' t (List.mem_append_left _ (List.mem_filterMap.2 ⟨.tmp t, hx, rfl⟩)) u hu
        simp [Act.eval, this]
      | const u => simpa [ev, Act.eval] using hu
      | global g => simpa [ev, Act.eval] using hu
      | func f => simpa [ev, Act.eval] using hu
    · exact .inr ⟨wanted_at ha' hw, hv⟩
  · unfold dstAt at ht
    cases hjo : ops[j]? with
    | none => rw [hjo] at ht; cases ht
    | some o' =>
      rw [hjo] at ht
      have ht' : o'.dst = some t := ht
      by_cases hji : j = i
      · subst hji
        rw [hio] at hjo
        injection hjo with e
        subst e
        exact ((hV.at_ hio).2.2 t ht').1 hm
      · have h1 := ((hV.at_ hjo).2.2 t ht').2 i o (fun e => hji e.symm) hio
        have h2 := h1.2 hm
        unfold edgeB at h2
        rw [hio] at h2
        have h3 := List.all_eq_true.1 hok j hj
        simp only at h2
        rw [h2] at h3
        simp at h3
  · exact h _ _ (ha.put d v (by simpa using hdN)) hst
theorem mem_of_get {l : List Nat} {k i : Nat} (h : l[k]? = some i) : i ∈ l := List.mem_of_getElem? h
/-- The operation that stands there in the list of what is left, first. -/
theorem t_look (k : Nat) {i d : Nat} {op : Op} {ty : TypeId} {pos : String} {aft : Array Edge} {gd : Option (Nat × Bool)} {vs : List Value} {v : Value} {c : Prop} [hF : Wide F] [hV : RegV ops] (hk : rest[k]? = some i) (hio : ops.toList[i]? = some ⟨some d, op, ty, pos, aft, gd⟩) (hw : wantd ops σ ⟨some d, op, ty, pos, aft, gd⟩ = some true) (hv : vals σ op.operands.toList = some vs) [hp : LV P w0 W HL op vs v c] (hdN : Nat.blt d N = true) (hlen : Nat.ble rest.length (m + 1) = true) [he : EraX rest k rest'] (hc : c)
    (hok : (unbl rest aft && rest.erase i == rest.eraseIdx k) = true) (hs : Sub HL H) (h : J N ds w0 W ((d, v) :: σ) H (wpT F n P w0 W HL ops (List.replicate 300 true) Q m rest')) : J N ds w0 W σ H (wpT F n P w0 W HL ops (List.replicate 300 true) Q (m + 1) rest) := by
  simp only [Bool.and_eq_true, beq_iff_eq] at hok
  exact look_any hio rfl (mem_of_get hk) hok.1 hlen (.inl ⟨hw, lq_of (vs := vs) (c := c) hv hc⟩) hdN hs (hok.2.trans he.h) h
/-- The same; it is not wanted. -/
theorem t_none (k : Nat) {i d : Nat} {op : Op} {ty : TypeId} {pos : String} {aft : Array Edge} {gd : Option (Nat × Bool)} [hF : Wide F] [hV : RegV ops] (hk : rest[k]? = some i) (hio : ops.toList[i]? = some ⟨some d, op, ty, pos, aft, gd⟩) (hw : wantd ops σ ⟨some d, op, ty, pos, aft, gd⟩ = some false) (hdN : Nat.blt d N = true) (hlen : Nat.ble rest.length (m + 1) = true) [he : EraX rest k rest']
    (hok : (unbl rest aft && rest.erase i == rest.eraseIdx k) = true) (hs : Sub HL H) (h : J N ds w0 W ((d, undef) :: σ) H (wpT F n P w0 W HL ops (List.replicate 300 true) Q m rest')) : J N ds w0 W σ H (wpT F n P w0 W HL ops (List.replicate 300 true) Q (m + 1) rest) := by
  simp only [Bool.and_eq_true, beq_iff_eq] at hok
  exact look_any hio rfl (mem_of_get hk) hok.1 hlen (.inr ⟨hw, rfl⟩) hdN hs (hok.2.trans he.h) h
variable {mask : List Bool}
theorem t_nrm (he : rest = rest') (h : J N ds w0 W σ H (wpT F n P w0 W HL ops mask Q m rest')) : J N ds w0 W σ H (wpT F n P w0 W HL ops mask Q m rest) := by rw [he]; exact h
/-- A region that draws: all of its operations, in each order that may be; what HL holds stays. -/
theorem c_drv {id : Nat} {l : List Oper} (HL : List HE) (r : List Nat) [hF : Wide F] (hs : Sub HL H) (hr : (hvIdx l.toArray (List.replicate l.toArray.size false) == r) = true) (hmx : P.follows .mixedOrders = true) (hok : maskOkX l.toArray (List.replicate l.toArray.size false) = true) (hp : (pvIdx l.toArray (List.replicate l.toArray.size false)).isEmpty = true) (hk : (Nat.ble l.toArray.size 300 && regOk l.toArray) = true)
    (h : RegV l.toArray → J N ds w0 W σ H (wpT F n P w0 W HL l.toArray (List.replicate 300 true) Q r.length r)) : J N ds w0 W σ H ((Code.region id l.toArray true).wpIn F n P Q) :=
  c_drx HL _ r hs (by simpa using hr) hmx hok (by
    simp only [Bool.and_eq_true] at hk
    rw [List.isEmpty_iff.1 hp]
    exact x_nil (t_weak 300 hk.1 (h ⟨hk.2, Nat.le_of_ble_eq_true hk.1⟩)))
theorem t_lit (b0 : Bool) {i j t : Nat} {o : Oper} {b : Bool} {r : List Nat} {k : Act → World → Prop} (hk : rest = i :: r) (hio : ops.toList[i]? = some o) (hg : o.guard = some (j, b)) (ht : (ops[j]?).bind (·.dst) = some t) (hv : look σ t = some (.bool b0)) (h : J N ds w0 W σ H (wpT F n P w0 W HL ops mask Q m rest)) : J N ds w0 W σ H (wpT F n P w0 W HL ops mask Q m rest) := h
/-- A guard that is not known: both ways. -/
theorem t_gd {i j t : Nat} {o : Oper} {b c : Bool} {p : Prop} {r : List Nat} [hb : BoolP c p] (hk : rest = i :: r) (hio : ops.toList[i]? = some o) (hg : o.guard = some (j, b)) (ht : (ops[j]?).bind (·.dst) = some t) (hv : look σ t = some (.bool c))
    (h1 : p → J N ds w0 W ((t, .bool true) :: σ) H (wpT F n P w0 W HL ops mask Q m rest)) (h2 : ¬ p → J N ds w0 W ((t, .bool false) :: σ) H (wpT F n P w0 W HL ops mask Q m rest)) : J N ds w0 W σ H (wpT F n P w0 W HL ops mask Q m rest) := j_dec t hv h1 h2
end
section
variable {P : Program} {w0 : World} {W : Nat → Prop} {H : List HE}
instance (priority := 2500) (t u : TypeId) (x y : Operand) (k : IntKind) (a : Int) : LV P w0 W H (.binOp .eql t x y u) [.int k a, .int k a] (.bool true) True := ⟨fun c => by
  have := LV.h (P := P) (w0 := w0) (W := W) (H := H) (op := .binOp .eql t x y u) (vs := [.int k a, .int k a]) (v := .bool (a == a)) c
  rw [beq_self_eq_true] at this
  exact this⟩
instance (priority := 2500) (t u : TypeId) (x y : Operand) (k : IntKind) (a : Int) : LV P w0 W H (.binOp .neq t x y u) [.int k a, .int k a] (.bool false) True := ⟨fun c => by
  have := LV.h (P := P) (w0 := w0) (W := W) (H := H) (op := .binOp .neq t x y u) (vs := [.int k a, .int k a]) (v := .bool (a != a)) c
  rw [bne_self_eq_false] at this
  exact this⟩
end
end Go.Proofs.Ytokoopdkofgabaa
