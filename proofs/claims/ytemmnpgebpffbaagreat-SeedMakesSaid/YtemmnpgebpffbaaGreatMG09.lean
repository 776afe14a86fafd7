import Derived.Laws.Bits64b
import Derived.Laws.BitsLemmas
import Derived.Laws.Externs
import Derived.Shelf.Spec.BitsCarry
import Derived.Test.YtemmnpgebpffbaaGreatMG08
set_option linter.unusedVariables false
set_option linter.unusedSimpArgs false
/- The engine: a drawn region in two parts: the first in each order that may be, what HL holds stays; behind it, one behind the other, operations that wait for all of the first. -/
namespace Go.Proofs.YtemmnpgebpffbaaGreat
open Go.RowKit
def tailOk (ops : Array Oper) (k : Nat) (xs : List Nat) : Bool := Nat.ble k ops.size && (List.range ops.size).all fun i => Nat.blt i k || (((List.range k).all fun j => xs.contains j || edgeB ops i j) && (Nat.beq i k || edgeB ops i (i - 1)))
theorem litB_none {ops : Array Oper} (i : Nat) : litB ops (List.replicate ops.size false) i = true := by
  unfold litB
  refine List.all_eq_true.2 fun j hj => ?_
  have : mAt (List.replicate ops.size false) j = false := by
    unfold mAt
    rw [List.getD_eq_getElem?_getD, List.getElem?_replicate]
    split <;> rfl
  rw [this]; rfl
section
variable {F : Fence} {n : Nat} {P : Program} {N : Nat} {ds : List Deferred} {w0 : World} {W : Nat → Prop} {σ : List (Nat × Value)} {H HL : List HE} {Q : Exit → Act → World → Prop} {ops : Array Oper}
/-- What comes behind the first part. -/
def tailQ (F : Fence) (n : Nat) (P : Program) (ops : Array Oper) (Q : Exit → Act → World → Prop) (l : List Oper) : Exit → Act → World → Prop := fun _ => wpListIn F n P ops (nq fun _ => Q .normal) l
theorem tail_tree (hb : ∀ i, litB ops (List.replicate ops.size false) i = true) :
    ∀ (t : Nat) (k : Nat), k + t = ops.size → (∀ i, k < i → i < ops.size → edgeB ops i (i - 1) = true) → ∀ (b : Act) (w : World), wpListIn F n P ops (nq fun _ => Q .normal) (ops.toList.drop k) b w → wpT F n P w0 W HL ops (List.replicate ops.size false) Q t (List.range' k t) b w := by
  intro t
  induction t with
  | zero =>
    intro k hk _ b w h
    rw [List.drop_eq_nil_of_le (by rw [Array.length_toList]; omega)] at h
    exact h
  | succ t ih =>
    intro k hk he b w h
    refine ⟨fun e => by simp at e, fun i hi hr => ?_⟩
    have hik : i = k := by
      rcases Nat.lt_or_ge k i with h1 | h1
      · have h2 : i < ops.size := by have := List.mem_range'_1.1 hi; omega
        have h3 := he i h1 h2
        rw [hr (i - 1) (List.mem_range'_1.2 ⟨by omega, by omega⟩)] at h3
        cases h3
      · have := List.mem_range'_1.1 hi; omega
    subst hik
    have hlt : i < ops.size := by omega
    have e1 : ops.toList.drop i = ops[i] :: ops.toList.drop (i + 1) := by
      rw [List.drop_eq_getElem_cons (by rw [Array.length_toList]; exact hlt)]; rfl
    have e2 : (List.range' i (t + 1)).erase i = List.range' (i + 1) t := by rw [List.range'_succ]; simp
    have hopsAt : opsAt ops [i] = [ops[i]] := by simp [opsAt, hlt]
    rw [hopsAt, e2]
    rw [e1] at h
    have hnext : ∀ (c : Act) (w' : World), wpListIn F n P ops (nq fun _ => Q .normal) (ops.toList.drop (i + 1)) c w' → wpListIn F n P ops (nq fun _ b'' w'' => (litB ops (List.replicate ops.size false) i = true ∨ St w0 W HL w'') ∧ wpT F n P w0 W HL ops (List.replicate ops.size false) Q t (List.range' (i + 1) t) b'' w'') [] c w' :=
      fun c w' hh => ⟨.inl (hb i), ih (i + 1) (by omega) (fun j h1 h2 => he j (by omega) h2) c w' hh⟩
    simp only [wpListIn] at h ⊢
    by_cases hw : Region.wanted ops[i] (yielded ops b.tmps) = true
    · rw [if_pos hw] at h ⊢
      exact ⟨h.1, uponIn_sim h.2 (fun u w' hh => hnext _ w' hh) (fun x w' hh => hnext _ w' hh)⟩
    · rw [if_neg hw] at h ⊢
      exact ⟨h.1, hnext _ w h.2⟩
/-- Operations that only take a result of a call, and that nobody behind the seam waits for. -/
def exB (ops : Array Oper) (xs : List Nat) : Bool := xs.all fun i => match ops[i]? with
  | some o => (match o.op, o.guard, o.dst with | .extract _ _, none, some _ => true | _, _, _ => false) && xs.all fun j => !edgeB ops i j
  | none => false
theorem ext_run {x : Operand} {c : Nat} {o : Oper} (ho : o.op = .extract x c) (ρ : Operand → Value) : (∃ vs : Array Value, ∃ v, ρ x = .tuple vs ∧ vs[c]? = some v) ∨ ∀ (w : World) (a : Act) (K : Act → World → Prop) (Q : Exit → Act → World → Prop), ¬ o.uponIn F n P a K Q ((execOp ρ o).run P w) := by
  cases hx : ρ x with
  | tuple vs =>
    cases hv : vs[c]? with
    | some v => exact .inl ⟨vs, v, rfl, hv⟩
    | none => exact .inr fun w a K Q h => by simp [execOp, ho, hx, Instr.extract, hv] at h; exact h
  | _ => exact .inr fun w a K Q h => by simp [execOp, ho, hx, Instr.extract] at h; exact h
theorem head_tree [hF : Wide F] {k : Nat} (xs : List Nat) (hk : k ≤ ops.size) (hV : RegV ops) (hbk : ∀ i j, edgeB ops i j = true → j < i) (hb : ∀ i, litB ops (List.replicate ops.size false) i = true) (hex : exB ops xs = true) (hw1 : ∀ i j, k ≤ i → i < ops.size → j < k → j ∉ xs → edgeB ops i j = true) (hch : ∀ i, k < i → i < ops.size → edgeB ops i (i - 1) = true) {mask : List Bool} :
    ∀ (m : Nat) (rest : List Nat) (b : Act) (w : World), rest.length ≤ m → rest.Nodup → (∀ i ∈ rest, i < k) → wpT F n P w0 W HL ops mask (tailQ F n P ops Q (ops.toList.drop k)) m rest b w → wpT F n P w0 W HL ops (List.replicate ops.size false) Q (rest.length + (ops.size - k)) (rest ++ List.range' k (ops.size - k)) b w := by
  intro m
  induction m with
  | zero =>
    intro rest b w hl hnd hr h
    obtain rfl : rest = [] := List.length_eq_zero_iff.1 (by omega)
    rw [List.length_nil, Nat.zero_add, List.nil_append]
    exact tail_tree hb _ k (by omega) hch b w h
  | succ m ih =>
    intro rest b w hl hnd hr h
    cases hrest : rest with
    | nil =>
      subst hrest
      rw [List.length_nil, Nat.zero_add, List.nil_append]
      exact tail_tree hb _ k (by omega) hch b w (wpT_nil h)
    | cons x r =>
      rw [← hrest]
      have hne : rest ≠ [] := by rw [hrest]; simp
      have hx : x ∈ rest := by rw [hrest]; exact List.mem_cons_self ..
      have hlen : ∀ i ∈ rest, (rest.erase i).length + 1 = rest.length := fun i hi => by have := List.length_erase_of_mem hi; have := List.length_pos_of_mem hi; omega
      have hll : ∀ i ∈ rest, (rest.erase i).length ≤ m := fun i hi => by have := hlen i hi; omega
      have hrr : ∀ i, ∀ j ∈ rest.erase i, j < k := fun i j hj => hr j (List.mem_of_mem_erase hj)
      by_cases hall : ∀ j ∈ rest, j ∈ xs
      · -- all that are left take results
        have hxx := List.all_eq_true.1 hex x (hall x hx)
        cases hio : ops[x]? with
        | none => rw [hio] at hxx; cases hxx
        | some o =>
          rw [hio] at hxx
          simp only [Bool.and_eq_true] at hxx
          obtain ⟨hsh, hne2⟩ := hxx
          have hready : ∀ j ∈ rest, edgeB ops x j = false := fun j hj => by
            have := List.all_eq_true.1 hne2 j (hall j hj)
            simpa using this
          have hwp := h.2 x hx hready
          have hopsAt : opsAt ops [x] = [o] := by simp [opsAt, hio]
          rw [hopsAt] at hwp
          cases hop : o.op with
          | extract y c =>
            cases hg : o.guard with
            | some g => rw [hop, hg] at hsh; cases hsh
            | none =>
              cases hd : o.dst with
              | none => rw [hop, hg, hd] at hsh; cases hsh
              | some d =>
                have hwt : ∀ a : Act, Region.wanted o (yielded ops a.tmps) = true := fun a => by unfold Region.wanted; rw [hg]
                have hndf : ∀ c, o.op ≠ .defer c := fun c e => by rw [hop] at e; cases e
                simp only [wpListIn] at hwp
                rw [if_pos (hwt b)] at hwp
                have h2 := hwp.2
                rw [Oper.semAt_plain F _ _ hndf] at h2
                rcases ext_run (F := F) (n := n) (P := P) hop b.eval with ⟨vs, v, hy, hv⟩ | hbad
                · have hrun : ∀ a : Act, a.eval y = .tuple vs → ∀ w, (execOp a.eval o).run P w = .ok (.value v) w := fun a ha w => by simp [execOp, hop, ha, Instr.extract, hv]
                  rw [hrun b hy w, Oper.uponIn_value, hd] at h2
                  have h3 := ih _ _ _ (hll x hx) (hnd.erase x) (hrr x) h2.2
                  have hlx := hlen x hx
                  rw [show rest.length + (ops.size - k) = ((rest.erase x).length + (ops.size - k)) + 1 by omega]
                  have hAt := hV.at_ hio
                  refine pick_core (v := v) (L := fun t => b.tmps[t]?) hio hd (fun j o' hj => (hV.at_ hj).1) (fun j o' hj hjo => (hAt.2.2 d hd).2 j o' hj hjo) (fun a ha => ⟨hwt a, hrun a ?_⟩) _ _ b w (List.mem_append_left _ hx) (by rw [List.length_append, List.length_range']; omega) (fun _ _ _ => hb x) (fun j hj t ht hm => ?_) (.inl (hb x)) (fun t _ u hu => hu) ?_
                  · cases y with
                    | tmp t =>
                      have hl : t ∈ o.looksAt ops := List.mem_append_left _ (List.mem_filterMap.2 ⟨.tmp t, by rw [hop]; simp [Op.operands], rfl⟩)
                      cases hb' : b.tmps[t]? with
                      | none =>
                        have hy' : b.tmps.getD t undef = .tuple vs := hy
                        rw [Array.getD_eq_getD_getElem?, hb'] at hy'
                        have : vs = #[] := by injection hy' with e; exact e.symm
                        subst this
                        simp at hv
                      | some u =>
                        have hy' : b.tmps.getD t undef = .tuple vs := hy
                        rw [Array.getD_eq_getD_getElem?, hb'] at hy'
                        show a.tmps.getD t undef = .tuple vs
                        rw [Array.getD_eq_getD_getElem?, ha t hl u hb']
                        exact hy'
                    | const u => exact hy
                    | global g => exact hy
                    | func f => exact hy
                  · have hj2 : ∃ o', ops[j]? = some o' ∧ o'.dst = some t := by
                      unfold dstAt at ht
                      cases hjo : ops[j]? with
                      | none => rw [hjo] at ht; cases ht
                      | some o' => rw [hjo] at ht; exact ⟨o', rfl, ht⟩
                    obtain ⟨o', hjo, hjd⟩ := hj2
                    by_cases hjx : j = x
                    · subst hjx
                      rw [hio] at hjo; injection hjo with e; subst e
                      exact (hAt.2.2 t hjd).1 hm
                    · have h5 := (((hV.at_ hjo).2.2 t hjd).2 x o (fun e => hjx e.symm) hio).2 hm
                      rcases List.mem_append.1 hj with h6 | h6
                      · rw [hready j h6] at h5; cases h5
                      · have h7 := hbk x j h5
                        have h8 := List.mem_range'_1.1 h6
                        have := hr x hx
                        omega
                  · rw [List.erase_append_left _ hx]
                    exact h3
                · exact absurd h2 (hbad w b _ _)
          | _ => rw [hop] at hsh; cases hsh
      · rw [Classical.not_forall] at hall
        obtain ⟨z, hz⟩ := hall
        rw [Classical.not_imp] at hz
        have hx1 := hlen x hx
        rw [show rest.length + (ops.size - k) = ((rest.erase x).length + (ops.size - k)) + 1 by omega]
        refine ⟨fun e => absurd (List.append_eq_nil_iff.1 e).1 hne, fun i hi hrd => ?_⟩
        have hir : i ∈ rest := by
          rcases List.mem_append.1 hi with h1 | h1
          · exact h1
          · have h2 := List.mem_range'_1.1 h1
            have h3 := hw1 i z (by omega) (by omega) (hr z hz.1) hz.2
            rw [hrd z (List.mem_append_left _ hz.1)] at h3
            cases h3
        have hwp := h.2 i hir (fun j hj => hrd j (List.mem_append_left _ hj))
        have e1 := hlen i hir
        rw [List.erase_append_left _ hir, show (rest.erase x).length = (rest.erase i).length by omega]
        cases hio : ops[i]? with
        | none =>
          have hopsAt : opsAt ops [i] = [] := by simp [opsAt, hio]
          rw [hopsAt] at hwp ⊢
          exact ⟨.inl (hb i), ih _ _ _ (hll i hir) (hnd.erase i) (hrr i) hwp.2⟩
        | some o' =>
          have hopsAt : opsAt ops [i] = [o'] := by simp [opsAt, hio]
          rw [hopsAt] at hwp ⊢
          simp only [wpListIn] at hwp ⊢
          by_cases hw : Region.wanted o' (yielded ops b.tmps) = true
          · rw [if_pos hw] at hwp ⊢
            exact ⟨hwp.1, uponIn_sim hwp.2 (fun u w' hh => ⟨.inl (hb i), ih _ _ _ (hll i hir) (hnd.erase i) (hrr i) hh.2⟩) (fun x w' hh => ⟨.inl (hb i), ih _ _ _ (hll i hir) (hnd.erase i) (hrr i) hh.2⟩)⟩
          · rw [if_neg hw] at hwp ⊢
            exact ⟨hwp.1, .inl (hb i), ih _ _ _ (hll i hir) (hnd.erase i) (hrr i) hwp.2.2⟩
/-- THE RULE: the first k operations in each order; the rest behind them. -/
theorem c_drp2 {id : Nat} {l : List Oper} (HL : List HE) (xs : List Nat) (k : Nat) (r : List Nat) [hF : Wide F] (hs : Sub HL H) (hr : (List.range k == r) = true) (hmx : P.follows .mixedOrders = true) (hok : maskOkX l.toArray (List.replicate l.toArray.size false) = true) (hp : (pvIdx l.toArray (List.replicate l.toArray.size false)).isEmpty = true) (hv : (hvIdx l.toArray (List.replicate l.toArray.size false) == List.range l.toArray.size) = true) (hk : (Nat.ble l.toArray.size 300 && regOk l.toArray) = true) (ht : (tailOk l.toArray k xs && exB l.toArray xs) = true)
    (h : RegV l.toArray → J N ds w0 W σ H (wpT F n P w0 W HL l.toArray (List.replicate 300 true) (tailQ F n P l.toArray Q (l.drop k)) r.length r)) : J N ds w0 W σ H ((Code.region id l.toArray true).wpIn F n P Q) :=
  c_drx HL _ (List.range l.toArray.size) hs (by simpa using hv) hmx hok (by
    simp only [Bool.and_eq_true] at hk
    have hV : RegV l.toArray := ⟨hk.2, Nat.le_of_ble_eq_true hk.1⟩
    rw [List.isEmpty_iff.1 hp]
    refine x_nil ?_
    have e : List.range k = r := by simpa using hr
    subst e
    unfold tailOk at ht
    simp only [Bool.and_eq_true] at ht
    obtain ⟨⟨hkl, ht⟩, hex⟩ := ht
    have hkl : k ≤ l.toArray.size := Nat.le_of_ble_eq_true hkl
    have hbk : ∀ i j, edgeB l.toArray i j = true → j < i := by
      intro i j he
      unfold maskOkX at hok
      simp only [Bool.and_eq_true] at hok
      have hi : i < l.toArray.size := by
        rcases Nat.lt_or_ge i l.toArray.size with h1 | h1
        · exact h1
        · unfold edgeB at he; rw [Array.getElem?_eq_none h1] at he; cases he
      have h1 := List.all_eq_true.1 hok.1.2 i (List.mem_range.2 hi)
      unfold backB at h1
      unfold edgeB at he
      rw [Array.getElem?_eq_getElem hi] at h1 he
      simp only [Array.any_eq_true] at he
      obtain ⟨q, hq, he⟩ := he
      simp only [Bool.and_eq_true, beq_iff_eq] at he
      have h2 := (Array.all_eq_true.1 h1) q hq
      rw [he.1, ← he.2] at *
      simpa [he.1] using h2
    have hw1 : ∀ i j, k ≤ i → i < l.toArray.size → j < k → j ∉ xs → edgeB l.toArray i j = true := by
      intro i j h1 h2 h3 hx
      have h4 := List.all_eq_true.1 ht i (List.mem_range.2 h2)
      have e : Nat.blt i k = false := by
        cases hb : Nat.blt i k with
        | false => rfl
        | true => exact absurd (show i < k by simpa using hb) (by omega)
      rw [e, Bool.false_or, Bool.and_eq_true] at h4
      have h5 := List.all_eq_true.1 h4.1 j (List.mem_range.2 h3)
      have e2 : xs.contains j = false := by simpa using hx
      rw [e2, Bool.false_or] at h5
      exact h5
    have hch : ∀ i, k < i → i < l.toArray.size → edgeB l.toArray i (i - 1) = true := by
      intro i h1 h2
      have h4 := List.all_eq_true.1 ht i (List.mem_range.2 h2)
      have e : Nat.blt i k = false := by
        cases hb : Nat.blt i k with
        | false => rfl
        | true => exact absurd (show i < k by simpa using hb) (by omega)
      have e2 : Nat.beq i k = false := by
        cases hb : Nat.beq i k with
        | false => rfl
        | true => have := Nat.eq_of_beq_eq_true hb; omega
      rw [e, Bool.false_or, Bool.and_eq_true, e2, Bool.false_or] at h4
      exact h4.2
    intro a w ha hst
    have h5 := head_tree (F := F) (n := n) (P := P) (w0 := w0) (W := W) (HL := HL) (Q := Q) (ops := l.toArray) xs hkl hV hbk (fun i => litB_none i) hex hw1 hch k (List.range k) a w (by simp) List.nodup_range (fun i hi => List.mem_range.1 hi) (by
      have h6 := h hV a w ha hst
      rw [List.length_range] at h6
      exact h6)
    rw [List.length_range, show k + (l.toArray.size - k) = l.toArray.size by omega] at h5
    rw [List.length_range]
    have e3 : List.range k ++ List.range' k (l.toArray.size - k) = List.range l.toArray.size := by
      rw [List.range_eq_range', List.range_eq_range']
      have := List.range'_append_1 (s := 0) (m := k) (n := l.toArray.size - k)
      rw [Nat.zero_add, Nat.add_sub_cancel' hkl] at this
      exact this
    rw [e3] at h5
    exact h5)
theorem c_dp {id : Nat} {l : List Oper} (xs : List Nat) (k : Nat) (r : List Nat) [hF : Wide F] (h : RegV l.toArray → J N ds w0 W σ H (wpT F n P w0 W H l.toArray (List.replicate 300 true) (tailQ F n P l.toArray Q (l.drop k)) r.length r)) (hr : (List.range k == r) = true := by decide +kernel) (hmx : P.follows .mixedOrders = true := by decide) (hok : maskOkX l.toArray (List.replicate l.toArray.size false) = true := by decide +kernel) (hp : (pvIdx l.toArray (List.replicate l.toArray.size false)).isEmpty = true := by decide +kernel) (hv : (hvIdx l.toArray (List.replicate l.toArray.size false) == List.range l.toArray.size) = true := by decide +kernel) (hk : (Nat.ble l.toArray.size 300 && regOk l.toArray) = true := by decide +kernel) (ht : (tailOk l.toArray k xs && exB l.toArray xs) = true := by decide +kernel) :
    J N ds w0 W σ H ((Code.region id l.toArray true).wpIn F n P Q) := c_drp2 H xs k r (Sub.refl _) hr hmx hok hp hv hk ht h
theorem c_dv {id : Nat} {l : List Oper} (r : List Nat) [hF : Wide F] (h : RegV l.toArray → J N ds w0 W σ H (wpT F n P w0 W H l.toArray (List.replicate 300 true) Q r.length r)) (hr : (hvIdx l.toArray (List.replicate l.toArray.size false) == r) = true := by decide +kernel) (hmx : P.follows .mixedOrders = true := by decide) (hok : maskOkX l.toArray (List.replicate l.toArray.size false) = true := by decide +kernel) (hp : (pvIdx l.toArray (List.replicate l.toArray.size false)).isEmpty = true := by decide +kernel) (hk : (Nat.ble l.toArray.size 300 && regOk l.toArray) = true := by decide +kernel) : J N ds w0 W σ H ((Code.region id l.toArray true).wpIn F n P Q) := c_drv H r (Sub.refl _) hr hmx hok hp hk h
theorem c_dvL {id : Nat} {l : List Oper} (HL : List HE) (r : List Nat) [hF : Wide F] (hs : Sub HL H) (h : RegV l.toArray → J N ds w0 W σ H (wpT F n P w0 W HL l.toArray (List.replicate 300 true) Q r.length r)) (hr : (hvIdx l.toArray (List.replicate l.toArray.size false) == r) = true := by decide +kernel) (hmx : P.follows .mixedOrders = true := by decide) (hok : maskOkX l.toArray (List.replicate l.toArray.size false) = true := by decide +kernel) (hp : (pvIdx l.toArray (List.replicate l.toArray.size false)).isEmpty = true := by decide +kernel) (hk : (Nat.ble l.toArray.size 300 && regOk l.toArray) = true := by decide +kernel) : J N ds w0 W σ H ((Code.region id l.toArray true).wpIn F n P Q) := c_drv HL r hs hr hmx hok hp hk h
theorem c_dpL {id : Nat} {l : List Oper} (xs : List Nat) (k : Nat) (r : List Nat) (HL : List HE) [hF : Wide F] (hs : Sub HL H) (h : RegV l.toArray → J N ds w0 W σ H (wpT F n P w0 W HL l.toArray (List.replicate 300 true) (tailQ F n P l.toArray Q (l.drop k)) r.length r)) (hr : (List.range k == r) = true := by decide +kernel) (hmx : P.follows .mixedOrders = true := by decide) (hok : maskOkX l.toArray (List.replicate l.toArray.size false) = true := by decide +kernel) (hp : (pvIdx l.toArray (List.replicate l.toArray.size false)).isEmpty = true := by decide +kernel) (hv : (hvIdx l.toArray (List.replicate l.toArray.size false) == List.range l.toArray.size) = true := by decide +kernel) (hk : (Nat.ble l.toArray.size 300 && regOk l.toArray) = true := by decide +kernel) (ht : (tailOk l.toArray k xs && exB l.toArray xs) = true := by decide +kernel) :
    J N ds w0 W σ H ((Code.region id l.toArray true).wpIn F n P Q) := c_drp2 HL xs k r hs hr hmx hok hp hv hk ht h
theorem t_tail {rest : List Nat} {mask : List Bool} {l : List Oper} (h : J N ds w0 W σ H (wpListIn F n P ops (nq fun _ => Q .normal) l)) : J N ds w0 W σ H (wpT F n P w0 W HL ops mask (tailQ F n P ops Q l) 0 rest) := h
instance {k : Act → World → Prop} : CC (nq (fun _ => k) .normal) k := ⟨fun h => h⟩
end
end Go.Proofs.YtemmnpgebpffbaaGreat
/- The engine: a part of a block copied over; an array's address as a slice. -/
namespace Go.Proofs.YtemmnpgebpffbaaGreat
open Go.RowKit
section
variable {P : Program} {w0 : World} {W : Nat → Prop} {H : List HE}
instance (t e m b q sz : Nat) (x : Operand) [hu : Und P t (.array m e)] [hI : SzI P e sz] : MS P w0 W H (.slice t x none none none) [.pointer (some ⟨b, q, none⟩)] (.slice (some ⟨b, q, none⟩) m m) True :=
  ⟨fun _ _ _ _ _ _ _ _ _ _ _ _ _ _ h1 h2 h3 => o_val (by simp) rfl h2 (fun a w ha _ => by
    have p1 := opnds1 rfl h1
    have g1 := hu.h
    obtain ⟨ii, g2, g3⟩ := hI.h
    simp [execOp, ha.eval p1, Instr.sliceAt, Instr.sliceBounds, run_underlying g1, sizeOf, typeInfo, g2, Instr.sureAddr]
    intro _
    simp [Addr.add]) h3⟩
end
theorem r_copyB {F : Fence} {P : Program} {n N : Nat} {ds : List Deferred} {w0 : World} {W : Nat → Prop} {H : List HE} {σ : List (Nat × Value)} {d : Nat} {ty : TypeId} {pos : String} {aft : Array Edge} {gd : Option (Nat × Bool)} {K : Act → World → Prop} {Q : Exit → Act → World → Prop} [hF : Wide F] {t e bs g o dl dc j tb : Nat} {z u : Value} {k : IntKind} {cs : List Value} {ys : List Int} {x y : Operand} {kk : HE → List HE} [Und P t (.slice e)] [hI : Inf P e 1 bs z]
    [hb : At g H tb cs kk] [hs : SrcC w0 W H e 1 u j (ints k ys)] (hv : vals σ [x, y] = some [.slice (some ⟨g, o, none⟩) dl dc, u]) (hc : 0 < j ∧ j ≤ dl ∧ o + j ≤ cs.length) (hdN : Nat.blt d N = true)
    (h : J N ds w0 W ((d, .int .i64 j) :: σ) (kk (.blk g tb (cs.take o ++ ints k ys ++ cs.drop (o + j)))) K) : OJ F n P N ds w0 W σ H ⟨some d, .call ⟨.builtin .copy, #[x, y], #[t, t]⟩, ty, pos, aft, gd⟩ K Q := by
  obtain ⟨R, h2, h3⟩ := hb.h
  intro a w ha hw
  obtain ⟨p, q⟩ := vals2 hv
  obtain ⟨A', c', rfl, -, -, e2, e3⟩ := hs.h w hw
  have hyl : ys.length = j := by simpa using e2
  have hg : w.heap[g]? = some (.cells cs.toArray tb (0, 0)) := hw.has h2
  have hinf : (P.info? e).map (·.size) = some 1 := Inf.size (z := z) (bs := bs)
  have hut := Und.h (P := P) (t := t)
  obtain ⟨b', off', rfl, hcell⟩ := e3 hc.1
  have hrun := run_copy_row P w t t ty e g o dl dc ⟨b', off', none⟩ j c' cs.toArray tb (ints k ys) hut hinf hg (by rw [ints_len, hyl]; exact (Nat.min_eq_left hc.2.1).symm) (fun q v hq => by rw [add_none]; exact hcell q v hq w hw) (by rw [ints_len, hyl]; simpa using hc.2.2) (by
    intro v hv
    obtain ⟨x, -, rfl⟩ := List.mem_map.1 hv
    rfl)
  rw [ints_len, hyl] at hrun
  refine ⟨fun f _ => hF.out.fn f, ?_⟩
  rw [Oper.semAt_plain F _ _ (by simp)]
  simp only [execOp, resolve, invoke, builtin, Sem.run_bind, Sem.run_pure, Result.andThen_ok, List.map_toArray, List.map_cons, List.map_nil, ha.eval p, ha.eval q, hrun, Oper.uponIn_value]
  refine h _ _ (ha.put d _ (by simpa using hdN)) ?_
  have hst : St w0 W (.blk g tb (cs.take o ++ ints k ys ++ cs.drop (o + j)) :: R) (w.setRow g (cs.take o ++ ints k ys ++ cs.drop (o + j)).toArray) := by
    refine hw.turn h2 ?_ rfl rfl rfl (by simp) (fun b _ hk => setRow_other _ _ _ _ (fun e => hk (by rw [e]; rfl))) (.inl rfl)
    exact setRow_heap w g _ _ tb _ hg
  exact hst.sub (h3 _)
theorem lcpB {F : Fence} {P : Program} {n N : Nat} {ds : List Deferred} {w0 : World} {W : Nat → Prop} {H : List HE} {σ : List (Nat × Value)} {ops : Array Oper} {rest : List Oper} {d : Nat} {ty : TypeId} {pos : String} {aft : Array Edge} {gd : Option (Nat × Bool)} {Q : Exit → Act → World → Prop} [Wide F] {t e bs g o dl dc j tb : Nat} {z u : Value} {k : IntKind} {cs : List Value} {ys : List Int} {x y : Operand} {kk : HE → List HE} [Und P t (.slice e)] [Inf P e 1 bs z]
    (hw : wantd ops σ ⟨some d, .call ⟨.builtin .copy, #[x, y], #[t, t]⟩, ty, pos, aft, gd⟩ = some true) (hv : vals σ [x, y] = some [.slice (some ⟨g, o, none⟩) dl dc, u]) [hb : At g H tb cs kk] [hs : SrcC w0 W H e 1 u j (ints k ys)] (hc : 0 < j ∧ j ≤ dl ∧ o + j ≤ cs.length) (hdN : Nat.blt d N = true)
    (h : J N ds w0 W ((d, .int .i64 j) :: σ) (kk (.blk g tb (cs.take o ++ ints k ys ++ cs.drop (o + j)))) (wpListIn F n P ops Q rest)) :
    J N ds w0 W σ H (wpListIn F n P ops Q (⟨some d, .call ⟨.builtin .copy, #[x, y], #[t, t]⟩, ty, pos, aft, gd⟩ :: rest)) := l_run hw (r_copyB (z := z) (bs := bs) hv hc hdN h)
instance : SzI Tryz.prog 92 1 := ⟨Tryz.t92, by kernel_rfl, by kernel_rfl⟩
theorem slotsE_over : ∀ {l : List Slt} (_ : Slts l) (i j : Nat) (vs : List Value) (s' : Slt), i < l.length → j + vs.length ≤ 259 → (sltE (l.getD i default)).take j ++ vs ++ (sltE (l.getD i default)).drop (j + vs.length) = sltE s' → (slotsE l).take (i * 259 + j) ++ vs ++ (slotsE l).drop (i * 259 + j + vs.length) = slotsE (l.set i s')
  | [], _, i, j, vs, s', hi, _, _ => by simp at hi
  | s :: r, h, 0, j, vs, s', _, hj, e => by
    have h1 := sltE_len (h s (List.mem_cons_self ..))
    have e' : (sltE s).take j ++ vs ++ (sltE s).drop (j + vs.length) = sltE s' := e
    unfold slotsE
    rw [List.set_cons_zero, List.flatMap_cons, List.flatMap_cons, Nat.zero_mul, Nat.zero_add, List.take_append_of_le_length (by omega), List.drop_append_of_le_length (by omega), ← e', List.append_assoc, List.append_assoc, List.append_assoc]
  | s :: r, h, i + 1, j, vs, s', hi, hj, e => by
    have h1 := sltE_len (h s (List.mem_cons_self ..))
    have ih := slotsE_over (l := r) (fun x hx => h x (List.mem_cons_of_mem _ hx)) i j vs s' (by simpa using hi) hj e
    unfold slotsE at ih ⊢
    rw [List.set_cons_succ, List.flatMap_cons, List.flatMap_cons, ← ih, List.take_append, List.drop_append, List.take_of_length_le (by omega), List.drop_eq_nil_of_le (by omega), List.nil_append, h1, show (i + 1) * 259 + j - 259 = i * 259 + j by omega, show (i + 1) * 259 + j + vs.length - 259 = i * 259 + j + vs.length by omega, List.append_assoc, List.append_assoc, List.append_assoc]
section
variable {pre : List Value} {l : List Slt} {room clock met miss : Int}
theorem cacheE_setZ (hp : pre.length = 9) (hl : Slts l) {i : Nat} (hi : i < l.length) {zs : List Int} (hz : zs.length ≤ 256) : (cacheE pre l room clock met miss).take (9 + i * 259 + 2) ++ ints .i16 zs ++ (cacheE pre l room clock met miss).drop (9 + i * 259 + 2 + zs.length) = cacheE pre (l.set i { l.getD i default with z := zs ++ (l.getD i default).z.drop zs.length }) room clock met miss := by
  have hs := slotsE_len hl
  have hm : (l.getD i default).z.length = 256 := hl _ (by rw [List.getD_eq_getElem?_getD, List.getElem?_eq_getElem hi]; exact List.getElem_mem ..)
  have e := slotsE_over hl i 2 (ints .i16 zs) { l.getD i default with z := zs ++ (l.getD i default).z.drop zs.length } hi (by rw [ints_len]; omega) (by
    generalize l.getD i default = s at *
    rw [ints_len]
    unfold sltE
    rw [show 2 + zs.length = zs.length + 1 + 1 by omega, List.take_succ_cons, List.take_succ_cons, List.take_zero, List.drop_succ_cons, List.drop_succ_cons, List.drop_append_of_le_length (by rw [ints_len]; omega), ints_drop]
    simp [ints])
  rw [ints_len] at e
  unfold cacheE
  rw [← e, List.take_append, List.take_of_length_le (by omega), hp, show 9 + i * 259 + 2 - 9 = i * 259 + 2 by omega, List.take_append_of_le_length (by omega), List.drop_append, List.drop_eq_nil_of_le (by omega), List.nil_append, hp, show 9 + i * 259 + 2 + zs.length - 9 = i * 259 + 2 + zs.length by omega, List.drop_append_of_le_length (by omega)]
  simp only [List.append_assoc]
end
end Go.Proofs.YtemmnpgebpffbaaGreat
/- Package cache: get (under way). -/
namespace Go.Proofs.YtemmnpgebpffbaaGreat
open Go.RowKit
/-- A cache's first cells: its bytes, its directory. -/
abbrev preC (ys : List Int) (A : Option Addr) (c : Nat) (A1 : Option Addr) (c1 : Nat) (A2 : Option Addr) (c2 : Nat) : List Value := [.slice A ys.length c, .int .i64 (wY ys : Nat), .int .i64 (hY ys : Nat), .slice none 0 0, .int .i64 (cellY ys : Nat), .int .i32 (i32N (leY ys 10 4)), .int .i32 (i32N (leY ys 14 4)), .slice A1 (atL ys (nY ys)).length c1, .slice A2 (szL ys (nY ys)).length c2]
/-- Which slot is oldest. -/
def OldestK (l : List Slt) (room k : Nat) : Prop := ((l.getD k default).t < 0 ∧ ∀ j, j < k → 0 ≤ (l.getD j default).t) ∨ ((∀ j, j < room → 0 ≤ (l.getD j default).t) ∧ k = oldTo l room)
/-- What get comes to. -/
def GetsC (ys : List Int) (l : List Slt) (room : Nat) (clock met miss : Int) (n k : Nat) (l' : List Slt) (met' miss' : Int) : Prop :=
  ((l.getD k default).t = n ∧ (∀ j, j < k → (l.getD j default).t ≠ n) ∧ l' = l.set k { l.getD k default with u := clock + 1 } ∧ met' = met + 1 ∧ miss' = miss) ∨
  ((∀ j, j < room → (l.getD j default).t ≠ n) ∧ OldestK l room k ∧ (∃ zs, TilOk ys n zs ∧ l' = l.set k ⟨n, (tilW (wY ys) (hY ys) n : Nat), zs ++ (l.getD k default).z.drop zs.length, clock + 1⟩) ∧ met' = met ∧ miss' = miss + 1)
theorem getD_set_self {l : List Slt} {i : Nat} {s : Slt} (h : i < l.length) : (l.set i s).getD i default = s := by simp [List.getD_eq_getElem?_getD, h]
instance {pre : List Value} {l : List Slt} {room clock met miss : Int} {q : Nat} {v : Value} [h : Get pre q v] : Get (cacheE pre l room clock met miss) q v := ⟨by
  have hq : q < pre.length := by
    rcases Nat.lt_or_ge q pre.length with h1 | h1
    · exact h1
    · exact absurd h.h (by rw [List.getElem?_eq_none h1]; simp)
  unfold cacheE
  rw [List.getElem?_append_left hq]; exact h.h⟩
attribute [local irreducible] OJ J HdJ Code.wpIn wpListIn Oper.wpIn bodyPost CallsIn Does
set_option maxRecDepth 4000
set_option maxHeartbeats 64000000 in
theorem getc_any (g : Nat) (ys : List Int) (A A1 A2 : Option Addr) (c c1 c2 : Nat) (l : List Slt) (room tn : Nat) (clock met miss : Int) (w : World) (hown : Own [.blk g 158 (cacheE (preC ys A c A1 c1 A2 c2) l room clock met miss), .row (.slice A ys.length c) 5 1 ys.length (ints .u8 ys), .row (.slice A1 (atL ys (nY ys)).length c1) 3 1 (atL ys (nY ys)).length (ints .i64 (atL ys (nY ys))), .row (.slice A2 (szL ys (nY ys)).length c2) 3 1 (szL ys (nY ys)).length (ints .i64 (szL ys (nY ys)))] w)
    (hl : Slts l) (h32 : l.length = 32) (hr : 1 ≤ room ∧ room ≤ 32) (hcl : (0 ≤ clock ∧ clock ≤ 1000000000000000000) ∧ (0 ≤ met ∧ met ≤ 1000000000000000000) ∧ (0 ≤ miss ∧ miss ≤ 1000000000000000000)) (hu : U8s ys) (hm : ys.length < 100000000) (hO : Opens ys) (hn : tn < nY ys) (hg : ∀ i, i < nY ys → ∃ z, TilOk ys i z) :
    Does Tryz.prog 131 [.pointer (some ⟨g, 0, none⟩), .int .i64 tn] [.blk g 158 (cacheE (preC ys A c A1 c1 A2 c2) l room clock met miss), .row (.slice A ys.length c) 5 1 ys.length (ints .u8 ys), .row (.slice A1 (atL ys (nY ys)).length c1) 3 1 (atL ys (nY ys)).length (ints .i64 (atL ys (nY ys))), .row (.slice A2 (szL ys (nY ys)).length c2) 3 1 (szL ys (nY ys)).length (ints .i64 (szL ys (nY ys)))] w
      (fun v S' => ∃ k l' met' miss', k < room ∧ v = .pointer (some ⟨g, 9 + k * 259, none⟩) ∧ GetsC ys l room clock met miss tn k l' met' miss' ∧ S' = [.blk g 158 (cacheE (preC ys A c A1 c1 A2 c2) l' room (clock + 1) met' miss'), .row (.slice A ys.length c) 5 1 ys.length (ints .u8 ys), .row (.slice A1 (atL ys (nY ys)).length c1) 3 1 (atL ys (nY ys)).length (ints .i64 (atL ys (nY ys))), .row (.slice A2 (szL ys (nY ys)).length c2) 3 1 (szL ys (nY ys)).length (ints .i64 (szL ys (nY ys)))]) := by
  have hp : (preC ys A c A1 c1 A2 c2).length = 9 := rfl
  have i0 : Get (cacheE (preC ys A c A1 c1 A2 c2) l room clock met miss) 8298 (.int .i64 clock) := ⟨cacheE_tail hp hl h32 1⟩
  have i1 := fun cl => (⟨cacheE_tail hp hl h32 0⟩ : Get (cacheE (preC ys A c A1 c1 A2 c2) l room cl met miss) 8297 (.int .i64 room))
  have i2 := fun cl => (⟨cacheE_tail hp hl h32 2⟩ : Get (cacheE (preC ys A c A1 c1 A2 c2) l room cl met miss) 8299 (.int .i64 met))
  have i3 := fun cl => (⟨cacheE_tail hp hl h32 3⟩ : Get (cacheE (preC ys A c A1 c1 A2 c2) l room cl met miss) 8300 (.int .i64 miss))
  have o0 : SetAt (cacheE (preC ys A c A1 c1 A2 c2) l room clock met miss) 8298 (.int .i64 (clock + 1)) (cacheE (preC ys A c A1 c1 A2 c2) l room (clock + 1) met miss) := ⟨cacheE_setClock hp hl h32 _, by rw [cacheE_len hp hl h32]; decide⟩
  have j1 := i1 (clock + 1)
  have ft := fun i (hi : i < 32) => cacheE_tile (pre := preC ys A c A1 c1 A2 c2) (l := l) (room := room) (clock := clock + 1) (met := met) (miss := miss) hp hl (i := i) (by omega)
  refine does_of Tryz.func131 rfl Tryz.ntmps131 rfl hown (fun n => ?_)
  simp only [slots]
  refine z_tas
  refine c_loop (X := Nat) (fun i => i ≤ room ∧ ∀ j, j < i → (l.getD j default).t ≠ tn) (fun i => [(0, .pointer (some ⟨g, 0, none⟩)), (1, .int .i64 tn), (20, .int .i64 room), (21, .int .i64 i)])
    (fun _ => [.blk g 158 (cacheE (preC ys A c A1 c1 A2 c2) l room (clock + 1) met miss), .row (.slice A ys.length c) 5 1 ys.length (ints .u8 ys), .row (.slice A1 (atL ys (nY ys)).length c1) 3 1 (atL ys (nY ys)).length (ints .i64 (atL ys (nY ys))), .row (.slice A2 (szL ys (nY ys)).length c2) 3 1 (szL ys (nY ys)).length (ints .i64 (szL ys (nY ys)))]) (fun i => room - i) 0 ⟨by omega, fun j hj => by omega⟩ ⟨rfl, rfl, rfl, rfl, trivial⟩ (Sub.refl _) ?_
  rintro i ⟨hi, hj⟩
  rcases Nat.lt_or_ge i room with h | h
  · have g1 : Get (cacheE (preC ys A c A1 c1 A2 c2) l room (clock + 1) met miss) (9 + i * 259) (.int .i64 (l.getD i default).t) := ⟨ft i (by omega)⟩
    have j2 := i2 (clock + 1)
    have o1 : SetAt (cacheE (preC ys A c A1 c1 A2 c2) l room (clock + 1) met miss) 8299 (.int .i64 (met + 1)) (cacheE (preC ys A c A1 c1 A2 c2) l room (clock + 1) (met + 1) miss) := ⟨cacheE_setMet hp hl h32 _, by rw [cacheE_len hp hl h32]; decide⟩
    have j3 : Get (cacheE (preC ys A c A1 c1 A2 c2) l room (clock + 1) (met + 1) miss) 8298 (.int .i64 (clock + 1)) := ⟨cacheE_tail hp hl h32 1⟩
    have o2 : SetAt (cacheE (preC ys A c A1 c1 A2 c2) l room (clock + 1) (met + 1) miss) (9 + i * 259 + 258) (.int .i64 (clock + 1)) (cacheE (preC ys A c A1 c1 A2 c2) (l.set i { l.getD i default with u := clock + 1 }) room (clock + 1) (met + 1) miss) := ⟨cacheE_setU hp hl (by omega) _, by rw [cacheE_len hp hl h32]; omega⟩
    refine z_tas
    · exact j_out1 rfl rfl (Sub.refl _) ⟨i, _, _, _, h, rfl, .inl ⟨by assumption, hj, rfl, rfl, rfl⟩, rfl⟩
    · refine c_round (i + 1) ⟨by omega, fun j hjj => ?_⟩ (by show room - (i + 1) < room - i; omega) ⟨rfl, rfl, rfl, by simp [look], trivial⟩ (Sub.refl _)
      rcases Nat.lt_or_ge j i with h1 | h1
      · exact hj j h1
      · rw [show j = i by omega]; assumption
  · obtain rfl : i = room := by omega
    have j2 := i3 (clock + 1)
    have o1 : SetAt (cacheE (preC ys A c A1 c1 A2 c2) l i (clock + 1) met miss) 8300 (.int .i64 (miss + 1)) (cacheE (preC ys A c A1 c1 A2 c2) l i (clock + 1) met (miss + 1)) := ⟨cacheE_setMiss hp hl h32 _, by rw [cacheE_len hp hl h32]; decide⟩
    refine z_tas
    refine lf rfl rfl rfl (fun w hw ho => oldest_any g (preC ys A c A1 c1 A2 c2) l i (clock + 1) met (miss + 1) w ho hp hl h32 hr) ?_
    rintro v S' ⟨k, hk, rfl, hold, rfl⟩
    have p0 : Get (cacheE (preC ys A c A1 c1 A2 c2) l i (clock + 1) met (miss + 1)) 0 (.slice A ys.length c) := ⟨rfl⟩
    have p1 : Cut (cacheE (preC ys A c A1 c1 A2 c2) l i (clock + 1) met (miss + 1)) 1 8 [.int .i64 (wY ys : Nat), .int .i64 (hY ys : Nat), .slice none 0 0, .int .i64 (cellY ys : Nat), .int .i32 (i32N (leY ys 10 4)), .int .i32 (i32N (leY ys 14 4)), .slice A1 (atL ys (nY ys)).length c1, .slice A2 (szL ys (nY ys)).length c2] := ⟨rfl, rfl⟩
    refine z_tas
    refine c_drv _ (0 :: 1 :: 2 :: 3 :: 4 :: 5 :: 6 :: 7 :: 8 :: 9 :: 10 :: 11 :: 12 :: 13 :: 14 :: []) (Sub.refl _) (by decide +kernel) (by decide) (by decide +kernel) (by decide +kernel) (by decide +kernel) ?_; intro _
    refine z_govG
    refine lf rfl rfl rfl (S := []) (fun w hw ho => ctile_any A c ys A1 A2 c1 c2 tn w ⟨Ro.row hw (Split.nil _) (by refine z_hs)⟩ ⟨Ro.row hw (Split.nil _) (by refine z_hs)⟩ ⟨Ro.row hw (Split.nil _) (by refine z_hs)⟩ hu hm hO hn) ?_
    rintro v S' ⟨zs, Az, cz, code, T, rfl, rfl, hz⟩
    refine j_perm (H' := .row (.slice Az zs.length cz) 92 1 zs.length (ints .i16 zs) :: _) (.cons (.here _ _) (Sub.appR T _)) ?_
    obtain ⟨rfl, hok⟩ : code = 0 ∧ TilOk ys tn zs := by
      rcases hz with hz | ⟨-, -, hz⟩
      · exact hz
      · obtain ⟨z, hz2⟩ := hg tn hn; exact absurd hz2 (hz z)
    have p2 : Get (cacheE (preC ys A c A1 c1 A2 c2) l i (clock + 1) met (miss + 1)) 8298 (.int .i64 (clock + 1)) := ⟨cacheE_tail hp hl h32 1⟩
    obtain ⟨sk, hsk⟩ : ∃ s, l.getD k default = s := ⟨_, rfl⟩
    have hmk : sk.z.length = 256 := by rw [← hsk]; exact hl _ (by rw [List.getD_eq_getElem?_getD, List.getElem?_eq_getElem (by omega)]; exact List.getElem_mem ..)
    have hlk : ∀ t w u : Int, Slts (l.set k ⟨t, w, sk.z, u⟩) := fun t w u => hl.set k hmk
    have h3k : ∀ s : Slt, (l.set k s).length = 32 := fun s => by rw [List.length_set]; exact h32
    have hgk := fun (s : Slt) => getD_set_self (l := l) (i := k) (s := s) (by omega)
    have o3 : SetAt (cacheE (preC ys A c A1 c1 A2 c2) l i (clock + 1) met (miss + 1)) (9 + k * 259) (.int .i64 tn) (cacheE (preC ys A c A1 c1 A2 c2) (l.set k ⟨tn, sk.w, sk.z, sk.u⟩) i (clock + 1) met (miss + 1)) := ⟨by rw [cacheE_setT hp hl (by omega), hsk], by rw [cacheE_len hp hl h32]; omega⟩
    have o4 : SetAt (cacheE (preC ys A c A1 c1 A2 c2) (l.set k ⟨tn, sk.w, sk.z, sk.u⟩) i (clock + 1) met (miss + 1)) (9 + k * 259 + 258) (.int .i64 (clock + 1)) (cacheE (preC ys A c A1 c1 A2 c2) (l.set k ⟨tn, sk.w, sk.z, clock + 1⟩) i (clock + 1) met (miss + 1)) := ⟨by rw [cacheE_setU hp (hlk _ _ _) (by rw [h3k]; omega), hgk, List.set_set], by rw [cacheE_len hp (hlk _ _ _) (h3k _)]; omega⟩
    have o5 : SetAt (cacheE (preC ys A c A1 c1 A2 c2) (l.set k ⟨tn, sk.w, sk.z, clock + 1⟩) i (clock + 1) met (miss + 1)) (9 + k * 259 + 1) (.int .i64 ((boxF (wY ys) (hY ys) (tX (wY ys) tn) (tY (wY ys) tn)).2.2.1 : Nat)) (cacheE (preC ys A c A1 c1 A2 c2) (l.set k ⟨tn, (tilW (wY ys) (hY ys) tn : Nat), sk.z, clock + 1⟩) i (clock + 1) met (miss + 1)) := ⟨by rw [cacheE_setW hp (hlk _ _ _) (by rw [h3k]; omega), hgk, List.set_set]; rfl, by rw [cacheE_len hp (hlk _ _ _) (h3k _)]; omega⟩
    refine z_govG
    refine z_tas
    have hrg := hO.rng
    unfold rangeY at hrg
    have hpg := placesTo_get (wY ys) (nT (wY ys) (hY ys)) tn hn
    have hpl := placesTo_len (wY ys) (nT (wY ys) (hY ys))
    have hn2 : tn < nT (wY ys) (hY ys) := hn
    have hbx := tile_box (W := wY ys) (H := hY ys) hn
    obtain ⟨hX, hY'⟩ := tXY_in (W := wY ys) (H := hY ys) (i := tn) (by omega) hn
    refine c_dp [38] 39 (0 :: 1 :: 2 :: 3 :: 4 :: 5 :: 6 :: 7 :: 8 :: 9 :: 10 :: 11 :: 12 :: 13 :: 14 :: 15 :: 16 :: 17 :: 18 :: 19 :: 20 :: 21 :: 22 :: 23 :: 24 :: 25 :: 26 :: 27 :: 28 :: 29 :: 30 :: 31 :: 32 :: 33 :: 34 :: 35 :: 36 :: 37 :: 38 :: []) ?_; intro _
    refine z_govG
    refine lf rfl rfl rfl (S := []) (fun w hw ho => places_any (wY ys) (hY ys) w (by omega)) ?_
    rintro v S' ⟨Ap, cp, rfl, rfl⟩
    refine z_govG
    simp only [hpg]
    refine lfv rfl rfl rfl (fun w _ => box_any (wY ys) (hY ys) (tX (wY ys) tn) (tY (wY ys) tn) w hX hY' (by omega)) ?_
    refine z_govG
    refine z_tas
    have hzl : 0 < zs.length ∧ zs.length ≤ 256 := by
      rw [hok.1]
      exact ⟨Nat.mul_pos (by omega) (by omega), Nat.mul_le_mul (show _ ≤ 16 by omega) (show _ ≤ 16 by omega)⟩
    refine lcpB rfl rfl ⟨hzl.1, hzl.2, ?_⟩ rfl ?_
    · rw [cacheE_len hp (hlk _ _ _) (h3k _)]; omega
    rw [cacheE_setZ hp (hlk _ _ _) (by rw [h3k]; omega) hzl.2, hgk, List.set_set]
    refine z_tas
    subst hsk
    refine j_out1 rfl rfl ?_ ⟨k, _, _, _, hk, rfl, .inr ⟨hj, hold, ⟨zs, hok, rfl⟩, rfl, rfl⟩, rfl⟩
    exact Sub.au
end Go.Proofs.YtemmnpgebpffbaaGreat
/- Package cache: Height. -/
namespace Go.Proofs.YtemmnpgebpffbaaGreat
open Go.RowKit
/-- A cell of a tile is the field's. -/
theorem cut_cell {W H : Nat} {f : List Int} (hf : f.length = W * H) {x y : Nat} (hx : x < W) (hy : y < H) : y / 16 * cntF W + x / 16 < nT W H ∧ (y % 16 + 1) * tilW W H (y / 16 * cntF W + x / 16) ≤ (cutN W H f (y / 16 * cntF W + x / 16)).length ∧ x % 16 < tilW W H (y / 16 * cntF W + x / 16) ∧ (cutN W H f (y / 16 * cntF W + x / 16)).getD (y % 16 * tilW W H (y / 16 * cntF W + x / 16) + x % 16) 0 = f.getD (y * W + x) 0 := by
  have hi : x / 16 < cntF W := by unfold cntF; omega
  have hk : y / 16 < cntF H := by unfold cntF; omega
  have hn : y / 16 * cntF W + x / 16 < nT W H := by
    have h5 : (y / 16 + 1) * cntF W ≤ cntF H * cntF W := Nat.mul_le_mul_right _ hk
    rw [Nat.add_mul, Nat.one_mul, Nat.mul_comm (cntF H)] at h5
    unfold nT
    omega
  have hX := (tXY (W := W) (y := y / 16) hi).1
  have hY := (tXY (W := W) (y := y / 16) hi).2
  have hb := box_at (W := W) (H := H) hi hk
  have ew : tilW W H (y / 16 * cntF W + x / 16) = min 16 (W - 16 * (x / 16)) := by unfold tilW; rw [hX, hY, hb]
  have eh : tilH W H (y / 16 * cntF W + x / 16) = min 16 (H - 16 * (y / 16)) := by unfold tilH; rw [hX, hY, hb]
  have hl := cutN_len (W := W) (H := H) (i := y / 16 * cntF W + x / 16) hf
  have hr : y % 16 < tilH W H (y / 16 * cntF W + x / 16) := by rw [eh]; omega
  refine ⟨hn, ?_, by rw [ew]; omega, ?_⟩
  · rw [hl, Nat.mul_comm (tilW ..)]
    exact Nat.mul_le_mul_right _ hr
  have hbx := boxF_in W H (x / 16 : Nat) (y / 16 : Nat)
  rw [hb] at hbx
  simp only at hbx
  have hp := cut_part (r := y % 16) hf hbx.1 hbx.2.1 (by omega) _ (by omega : y % 16 < min 16 (H - 16 * (y / 16))) (Nat.le_refl _)
  have ec : cutN W H f (y / 16 * cntF W + x / 16) = cutTo f W (16 * (x / 16)) (16 * (y / 16)) (min 16 (W - 16 * (x / 16))) (min 16 (H - 16 * (y / 16))) := by
    unfold cutN cutF
    rw [hX, hY, hb]
  rw [ec, ew]
  have hxm : x % 16 < min 16 (W - 16 * (x / 16)) := by omega
  have e1 := congrArg (fun l => l.getD (x % 16) 0) hp
  simp only [List.getD_eq_getElem?_getD, List.getElem?_take_of_lt hxm, List.getElem?_drop] at e1
  rw [List.getD_eq_getElem?_getD, e1, rowAt, List.getElem?_take_of_lt hxm, List.getElem?_drop, show 16 * (y / 16) + y % 16 = y by omega, show y * W + 16 * (x / 16) + x % 16 = y * W + x by omega, List.getD_eq_getElem?_getD]
theorem getD_takeZ {l : List Int} {m i : Nat} (h : i < m) : (l.take m).getD i 0 = l.getD i 0 := by rw [List.getD_eq_getElem?_getD, List.getD_eq_getElem?_getD, List.getElem?_take_of_lt h]
/-- What stays in a cache, and what turns. -/
structure CaT where
  g : Nat
  ys : List Int
  A : Option Addr
  c : Nat
  A1 : Option Addr
  c1 : Nat
  A2 : Option Addr
  c2 : Nat
  room : Nat
structure CaV where
  l : List Slt
  clock : Int
  met : Int
  miss : Int
@[reducible] def CaT.H (K : CaT) (s : CaV) : List HE := [.blk K.g 158 (cacheE (preC K.ys K.A K.c K.A1 K.c1 K.A2 K.c2) s.l K.room s.clock s.met s.miss), .row (.slice K.A K.ys.length K.c) 5 1 K.ys.length (ints .u8 K.ys), .row (.slice K.A1 (atL K.ys (nY K.ys)).length K.c1) 3 1 (atL K.ys (nY K.ys)).length (ints .i64 (atL K.ys (nY K.ys))), .row (.slice K.A2 (szL K.ys (nY K.ys)).length K.c2) 3 1 (szL K.ys (nY K.ys)).length (ints .i64 (szL K.ys (nY K.ys)))]
@[reducible] def CaT.HC (K : CaT) (s : CaV) (T : List HE) : List HE := .blk K.g 158 (cacheE (preC K.ys K.A K.c K.A1 K.c1 K.A2 K.c2) s.l K.room s.clock s.met s.miss) :: .row (.slice K.A K.ys.length K.c) 5 1 K.ys.length (ints .u8 K.ys) :: .row (.slice K.A1 (atL K.ys (nY K.ys)).length K.c1) 3 1 (atL K.ys (nY K.ys)).length (ints .i64 (atL K.ys (nY K.ys))) :: .row (.slice K.A2 (szL K.ys (nY K.ys)).length K.c2) 3 1 (szL K.ys (nY K.ys)).length (ints .i64 (szL K.ys (nY K.ys))) :: T
/-- A slot that holds tile n. -/
def SlIs (ys f : List Int) (n : Nat) (s : Slt) : Prop := s.t = n ∧ s.w = (tilW (wY ys) (hY ys) n : Nat) ∧ s.z.take (cutN (wY ys) (hY ys) f n).length = cutN (wY ys) (hY ys) f n
def SlOk (ys f : List Int) (s : Slt) : Prop := 0 ≤ s.t → ∃ n, n < nY ys ∧ SlIs ys f n s
/-- A map's bytes, its heights, a cache's room. -/
structure CaF (ys f : List Int) (room : Nat) : Prop where
  u8 : U8s ys
  len : ys.length < 100000000
  op : Opens ys
  good : Good9 ys f
  room : 1 ≤ room ∧ room ≤ 32
/-- A cache that may be; no counter is more than b. -/
structure CaOk (ys f : List Int) (room : Nat) (s : CaV) (b : Int) : Prop where
  len : s.l.length = 32
  slts : Slts s.l
  sl : ∀ k, k < room → SlOk ys f (s.l.getD k default)
  clock : 0 ≤ s.clock ∧ s.clock ≤ b
  met : 0 ≤ s.met ∧ s.met ≤ b
  miss : 0 ≤ s.miss ∧ s.miss ≤ b
theorem CaOk.mono {ys f : List Int} {room : Nat} {s : CaV} {b c : Int} (h : CaOk ys f room s b) (hb : b ≤ c) : CaOk ys f room s c := ⟨h.len, h.slts, h.sl, ⟨h.clock.1, by have := h.clock.2; omega⟩, ⟨h.met.1, by have := h.met.2; omega⟩, ⟨h.miss.1, by have := h.miss.2; omega⟩⟩
theorem gets_ok {ys f : List Int} {room n k : Nat} {s s' : CaV} {b : Int} (hF : CaF ys f room) (h : CaOk ys f room s b) (hn : n < nY ys) (hk : k < room) (hg : GetsC ys s.l room s.clock s.met s.miss n k s'.l s'.met s'.miss) (hc : s'.clock = s.clock + 1) : CaOk ys f room s' (b + 1) ∧ SlIs ys f n (s'.l.getD k default) := by
  have hk32 : k < s.l.length := by have := h.len; have := hF.room; omega
  obtain ⟨c1, c2⟩ := h.clock
  obtain ⟨c3, c4⟩ := h.met
  obtain ⟨c5, c6⟩ := h.miss
  have key : ∀ sl : Slt, sl.z.length = 256 → SlOk ys f sl → s'.l = s.l.set k sl → (s'.met = s.met + 1 ∧ s'.miss = s.miss ∨ s'.met = s.met ∧ s'.miss = s.miss + 1) → CaOk ys f room s' (b + 1) ∧ s'.l.getD k default = sl := by
    intro sl hz hsl e hm
    refine ⟨⟨by rw [e, List.length_set, h.len], by rw [e]; exact h.slts.set k hz, fun j hj => ?_, by omega, by omega, by omega⟩, by rw [e, getD_set_self hk32]⟩
    rw [e]
    by_cases hjk : j = k
    · subst hjk; rw [getD_set_self hk32]; exact hsl
    · have : (s.l.set k sl).getD j default = s.l.getD j default := by rw [List.getD_eq_getElem?_getD, List.getD_eq_getElem?_getD, List.getElem?_set_ne (fun e => hjk e.symm)]
      rw [this]; exact h.sl j hj
  have hz0 : (s.l.getD k default).z.length = 256 := h.slts _ (by rw [List.getD_eq_getElem?_getD, List.getElem?_eq_getElem hk32]; exact List.getElem_mem ..)
  rcases hg with ⟨h1, -, h3, h4, h5⟩ | ⟨-, -, ⟨zs, h1, h2⟩, h4, h5⟩
  · obtain ⟨m, hm, hsl⟩ := h.sl k hk (by omega)
    have hmn : m = n := by have := hsl.1; omega
    subst hmn
    have := key { s.l.getD k default with u := s.clock + 1 } hz0 (fun _ => ⟨m, hm, hsl⟩) h3 (.inl ⟨h4, h5⟩)
    exact ⟨this.1, by rw [this.2]; exact hsl⟩
  · obtain rfl := TilOk.one hn h1 (hF.good.til hn)
    have hl : (cutN (wY ys) (hY ys) f n).length ≤ 256 := cutN_le hF.good.2.1
    have his : SlIs ys f n ⟨n, (tilW (wY ys) (hY ys) n : Nat), cutN (wY ys) (hY ys) f n ++ (s.l.getD k default).z.drop (cutN (wY ys) (hY ys) f n).length, s.clock + 1⟩ := ⟨rfl, rfl, by simp⟩
    have := key _ (by simp only [List.length_append, List.length_drop]; omega) (fun _ => ⟨n, hn, his⟩) h2 (.inr ⟨h4, h5⟩)
    exact ⟨this.1, by rw [this.2]; exact his⟩
/-- What Height does to a cache. -/
def HgtS (ys : List Int) (room : Nat) (s : CaV) (x y : Int) (s' : CaV) : Prop :=
  ((x < 0 ∨ y < 0 ∨ (wY ys : Int) ≤ x ∨ (hY ys : Int) ≤ y) ∧ s' = s) ∨ (¬ (x < 0 ∨ y < 0 ∨ (wY ys : Int) ≤ x ∨ (hY ys : Int) ≤ y) ∧ ∃ k, k < room ∧ GetsC ys s.l room s.clock s.met s.miss (y.toNat / 16 * cntF (wY ys) + x.toNat / 16) k s'.l s'.met s'.miss ∧ s'.clock = s.clock + 1)
theorem HgtS.ok {ys f : List Int} {room : Nat} {s s' : CaV} {x y b : Int} (hg : HgtS ys room s x y s') (hF : CaF ys f room) (h : CaOk ys f room s b) : CaOk ys f room s' (b + 1) := by
  rcases hg with ⟨-, rfl⟩ | ⟨ho, k, hk, h1, h2⟩
  · exact h.mono (by omega)
  · exact (gets_ok hF h (cut_cell (f := f) hF.good.2.1 (by omega) (by omega)).1 hk h1 h2).1
attribute [local irreducible] OJ J HdJ Code.wpIn wpListIn Oper.wpIn bodyPost CallsIn Does
set_option maxRecDepth 4000
set_option maxHeartbeats 64000000 in
theorem height_c (K : CaT) (s : CaV) (f : List Int) (x y b : Int) (w : World) (hown : Own (K.H s) w) (hF : CaF K.ys f K.room) (h : CaOk K.ys f K.room s b) (hb : b ≤ 1000000000000000000) :
    Does Tryz.prog 109 [.pointer (some ⟨K.g, 0, none⟩), .int .i64 x, .int .i64 y] (K.H s) w (fun v S' => ∃ s', v = .tuple #[.int .i16 (heightF (wY K.ys) (hY K.ys) f x y).1, .int .i64 (heightF (wY K.ys) (hY K.ys) f x y).2] ∧ HgtS K.ys K.room s x y s' ∧ S' = K.H s') := by
  obtain ⟨g, ys, A, c, A1, c1, A2, c2, room⟩ := K
  obtain ⟨l, clock, met, miss⟩ := s
  have hrg := hF.op.rng
  unfold rangeY at hrg
  have hrm := hF.room
  have hp : (preC ys A c A1 c1 A2 c2).length = 9 := rfl
  obtain ⟨e1, -, -, e3, e4, e5⟩ := id h
  simp only at e1 e3 e4 e5 hrm hrg ⊢ hF h
  have q0 : Cut (cacheE (preC ys A c A1 c1 A2 c2) l room clock met miss) 1 3 [.int .i64 (wY ys : Nat), .int .i64 (hY ys : Nat), .slice none 0 0] := ⟨rfl, rfl⟩
  refine does_of Tryz.func109 rfl Tryz.ntmps109 rfl hown (fun n => ?_)
  simp only [slots]
  by_cases ho : x < 0 ∨ y < 0 ∨ (wY ys : Int) ≤ x ∨ (hY ys : Int) ≤ y
  · have e : heightF (wY ys) (hY ys) f x y = (0, 9) := if_pos ho
    rw [e]
    refine z_tas
    all_goals first
      | exact j_out2 rfl rfl rfl Sub.au ⟨_, rfl, .inl ⟨ho, rfl⟩, rfl⟩
      | (exfalso; omega)
  obtain ⟨X, rfl⟩ : ∃ X : Nat, x = X := ⟨x.toNat, by omega⟩
  obtain ⟨Y, rfl⟩ : ∃ Y : Nat, y = Y := ⟨y.toNat, by omega⟩
  have hXY : X < wY ys ∧ Y < hY ys := by omega
  obtain ⟨hn, hc1, hc2, hc3⟩ := cut_cell hF.good.2.1 hXY.1 hXY.2
  have hnt := nT_le (W := wY ys) (H := hY ys) (by omega)
  have hcm : (Y : Int) / 16 * ((cntF (wY ys) : Nat) : Int) = ((Y / 16 * cntF (wY ys) : Nat) : Int) := by push_cast; rfl
  refine z_tas
  refine lfv (v := .int .i64 (cntF (wY ys) : Nat)) rfl rfl rfl (fun w _ => cnt_any (wY ys) w (by omega)) ?_
  refine z_tas
  refine j_set 44 _ rfl (congrArg (Value.int .i64) (show (Y : Int) / 16 * (cntF (wY ys) : Nat) + (X : Int) / 16 = ((Y / 16 * cntF (wY ys) + X / 16 : Nat) : Int) by push_cast; rfl)) ?_
  refine lf rfl rfl rfl (S := CaT.H ⟨g, ys, A, c, A1, c1, A2, c2, room⟩ ⟨l, clock, met, miss⟩) (fun w hw ho => getc_any g ys A A1 A2 c c1 c2 l room (Y / 16 * cntF (wY ys) + X / 16) clock met miss w ho h.slts e1 hrm (by omega) hF.u8 hF.len hF.op hn (fun i hi => ⟨_, hF.good.til hi⟩)) ?_
  rintro v S' ⟨k, l', met', miss', hk, rfl, hg, rfl⟩
  obtain ⟨g1, g2⟩ := gets_ok (s' := ⟨l', clock + 1, met', miss'⟩) hF h hn hk hg rfl
  have hkl : k < l'.length := by have : l'.length = 32 := g1.len; omega
  have gw : (l'.getD k default).w = _ := g2.2.1
  have gz : (l'.getD k default).z.take _ = _ := g2.2.2
  have iw : Get (cacheE (preC ys A c A1 c1 A2 c2) l' room (clock + 1) met' miss') (9 + k * 259 + 1) (.int .i64 (tilW (wY ys) (hY ys) (Y / 16 * cntF (wY ys) + X / 16) : Nat)) := ⟨by rw [cacheE_w hp g1.slts hkl, gw]⟩
  have hzl := cutN_le (W := wY ys) (H := hY ys) (z := f) (i := Y / 16 * cntF (wY ys) + X / 16) hF.good.2.1
  rw [Nat.add_mul, Nat.one_mul] at hc1
  have iz : Get (cacheE (preC ys A c A1 c1 A2 c2) l' room (clock + 1) met' miss') (9 + k * 259 + 2 + (Y % 16 * tilW (wY ys) (hY ys) (Y / 16 * cntF (wY ys) + X / 16) + X % 16)) (.int .i16 (f.getD (Y * wY ys + X) 0)) := ⟨by
    rw [Nat.add_assoc (9 + k * 259) 2, cacheE_z hp g1.slts hkl (by omega), ← hc3, ← gz, getD_takeZ (by omega)]⟩
  have hcz : (Y : Int) % 16 * ((tilW (wY ys) (hY ys) (Y / 16 * cntF (wY ys) + X / 16) : Nat) : Int) = ((Y % 16 * tilW (wY ys) (hY ys) (Y / 16 * cntF (wY ys) + X / 16) : Nat) : Int) := by push_cast; rfl
  refine z_tas
  refine c_dv (0 :: 1 :: 2 :: 3 :: 4 :: 5 :: 6 :: 7 :: 8 :: 9 :: 10 :: 11 :: 12 :: 13 :: 14 :: 15 :: []) ?_; intro _
  refine z_govG
  have e : heightF (wY ys) (hY ys) f X Y = if f.getD (Y * wY ys + X) 0 = -32768 then (0, 8) else (f.getD (Y * wY ys + X) 0, 0) := by
    have e0 : ((Y : Int) * (wY ys : Int) + (X : Int)).toNat = Y * wY ys + X := by
      rw [← Int.natCast_mul, ← Int.natCast_add, Int.toNat_natCast]
    unfold heightF
    rw [if_neg ho, e0]
  rw [e]
  refine j_set 56 _ rfl (congrArg (Value.int .i64) (show (Y : Int) % 16 * ((tilW (wY ys) (hY ys) (Y / 16 * cntF (wY ys) + X / 16) : Nat) : Int) + (X : Int) % 16 = ((Y % 16 * tilW (wY ys) (hY ys) (Y / 16 * cntF (wY ys) + X / 16) + X % 16 : Nat) : Int) by push_cast; rfl)) ?_
  refine z_govG
  all_goals first
    | exact j_out2 rfl rfl rfl Sub.au ⟨⟨l', clock + 1, met', miss'⟩, by rw [if_pos (by assumption)], .inr ⟨ho, k, hk, hg, rfl⟩, rfl⟩
    | exact j_out2 rfl rfl rfl Sub.au ⟨⟨l', clock + 1, met', miss'⟩, by rw [if_neg (by assumption)], .inr ⟨ho, k, hk, hg, rfl⟩, rfl⟩
end Go.Proofs.YtemmnpgebpffbaaGreat
/- Package cache: Chart, New. -/
namespace Go.Proofs.YtemmnpgebpffbaaGreat
open Go.RowKit
def zeroS : List Slt := List.replicate 32 ⟨0, 0, List.replicate 256 0, 0⟩
@[reducible] def zpre1 : List Value := [.int .i64 0, .int .i64 0, .slice none 0 0, .int .i64 0, .int .i32 0, .int .i32 0, .slice none 0 0, .slice none 0 0]
def zC : Value := .agg (cacheE (.slice none 0 0 :: zpre1) zeroS 0 0 0 0).toArray
set_option maxRecDepth 100000 in
instance : Inf Tryz.prog 158 8301 17312 zC := ⟨Tryz.t158, by kernel_rfl, by kernel_rfl, rfl, rfl⟩
instance : ZC zC (cacheE (.slice none 0 0 :: zpre1) zeroS 0 0 0 0) := ⟨rfl⟩
set_option maxRecDepth 10000 in
theorem zeroS_ok : Slts zeroS ∧ zeroS.length = 32 := ⟨fun s hs => by rw [List.eq_of_mem_replicate hs]; exact List.length_replicate .., List.length_replicate ..⟩
instance {pre vs o : List Value} {l : List Slt} {room clock met miss : Int} {q : Nat} [h : Over pre q vs o] : Over (cacheE pre l room clock met miss) q vs (cacheE o l room clock met miss) := ⟨by
  obtain ⟨h1, h2⟩ := h.h
  unfold cacheE
  refine ⟨?_, by rw [List.length_append]; omega⟩
  rw [List.take_append_of_le_length (by omega), List.drop_append_of_le_length (by omega), ← List.append_assoc, h1]⟩
theorem getD_mem {l : List Slt} {i : Nat} (h : i < l.length) : l.getD i default ∈ l := by rw [List.getD_eq_getElem?_getD, List.getElem?_eq_getElem h]; exact List.getElem_mem ..
theorem cacheE_setRoom {pre : List Value} {l : List Slt} {room clock met miss : Int} (hp : pre.length = 9) (hl : Slts l) (h32 : l.length = 32) (x : Int) : (cacheE pre l room clock met miss).set 8297 (.int .i64 x) = cacheE pre l x clock met miss := by
  have hs := slotsE_len hl
  unfold cacheE
  rw [List.set_append_right _ _ (by omega), List.set_append_right _ _ (by omega), hp, hs, h32]
  rfl
instance (v : Value) (x : Int) : Over (cacheE (v :: zpre1) zeroS 0 0 0 0) 8297 [.int .i64 x] (cacheE (v :: zpre1) zeroS x 0 0 0) := by
  have := over_set (cs := cacheE (v :: zpre1) zeroS 0 0 0 0) (q := 8297) (.int .i64 x) (by rw [cacheE_len rfl zeroS_ok.1 zeroS_ok.2]; decide)
  rw [cacheE_setRoom rfl zeroS_ok.1 zeroS_ok.2] at this
  exact this
attribute [local irreducible] OJ J HdJ Code.wpIn wpListIn Oper.wpIn bodyPost CallsIn Does
set_option maxRecDepth 4000
set_option maxHeartbeats 64000000 in
theorem chart_c (K : CaT) (s : CaV) (w : World) (hown : Own (K.H s) w) :
    Does Tryz.prog 108 [.pointer (some ⟨K.g, 0, none⟩)] (K.H s) w (fun v S' => v = .agg #[.int .i64 (wY K.ys : Nat), .int .i64 (hY K.ys : Nat), .slice none 0 0, .int .i64 (cellY K.ys : Nat), .int .i32 (i32N (leY K.ys 10 4)), .int .i32 (i32N (leY K.ys 14 4))] ∧ S' = K.H s) := by
  obtain ⟨g, ys, A, c, A1, c1, A2, c2, room⟩ := K
  obtain ⟨l, clock, met, miss⟩ := s
  simp only
  have q0 : Cut (cacheE (preC ys A c A1 c1 A2 c2) l room clock met miss) 1 6 [.int .i64 (wY ys : Nat), .int .i64 (hY ys : Nat), .slice none 0 0, .int .i64 (cellY ys : Nat), .int .i32 (i32N (leY ys 10 4)), .int .i32 (i32N (leY ys 14 4))] := ⟨rfl, rfl⟩
  refine does_of Tryz.func108 rfl Tryz.ntmps108 rfl hown (fun n => ?_)
  simp only [slots]
  refine z_tas
  refine j_outK (S' := CaT.H ⟨g, ys, A, c, A1, c1, A2, c2, room⟩ ⟨l, clock, met, miss⟩) Sub.au ?_
  refine z_rk
  exact ⟨rfl, rfl⟩
/-- A cache's slots as New leaves them. -/
def newTo : Nat → List Slt
  | 0 => zeroS
  | i + 1 => (newTo i).set i { (newTo i).getD i default with t := -1 }
theorem newTo_ok : ∀ i, Slts (newTo i) ∧ (newTo i).length = 32
  | 0 => zeroS_ok
  | i + 1 => by
    obtain ⟨h1, h2⟩ := newTo_ok i
    refine ⟨?_, by rw [newTo, List.length_set, h2]⟩
    rw [newTo]
    rcases Nat.lt_or_ge i 32 with h | h
    · exact h1.set i (h1 ((newTo i).getD i default) (getD_mem (by omega)))
    · rw [List.set_eq_of_length_le (by omega)]; exact h1
theorem newTo_neg : ∀ i, i ≤ 32 → ∀ k, k < i → ((newTo i).getD k default).t = -1
  | 0, _, k, h => by omega
  | i + 1, hi, k, h => by
    have h2 := (newTo_ok i).2
    rw [newTo]
    by_cases e : k = i
    · subst e; rw [getD_set_self (by omega)]
    · have : ((newTo i).set i { (newTo i).getD i default with t := -1 }).getD k default = (newTo i).getD k default := by rw [List.getD_eq_getElem?_getD, List.getElem?_set_ne (fun x => e x.symm), List.getD_eq_getElem?_getD]
      rw [this]; exact newTo_neg i (by omega) k (by omega)
/-- A new cache. -/
def newV (room : Nat) : CaV := ⟨newTo room, 0, 0, 0⟩
theorem newV_ok {ys f : List Int} {room : Nat} (hr : room ≤ 32) : CaOk ys f room (newV room) 0 :=
  ⟨(newTo_ok room).2, (newTo_ok room).1, fun k hk h => by rw [show ((newV room).l.getD k default).t = -1 from newTo_neg room hr k hk] at h; omega, ⟨Int.le_refl _, Int.le_refl _⟩, ⟨Int.le_refl _, Int.le_refl _⟩, ⟨Int.le_refl _, Int.le_refl _⟩⟩
/-- What New comes to. -/
def NewR (ys : List Int) (room : Int) (v : Value) (S' : List HE) : Prop :=
  (∃ code : Int, code ≠ 0 ∧ v = .tuple #[.pointer none, .int .i64 code] ∧ S' = [] ∧ (((room < 4 ∨ 32 < room) ∧ code = 12) ∨ (¬ (room < 4 ∨ 32 < room) ∧ GetC ys code))) ∨
  (¬ (room < 4 ∨ 32 < room) ∧ GetC ys 0 ∧ ∃ K : CaT, K.ys = ys ∧ (K.room : Int) = room ∧ v = .tuple #[.pointer (some ⟨K.g, 0, none⟩), .int .i64 0] ∧ S' = K.H (newV K.room))
set_option maxHeartbeats 64000000 in
theorem new_c (A : Option Addr) (c : Nat) (ys : List Int) (room : Int) (w : World) (hr : RoA w (blocks []) A ys.length c 1 (ints .u8 ys)) (hu : U8s ys) (hm : ys.length < 100000000) (hrm : InR .i64 room) :
    Does Tryz.prog 40 [.slice A ys.length c, .int .i64 room] [] w (NewR ys room) := by
  refine does_of Tryz.func40 rfl Tryz.ntmps40 rfl ⟨by simp, .nil⟩ (fun n => ?_)
  simp only [slots]
  by_cases ho : room < 4 ∨ 32 < room
  · refine z_tas
    all_goals first
      | exact j_out2 rfl rfl rfl (.nil _) (.inl ⟨12, by decide, rfl, rfl, .inl ⟨ho, rfl⟩⟩)
      | (exfalso; omega)
  obtain ⟨R, rfl⟩ : ∃ R : Nat, room = R := ⟨room.toNat, by omega⟩
  refine z_tas
  refine lf rfl rfl rfl (S := []) (fun w hw ho => get_any9 A c ys w ⟨hr.h.go hw (Split.nil _)⟩ hu hm) ?_
  rintro v S' hget
  rcases hget with ⟨code, hne, hgc2, rfl, rfl⟩ | ⟨hgc, g, Ag, cg, hgl, hgg, rfl, rfl⟩
  · refine z_tas
    exact j_out2 rfl rfl rfl (.nil _) (.inl ⟨code, hne, rfl, rfl, .inr ⟨ho, hgc2⟩⟩)
  refine z_tas
  rename_i b0 b1 A' c' gC
  refine lf rfl rfl rfl (S := []) (fun w hw ho => open_any A' c' ys w ⟨Ro.row hw (Split.nil _) (by refine z_hs)⟩ hu hm) ?_
  have hoc : openC ys = 0 := by
    rcases hgc with ⟨h, -⟩ | ⟨h, -⟩ | ⟨h, -⟩
    · exact absurd rfl h
    · exact h
    · exact h
  rintro v S' (⟨-, A1, c1, A2, c2, rfl, rfl⟩ | ⟨h, -⟩)
  case inr => exact absurd hoc h
  refine z_tas
  refine c_loop (X := Nat) (fun i => i ≤ R) (fun i => [(8, .pointer (some ⟨gC, 0, none⟩)), (41, .int .i64 R), (42, .int .i64 i)]) (fun i => CaT.H ⟨gC, ys, A', c', A1, c1, A2, c2, R⟩ ⟨newTo i, 0, 0, 0⟩) (fun i => R - i) 0 (by omega) ⟨rfl, rfl, rfl, trivial⟩ (show Sub (CaT.H ⟨gC, ys, A', c', A1, c1, A2, c2, R⟩ ⟨zeroS, 0, 0, 0⟩) _ from Sub.au) ?_
  intro i hi
  obtain ⟨n1, n2⟩ := newTo_ok i
  rcases Nat.lt_or_ge i R with h | h
  · have o1 : SetAt (cacheE (preC ys A' c' A1 c1 A2 c2) (newTo i) R 0 0 0) (9 + i * 259) (.int .i64 (-1)) (cacheE (preC ys A' c' A1 c1 A2 c2) (newTo (i + 1)) R 0 0 0) := ⟨cacheE_setT rfl n1 (by omega) _, by rw [cacheE_len rfl n1 n2]; omega⟩
    refine z_tas
    exact c_round (i + 1) h (by show R - (i + 1) < R - i; omega) ⟨rfl, rfl, by simp [look], trivial⟩ Sub.au
  · obtain rfl : i = R := by omega
    refine z_tas
    exact j_out2 rfl rfl rfl (show Sub (CaT.H ⟨gC, ys, A', c', A1, c1, A2, c2, i⟩ ⟨newTo i, 0, 0, 0⟩) _ from Sub.au) (.inr ⟨ho, hgc, ⟨gC, ys, A', c', A1, c1, A2, c2, i⟩, rfl, rfl, rfl, rfl⟩)
end Go.Proofs.YtemmnpgebpffbaaGreat
/- Layer 10: a cache over a map of any heights. -/
namespace Go.Proofs.YtemmnpgebpffbaaGreat
open Go.RowKit
theorem caF_of {W H cell : Nat} {ox oy : Int} {f : List Int} {R : Nat} (hW : 2 ≤ W ∧ W ≤ 256 ∧ 2 ≤ H ∧ H ≤ 256 ∧ 1 ≤ cell ∧ cell ≤ 1000) (hz : f.length = W * H) (hi : In16 f) (hR : 1 ≤ R ∧ R ≤ 32) : CaF (chartB W H cell ox oy f) f R :=
  ⟨chartB_u8 W H cell ox oy f, by have := chart_big (cell := cell) (ox := ox) (oy := oy) (by omega : W ≤ 256 ∧ H ≤ 256) hz; omega, chart_opens hW hz, chart_good hW hz hi, hR⟩
attribute [local irreducible] OJ J HdJ Code.wpIn wpListIn Oper.wpIn bodyPost CallsIn Does
set_option maxRecDepth 4000
set_option maxHeartbeats 16000000 in
theorem open10 (W H cell : Nat) (Af : Option Addr) (cf : Nat) (f : List Int) (ox oy : Int) (R : Nat) (w : World) (hr : RoA w (blocks []) Af f.length cf 1 (ints .i16 f)) (hW : 2 ≤ W ∧ W ≤ 256 ∧ 2 ≤ H ∧ H ≤ 256 ∧ 1 ≤ cell ∧ cell ≤ 1000) (hz : f.length = W * H) (hi : In16 f) (hox : InR .i32 ox) (hoy : InR .i32 oy) (hR : 4 ≤ R ∧ R ≤ 32) :
    Does Tryz.prog 11 [.agg #[.int .i64 W, .int .i64 H, .slice Af f.length cf, .int .i64 cell, .int .i32 ox, .int .i32 oy], .int .i64 R] [] w (fun v S' => ∃ K : CaT, K.ys = chartB W H cell ox oy f ∧ K.room = R ∧ v = .pointer (some ⟨K.g, 0, none⟩) ∧ S' = K.H (newV R)) := by
  refine does_of Tryz.func11 rfl Tryz.ntmps11 rfl ⟨by simp, .nil⟩ (fun n => ?_)
  simp only [slots]
  refine z_tas
  refine lf rfl rfl rfl (S := []) (fun w hw ho => cput_ok W H cell Af cf f ox oy w ⟨hr.h.go hw (Split.nil _)⟩ hW hz hi hox hoy) ?_
  rintro v S' ⟨Ab, cb, rfl, rfl⟩
  have hF := caF_of (ox := ox) (oy := oy) hW hz hi (by omega : 1 ≤ R ∧ R ≤ 32)
  have hget := chart_get (ox := ox) (oy := oy) hW hz hi
  generalize chartB W H cell ox oy f = bb at *
  refine z_tas
  refine lf rfl rfl rfl (S := []) (fun w hw ho => new_c Ab cb bb R w ⟨Ro.row hw (Split.nil _) (by refine z_hs)⟩ hF.u8 hF.len (by omega)) ?_
  rintro v S' (⟨code, hne, rfl, rfl, ⟨h, -⟩ | ⟨-, h⟩⟩ | ⟨-, -, K, hys, hrm, rfl, rfl⟩)
  · exfalso; omega
  · exact absurd (h.one hget) hne
  have hrm : K.room = R := by omega
  rw [hrm]
  refine z_tas
  exact j_out1 rfl rfl Sub.au ⟨K, hys, hrm, rfl, rfl⟩
end Go.Proofs.YtemmnpgebpffbaaGreat
/- Package wide, and the roots. -/
namespace Go.Proofs.YtemmnpgebpffbaaGreat
open Go.RowKit
/-- A call that the model answers on its own. -/
class XV (P : Program) (f : FuncId) (us : List Value) (v : outParam Value) (c : outParam Prop) : Prop where h : c → ∀ w, (callFunc f us.toArray).run P w = .ok (.value v) w
section
variable {F : Fence} {n : Nat} {P : Program} {N : Nat} {ds : List Deferred} {w0 : World} {W : Nat → Prop} {σ : List (Nat × Value)} {H R S : List HE} {Q : Exit → Act → World → Prop}
variable {ops : Array Oper} {rest : List Oper} {d : Nat} {ty : TypeId} {pos : String} {aft : Array Edge} {gd : Option (Nat × Bool)} {v : Value} {us : List Value} {c : Prop}
theorem lxv [Wide F] {f : FuncId} {args : Array Operand} {ts : Array TypeId} (hw : wantd ops σ ⟨some d, .call ⟨.value (.func f), args, ts⟩, ty, pos, aft, gd⟩ = some true) (hv : vals σ args.toList = some us) [hx : XV P f us v c] (hdN : Nat.blt d N = true) (hc : c)
    (h : J N ds w0 W ((d, v) :: σ) H (wpListIn F n P ops Q rest)) : J N ds w0 W σ H (wpListIn F n P ops Q (⟨some d, .call ⟨.value (.func f), args, ts⟩, ty, pos, aft, gd⟩ :: rest)) := by
  refine l_run hw (o_val (by simp) rfl hdN (fun a w ha _ => ?_) h)
  have hargs : args.map a.eval = us.toArray := by
    rw [← vals_map ha hv]
    apply Array.ext'
    simp
  have hf : a.eval (.func f) = .func (.func f) #[] #[] := rfl
  have e0 : (#[] ++ us.toArray ++ #[] : Array Value) = us.toArray := by simp
  simp only [execOp, resolve, invoke, Deferred.ofValue, Sem.run_bind, Sem.run_pure, Result.andThen_ok, hf, hargs, e0, hx.h hc w]
end
instance add64_x (x y c : Int) : XV Tryz.prog 130 [.int .u64 x, .int .u64 y, .int .u64 c] (.tuple #[.int .u64 ((x + y + c) % 18446744073709551616), .int .u64 ((x + y + c) / 18446744073709551616)]) (0 ≤ x ∧ 0 ≤ y ∧ 0 ≤ c ∧ c ≤ 1) := ⟨fun hc w => by
  have := run_callFunc_extern (e := add64Entry) Tryz.func130 (by kernel_rfl) (by kernel_rfl) (by kernel_rfl) (by kernel_rfl) [.int .u64 x, .int .u64 y, .int .u64 c].toArray w
  rw [this, run_add64 x y c (by omega) (by omega) (by omega) (by omega)]
  rfl⟩
theorem and_mask {a : Int} (h : 0 ≤ a ∧ a < 18446744073709551616) : bits .and .u64 a 4294967295 = a % 4294967296 := by
  have := bits_mask .u64 64 (by decide) (fun n h0 h1 => by rw [IntKind.wrap_u64]; omega) 32 (by decide) a h.1 (by omega)
  exact this
theorem shr32 (a : Int) : a / 2 ^ (OfNat.ofNat 32 : Nat) = a / 4294967296 := rfl
theorem mul64_key {x0 x1 y0 y1 : Int} (hx0 : 0 ≤ x0 ∧ x0 < 4294967296) (hx1 : 0 ≤ x1 ∧ x1 < 4294967296) (hy0 : 0 ≤ y0 ∧ y0 < 4294967296) (hy1 : 0 ≤ y1 ∧ y1 < 4294967296) :
    (0 ≤ x0 * y0 ∧ x0 * y0 ≤ 18446744065119617025) ∧ (0 ≤ x1 * y0 ∧ x1 * y0 ≤ 18446744065119617025) ∧ (0 ≤ x0 * y1 ∧ x0 * y1 ≤ 18446744065119617025) ∧ (0 ≤ x1 * y1 ∧ x1 * y1 ≤ 18446744065119617025) ∧
    (x1 * 4294967296 + x0) * (y1 * 4294967296 + y0) = x1 * y1 * 18446744073709551616 + (x1 * y0 + x0 * y1) * 4294967296 + x0 * y0 := by
  have key : ∀ a b : Int, 0 ≤ a ∧ a < 4294967296 → 0 ≤ b ∧ b < 4294967296 → 0 ≤ a * b ∧ a * b ≤ 18446744065119617025 := fun a b ha hb => by
    have h1 := Int.mul_le_mul (show a ≤ 4294967295 by omega) (show b ≤ 4294967295 by omega) hb.1 (by omega)
    exact ⟨Int.mul_nonneg ha.1 hb.1, by omega⟩
  exact ⟨key _ _ hx0 hy0, key _ _ hx1 hy0, key _ _ hx0 hy1, key _ _ hx1 hy1, by grind⟩
attribute [local irreducible] OJ J HdJ Code.wpIn wpListIn Oper.wpIn bodyPost CallsIn Does
set_option maxRecDepth 4000
set_option maxHeartbeats 8000000 in
instance mul64_any (x y : Int) : CV Tryz.prog 90 [.int .u64 x, .int .u64 y] (.tuple #[.int .u64 (x * y / 18446744073709551616), .int .u64 (x * y % 18446744073709551616)]) ((0 ≤ x ∧ x < 18446744073709551616) ∧ (0 ≤ y ∧ y < 18446744073709551616)) := ⟨fun hc w => by
  refine does_of Tryz.func90 rfl Tryz.ntmps90 rfl ⟨by simp, .nil⟩ (fun n => ?_)
  simp only [slots]
  refine z_gob
  refine j_out2 rfl rfl rfl Sub.au ⟨?_, rfl⟩
  obtain ⟨h1, h2, h3, h4, h5⟩ := mul64_key (x0 := x % 4294967296) (x1 := x / 4294967296) (y0 := y % 4294967296) (y1 := y / 4294967296) (by omega) (by omega) (by omega) (by omega)
  rw [show x / 4294967296 * 4294967296 + x % 4294967296 = x by omega, show y / 4294967296 * 4294967296 + y % 4294967296 = y by omega] at h5
  simp only [shr32, IntKind.wrap_u64, and_mask hc.1, and_mask hc.2]
  rw [and_mask (by omega)]
  generalize x % 4294967296 * (y % 4294967296) = p00 at *
  generalize x / 4294967296 * (y % 4294967296) = p10 at *
  generalize x % 4294967296 * (y / 4294967296) = p01 at *
  generalize x / 4294967296 * (y / 4294967296) = p11 at *
  generalize x * y = z at *
  congr 4
  omega⟩
/-- A number of 128 bits. -/
@[reducible] def wideV (z : Int) : List Value := [.int .i64 (z / 18446744073709551616), .int .u64 (z % 18446744073709551616)]
def absI (x : Int) : Int := if x < 0 then -x else x
theorem absI_sq (x : Int) : absI x * absI x = x * x := by unfold absI; split; exact Int.neg_mul_neg x x; rfl
theorem conv_u64 {x : Int} (h : -9223372036854775808 ≤ x ∧ x < 0) : IntKind.u64.wrap x = x + 18446744073709551616 := by rw [IntKind.wrap_u64]; omega
set_option maxHeartbeats 4000000 in
instance magnitude_any (x : Int) : CV Tryz.prog 91 [.int .i64 x] (.int .u64 (absI x)) (InR .i64 x) := ⟨fun hc w => by
  refine does_of Tryz.func91 rfl Tryz.ntmps91 rfl ⟨by simp, .nil⟩ (fun n => ?_)
  simp only [slots]
  simp only [InR] at hc
  refine z_gob
  all_goals exact j_out1 rfl rfl Sub.au ⟨congrArg (Value.int .u64) (by unfold absI; split <;> (first | (simp only [IntKind.wrap_u64]; omega) | omega)), rfl⟩⟩
set_option maxHeartbeats 4000000 in
/-- The square of a number that is not too great. -/
instance mulsq_any (x : Int) : CV Tryz.prog 56 [.int .i64 x, .int .i64 x] (.agg (wideV (x * x)).toArray) (-2147483648 ≤ x ∧ x ≤ 2147483648) := ⟨fun hc w => by
  have h0 : 0 ≤ absI x ∧ absI x ≤ 2147483648 := by unfold absI; split <;> omega
  have h1 := mulB 2147483648 2147483648 (a := x) (b := x) (by omega) (by omega)
  have h2 := absI_sq x
  have h3 : 0 ≤ x * x := by rw [← h2]; exact Int.mul_nonneg h0.1 h0.1
  refine does_of Tryz.func56 rfl Tryz.ntmps56 rfl ⟨by simp, .nil⟩ (fun n => ?_)
  simp only [slots]
  rw [← h2] at h1 h3 ⊢
  refine z_gob
  refine z_ro
  exact ⟨rfl, rfl⟩⟩
theorem wide_eq {A B A' B' : Int} {c : Bool} (h1 : A = A') (h2 : B = B') (h3 : c = true) : retV [.agg #[.int .i64 A, .int .u64 B], .bool c] = Value.tuple #[.agg #[.int .i64 A', .int .u64 B'], .bool true] := by subst h1 h2 h3; rfl
set_option maxHeartbeats 4000000 in
instance addw_any (x y : Int) : CV Tryz.prog 101 [.agg (wideV x).toArray, .agg (wideV y).toArray] (.tuple #[.agg (wideV (x + y)).toArray, .bool true]) ((0 ≤ x ∧ x < 4611686018427387904) ∧ (0 ≤ y ∧ y < 4611686018427387904)) := ⟨fun hc w => by
  refine does_of Tryz.func101 rfl Tryz.ntmps101 rfl ⟨by simp, .nil⟩ (fun n => ?_)
  simp only [slots]
  simp only [wideV]
  rw [show x / 18446744073709551616 = 0 by omega, show y / 18446744073709551616 = 0 by omega]
  refine z_gob
  refine c_dre 1 rfl rfl (by decide) (by decide +kernel) ?_
  refine z_gob
  all_goals (refine z_ro; refine ⟨wide_eq (by omega) (by omega) ?_, rfl⟩)
  all_goals first | rfl | (simp; omega)⟩
def orB (r : Int) (k : Nat) : Int := bits .or .u64 r (IntKind.u64.wrap (1 * 2 ^ (min ((63 : Int) - k).toNat IntKind.u64.bits)))
/-- The root, bit by bit, of a number of which the upper half is 0. -/
def rootTo (s : Int) : Nat → Int
  | 0 => 0
  | k + 1 => if orB (rootTo s k) k * orB (rootTo s k) k / 18446744073709551616 = 0 ∧ orB (rootTo s k) k * orB (rootTo s k) k % 18446744073709551616 ≤ s then orB (rootTo s k) k else rootTo s k
theorem or_in (a b : Int) : 0 ≤ bits .or .u64 a b ∧ bits .or .u64 a b < 18446744073709551616 := by
  have h : ∀ z : Int, 0 ≤ IntKind.u64.wrap z ∧ IntKind.u64.wrap z < 18446744073709551616 := fun z => by rw [IntKind.wrap_u64]; omega
  exact h _
theorem rootTo_in (s : Int) : ∀ k, 0 ≤ rootTo s k ∧ rootTo s k < 18446744073709551616
  | 0 => by simp [rootTo]
  | k + 1 => by
    unfold rootTo
    split
    · exact or_in _ _
    · exact rootTo_in s k
end Go.Proofs.YtemmnpgebpffbaaGreat
/- Package wide: products of both signs, quotients. -/
namespace Go.Proofs.YtemmnpgebpffbaaGreat
open Go.RowKit
instance sub64_x (x y c : Int) : XV Tryz.prog 126 [.int .u64 x, .int .u64 y, .int .u64 c] (.tuple #[.int .u64 ((x - y - c) % 18446744073709551616), .int .u64 (if x < y + c then 1 else 0)]) ((0 ≤ x ∧ x < 18446744073709551616) ∧ (0 ≤ y ∧ y < 18446744073709551616) ∧ 0 ≤ c ∧ c ≤ 1) := ⟨fun hc w => by
  obtain ⟨X, rfl⟩ : ∃ n : Nat, x = n := ⟨x.toNat, by omega⟩
  obtain ⟨Y, rfl⟩ : ∃ n : Nat, y = n := ⟨y.toNat, by omega⟩
  obtain ⟨C, rfl⟩ : ∃ n : Nat, c = n := ⟨c.toNat, by omega⟩
  have := run_callFunc_extern (e := sub64Entry) Tryz.func126 (by kernel_rfl) (by kernel_rfl) (by kernel_rfl) (by kernel_rfl) [.int .u64 (X : Int), .int .u64 (Y : Int), .int .u64 (C : Int)].toArray w
  rw [this, run_sub64 X Y C (by omega)]
  have e1 : (((X + 18446744073709551616 - Y - C) % 18446744073709551616 : Nat) : Int) = ((X : Int) - Y - C) % 18446744073709551616 := by omega
  have e2 : ((if X < Y + C then 1 else 0 : Nat) : Int) = if (X : Int) < Y + C then 1 else 0 := by
    split <;> rename_i h
    · rw [if_pos (by omega)]; rfl
    · rw [if_neg (by omega)]; rfl
  rw [e1, e2]
  rfl⟩
theorem wideA_eq {A B A' B' : Int} (h1 : A = A') (h2 : B = B') : retV [.agg #[.int .i64 A, .int .u64 B]] = Value.agg #[.int .i64 A', .int .u64 B'] := by subst h1 h2; rfl
attribute [local irreducible] OJ J HdJ Code.wpIn wpListIn Oper.wpIn bodyPost CallsIn Does
set_option maxRecDepth 4000
set_option maxHeartbeats 8000000 in
instance negw_any (z : Int) : CV Tryz.prog 92 [.agg (wideV z).toArray] (.agg (wideV (-z)).toArray) (-4611686018427387904 ≤ z ∧ z ≤ 4611686018427387904) := ⟨fun hc w => by
  refine does_of Tryz.func92 rfl Tryz.ntmps92 rfl ⟨by simp, .nil⟩ (fun n => ?_)
  simp only [slots]
  refine z_gob
  refine z_ro
  refine ⟨wideA_eq ?_ (by omega), rfl⟩
  rw [IntKind.wrap_u64, IntKind.wrap_u64, IntKind.wrap_u64, IntKind.wrap_i64]
  split <;> omega⟩
theorem absI_mul (a b : Int) : absI a * absI b = absI (a * b) := by
  unfold absI
  rcases Int.lt_or_le a 0 with ha | ha <;> rcases Int.lt_or_le b 0 with hb | hb
  · rw [if_pos ha, if_pos hb, if_neg (by have := Int.mul_pos_of_neg_of_neg ha hb; omega), Int.neg_mul_neg]
  · rw [if_pos ha, if_neg (by omega)]
    rcases Int.lt_or_le 0 b with h0 | h0
    · rw [if_pos (Int.mul_neg_of_neg_of_pos ha h0), Int.neg_mul]
    · obtain rfl : b = 0 := by omega
      simp
  · rw [if_pos hb, if_neg (by omega)]
    rcases Int.lt_or_le 0 a with h0 | h0
    · rw [if_pos (Int.mul_neg_of_pos_of_neg h0 hb), Int.mul_neg]
    · obtain rfl : a = 0 := by omega
      simp
  · rw [if_neg (by omega), if_neg (by omega), if_neg (by have := Int.mul_nonneg ha hb; omega)]
theorem absI_sgn (a b : Int) (h : (a < 0) = (b < 0) ∨ a * b = 0) : absI (a * b) = a * b := by
  rcases h with h | h
  · unfold absI
    rcases Int.lt_or_le a 0 with ha | ha
    · rw [if_neg (by have := Int.mul_pos_of_neg_of_neg ha (h ▸ ha); omega)]
    · have hb : ¬ b < 0 := h ▸ (by omega : ¬ a < 0)
      rw [if_neg (by have := Int.mul_nonneg ha (by omega : 0 ≤ b); omega)]
  · rw [h]; rfl
theorem absI_neg (a b : Int) (h : (a < 0) ≠ (b < 0)) : - absI (a * b) = a * b := by
  unfold absI
  rcases Int.lt_or_le a 0 with ha | ha <;> rcases Int.lt_or_le b 0 with hb | hb
  · exact absurd (propext ⟨fun _ => hb, fun _ => ha⟩) h
  · have := Int.mul_nonpos_of_nonpos_of_nonneg (by omega : a ≤ 0) hb
    split <;> omega
  · have := Int.mul_nonpos_of_nonneg_of_nonpos ha (by omega : b ≤ 0)
    split <;> omega
  · exact absurd (propext ⟨fun _ => by omega, fun _ => by omega⟩) h
instance mulw_any (a b : Int) : CV Tryz.prog 56 [.int .i64 a, .int .i64 b] (.agg (wideV (a * b)).toArray) (InR .i64 a ∧ InR .i64 b ∧ -4611686018427387904 ≤ a * b ∧ a * b ≤ 4611686018427387904) := ⟨fun hc w => by
  have h1 := absI_mul a b
  have h2 : 0 ≤ absI (a * b) ∧ absI (a * b) ≤ 4611686018427387904 := by unfold absI; split <;> omega
  have ha : 0 ≤ absI a ∧ absI a < 18446744073709551616 := by unfold absI; split <;> omega
  have hb : 0 ≤ absI b ∧ absI b < 18446744073709551616 := by unfold absI; split <;> omega
  refine does_of Tryz.func56 rfl Tryz.ntmps56 rfl ⟨by simp, .nil⟩ (fun n => ?_)
  simp only [slots]
  rw [← h1] at h2
  refine z_gob
  · rename_i h
    refine z_ro
    refine ⟨?_, rfl⟩
    rw [h1, absI_neg a b (fun e => h (by rw [e]))]
    rfl
  · rename_i h
    refine z_ro
    refine ⟨?_, rfl⟩
    rw [h1, absI_sgn a b (.inl (propext (Classical.not_not.1 h)))]
    rfl⟩
/-- How a quotient is rounded: the magnitude one more? -/
def upB (mode rest by' : Int) (minus : Bool) : Bool := decide (rest ≠ 0) && ((decide (mode = 0) && minus) || (decide (mode = 1) && !minus) || (decide (mode = 2) && (decide (by' < 2 * rest) || (decide (by' = 2 * rest) && !minus))))
instance up_any (mode rest by' : Int) (minus : Bool) : CV Tryz.prog 128 [.int .i64 mode, .int .u64 rest, .int .u64 by', .bool minus] (.bool (upB mode rest by' minus)) (0 ≤ rest ∧ rest < by' ∧ by' < 9223372036854775808) := ⟨fun hc w => by
  refine does_of Tryz.func128 rfl Tryz.ntmps128 rfl ⟨by simp, .nil⟩ (fun n => ?_)
  simp only [slots]
  cases minus
  all_goals refine z_gob
  all_goals first
    | exact j_out1 rfl rfl (.nil _) ⟨congrArg Value.bool (by unfold upB; simp; omega), rfl⟩
    | fail⟩
theorem two_eq {A A' : Int} {c : Bool} (h1 : A = A') (h2 : c = true) : retV [.int .i64 A, .bool c] = Value.tuple #[.int .i64 A', .bool true] := by subst h1 h2; rfl
instance signed_any (m : Int) (minus : Bool) : CV Tryz.prog 129 [.int .u64 m, .bool minus] (.tuple #[.int .i64 (bif minus then -m else m), .bool true]) (0 ≤ m ∧ m < 9223372036854775808) := ⟨fun hc w => by
  refine does_of Tryz.func129 rfl Tryz.ntmps129 rfl ⟨by simp, .nil⟩ (fun n => ?_)
  simp only [slots]
  cases minus
  all_goals refine z_gob
  all_goals refine z_ro
  · exact ⟨two_eq rfl (decide_eq_true (by omega)), rfl⟩
  · exact ⟨two_eq (by show IntKind.i64.wrap (IntKind.u64.wrap (0 - m)) = -m; rw [IntKind.wrap_u64, IntKind.wrap_i64]; omega) (decide_eq_true (by omega)), rfl⟩⟩
instance div64_0 (lo y : Int) : CV Tryz.prog 127 [.int .u64 0, .int .u64 lo, .int .u64 y] (.tuple #[.int .u64 (lo / y), .int .u64 (lo % y)]) ((0 ≤ lo ∧ lo < 18446744073709551616) ∧ 0 < y ∧ y < 18446744073709551616) := ⟨fun hc w => by
  refine does_of Tryz.func127 rfl Tryz.ntmps127 rfl ⟨by simp, .nil⟩ (fun n => ?_)
  simp only [slots]
  refine z_gob
  exact j_out2 rfl rfl rfl (.nil _) ⟨rfl, rfl⟩⟩
/-- A quotient, rounded. -/
def divV (z b mode : Int) : Int := bif decide (z < 0) then -(absI z / b + if upB mode (absI z % b) b (decide (z < 0)) then 1 else 0) else absI z / b + if upB mode (absI z % b) b (decide (z < 0)) then 1 else 0
set_option maxHeartbeats 16000000 in
instance divw_any (z b mode : Int) : CV Tryz.prog 93 [.agg (wideV z).toArray, .int .i64 b, .int .i64 mode] (.tuple #[.int .i64 (divV z b mode), .int .i64 0]) ((-4611686018427387904 ≤ z ∧ z ≤ 4611686018427387904) ∧ (0 < b ∧ b ≤ 4611686018427387904) ∧ 0 ≤ mode ∧ mode ≤ 3) := ⟨fun hc w => by
  obtain ⟨⟨c1, c2⟩, ⟨c3, c4⟩, c5, c6⟩ := hc
  have hab : absI b = b := by unfold absI; rw [if_neg (by omega)]
  have hq : 0 ≤ absI z / b ∧ absI z / b ≤ 4611686018427387904 := by
    have h0 : 0 ≤ absI z ∧ absI z ≤ 4611686018427387904 := by unfold absI; split <;> omega
    exact ⟨Int.ediv_nonneg h0.1 (by omega), Int.le_trans (Int.ediv_le_self _ h0.1) h0.2⟩
  have hr : 0 ≤ absI z % b ∧ absI z % b < b := ⟨Int.emod_nonneg _ (by omega), Int.emod_lt_of_pos _ c3⟩
  refine does_of Tryz.func93 rfl Tryz.ntmps93 rfl ⟨by simp, .nil⟩ (fun n => ?_)
  simp only [slots]
  rcases Int.lt_or_le z 0 with hz | hz
  · have hz1 : z / 18446744073709551616 = -1 := by omega
    have ez : absI z = -z := by unfold absI; rw [if_pos hz]
    have e1 : -z / 18446744073709551616 = 0 := by omega
    have e2 : -z % 18446744073709551616 = -z := by omega
    unfold divV
    rw [ez] at hq hr
    rw [decide_eq_true hz, ez]
    refine z_tas
    refine j_set 8 _ rfl (v' := .bool true) (congrArg Value.bool (by rw [decide_eq_true (by omega : z / 18446744073709551616 < 0), decide_eq_false (by omega : ¬ b < 0)]; rfl)) ?_
    simp only [e1, e2, hab]
    refine z_tas
    all_goals refine z_ro
    all_goals first
      | (rw [if_pos (by assumption)]; exact ⟨rfl, rfl⟩)
      | (rw [if_neg (by assumption), Int.add_zero]; exact ⟨rfl, rfl⟩)
  · have hz1 : z / 18446744073709551616 = 0 := by omega
    have hz2 : z % 18446744073709551616 = z := by omega
    have ez : absI z = z := by unfold absI; rw [if_neg (by omega)]
    unfold divV
    simp only [wideV]
    rw [ez] at hq hr
    rw [decide_eq_false (by omega : ¬ z < 0), ez]
    rw [hz1, hz2]
    refine z_tas
    refine j_set 57 _ rfl (v' := .bool false) (congrArg Value.bool (by rw [decide_eq_false (by omega : ¬ b < 0)]; rfl)) ?_
    refine j_set 8 _ rfl (v' := .bool false) (congrArg Value.bool (by rw [decide_eq_false (by omega : ¬ b < 0)]; rfl)) ?_
    simp only [hab]
    refine z_tas
    all_goals refine z_ro
    all_goals first
      | (rw [if_pos (by assumption)]; exact ⟨rfl, rfl⟩)
      | (rw [if_neg (by assumption), Int.add_zero]; exact ⟨rfl, rfl⟩)⟩
instance muldiv_any (a b c mode : Int) : CV Tryz.prog 57 [.int .i64 a, .int .i64 b, .int .i64 c, .int .i64 mode] (.tuple #[.int .i64 (divV (a * b) c mode), .int .i64 0]) ((InR .i64 a ∧ InR .i64 b ∧ -4611686018427387904 ≤ a * b ∧ a * b ≤ 4611686018427387904) ∧ (0 < c ∧ c ≤ 4611686018427387904) ∧ 0 ≤ mode ∧ mode ≤ 3) := ⟨fun hc w => by
  obtain ⟨⟨c1, c2, c3, c4⟩, c5, c6⟩ := hc
  refine does_of Tryz.func57 rfl Tryz.ntmps57 rfl ⟨by simp, .nil⟩ (fun n => ?_)
  simp only [slots]
  refine z_tas
  refine z_ro
  exact ⟨rfl, rfl⟩⟩
/-- Rounded down. -/
theorem divV_down {z b : Int} (hb : 0 < b) : divV z b 0 = z / b := by
  have h1 := Int.mul_ediv_add_emod (absI z) b
  have h2 := Int.emod_nonneg (absI z) (by omega : b ≠ 0)
  have h3 := Int.emod_lt_of_pos (absI z) hb
  unfold divV upB
  generalize absI z / b = q at *
  generalize absI z % b = r at *
  rcases Int.lt_or_le z 0 with hz | hz
  · have ez : absI z = -z := by unfold absI; rw [if_pos hz]
    rw [ez] at h1
    rw [decide_eq_true hz]
    rcases Int.lt_or_le 0 r with hr | hr
    · simp only [show decide (r ≠ 0) = true from decide_eq_true (by omega)]
      simp only [decide_true, Bool.and_self, Bool.true_or, Bool.and_true, if_true, cond_true]
      refine ((Int.ediv_emod_unique (r := b - r) (q := -(q + 1)) hb).2 ⟨?_, by omega, by omega⟩).1.symm
      rw [Int.mul_neg, Int.mul_add, Int.mul_one]; omega
    · obtain rfl : r = 0 := by omega
      simp only [ne_eq, not_true_eq_false, decide_false, Bool.false_and, cond_true, Bool.false_eq_true, if_false, Int.add_zero]
      refine ((Int.ediv_emod_unique (r := 0) (q := -q) hb).2 ⟨?_, by omega, by omega⟩).1.symm
      rw [Int.mul_neg]; omega
  · have ez : absI z = z := by unfold absI; rw [if_neg (by omega)]
    rw [ez] at h1
    rw [decide_eq_false (by omega : ¬ z < 0)]
    simp only [Bool.and_false, Bool.or_false, Bool.false_or, Bool.not_false, Bool.and_true, cond_false, show decide ((0 : Int) = 1) = false from rfl, show decide ((0 : Int) = 2) = false from rfl, Bool.false_and, Bool.false_eq_true, if_false, Int.add_zero]
    exact ((Int.ediv_emod_unique (r := r) (q := q) hb).2 ⟨by omega, by omega, by omega⟩).1.symm
/-- Rounded to the nearer one. -/
theorem divV_near {z b : Int} (hb : 0 < b) : divV z b 2 = (2 * z + b) / (2 * b) := by
  have h1 := Int.mul_ediv_add_emod (absI z) b
  have h2 := Int.emod_nonneg (absI z) (by omega : b ≠ 0)
  have h3 := Int.emod_lt_of_pos (absI z) hb
  unfold divV upB
  generalize absI z / b = q at *
  generalize absI z % b = r at *
  have key : ∀ x s : Int, 2 * z + b = 2 * (b * x) + s → 0 ≤ s → s < 2 * b → x = (2 * z + b) / (2 * b) := fun x s e h4 h5 =>
    ((Int.ediv_emod_unique (r := s) (q := x) (by omega : 0 < 2 * b)).2 ⟨by rw [Int.mul_assoc]; omega, h4, h5⟩).1.symm
  rcases Int.lt_or_le z 0 with hz | hz
  · have ez : absI z = -z := by unfold absI; rw [if_pos hz]
    rw [ez] at h1
    rw [decide_eq_true hz]
    simp only [cond_true, Bool.not_true, Bool.and_false, Bool.or_false, show decide ((2 : Int) = 0) = false from rfl, show decide ((2 : Int) = 1) = false from rfl, show decide ((2 : Int) = 2) = true from rfl, Bool.false_and, Bool.false_or, Bool.true_and]
    rcases Int.lt_or_le b (2 * r) with hr | hr
    · rw [decide_eq_true hr, decide_eq_true (by omega : r ≠ 0)]
      rw [show (true && (decide True && true)) = true from rfl, if_pos rfl]
      exact key _ (3 * b - 2 * r) (by rw [Int.mul_neg, Int.mul_add, Int.mul_one]; omega) (by omega) (by omega)
    · rw [decide_eq_false (by omega : ¬ b < 2 * r)]
      simp only [Bool.and_false, Bool.false_eq_true, if_false, Int.add_zero]
      exact key _ (b - 2 * r) (by rw [Int.mul_neg]; omega) (by omega) (by omega)
  · have ez : absI z = z := by unfold absI; rw [if_neg (by omega)]
    rw [ez] at h1
    rw [decide_eq_false (by omega : ¬ z < 0)]
    simp only [cond_false, Bool.not_false, Bool.and_true, show decide ((2 : Int) = 0) = false from rfl, show decide ((2 : Int) = 1) = false from rfl, show decide ((2 : Int) = 2) = true from rfl, Bool.false_and, Bool.false_or, Bool.true_and]
    rcases Int.lt_or_le (2 * r) b with hr | hr
    · rw [decide_eq_false (by omega : ¬ b < 2 * r), decide_eq_false (by omega : ¬ b = 2 * r)]
      simp only [Bool.or_self, Bool.and_false, Bool.false_eq_true, if_false, Int.add_zero]
      exact key _ (b + 2 * r) (by omega) (by omega) (by omega)
    · have e : (decide (b < 2 * r) || decide (b = 2 * r)) = true := by
        rw [Bool.or_eq_true, decide_eq_true_eq, decide_eq_true_eq]; omega
      rw [e, decide_eq_true (by omega : r ≠ 0)]
      rw [show (true && (decide True && true)) = true from rfl, if_pos rfl]
      exact key _ (2 * r - b) (by rw [Int.mul_add, Int.mul_one]; omega) (by omega) (by omega)
end Go.Proofs.YtemmnpgebpffbaaGreat
/- Package root: Floor; the reference's Floor. -/
namespace Go.Proofs.YtemmnpgebpffbaaGreat
open Go.RowKit
/-- The greatest number whose square is no more. -/
def isq : Nat → Nat
  | 0 => 0
  | x + 1 => if (isq x + 1) * (isq x + 1) ≤ x + 1 then isq x + 1 else isq x
theorem isq_spec : ∀ x, isq x * isq x ≤ x ∧ x < (isq x + 1) * (isq x + 1)
  | 0 => by simp [isq]
  | x + 1 => by
    obtain ⟨h1, h2⟩ := isq_spec x
    rw [isq]
    generalize isq x = r at *
    have e1 : (r + 1) * (r + 1) = r * r + 2 * r + 1 := by rw [Nat.add_mul, Nat.mul_add]; omega
    have e2 : (r + 1 + 1) * (r + 1 + 1) = r * r + 4 * r + 4 := by rw [Nat.add_mul, Nat.mul_add, Nat.add_mul, Nat.mul_add]; omega
    split
    · exact ⟨by assumption, by omega⟩
    · exact ⟨by omega, by omega⟩
theorem isq_of {x r : Nat} (h1 : r * r ≤ x) (h2 : x < (r + 1) * (r + 1)) : isq x = r := by
  obtain ⟨g1, g2⟩ := isq_spec x
  rcases Nat.lt_trichotomy (isq x) r with h | h | h
  · have := Nat.mul_le_mul h h
    rw [Nat.succ_eq_add_one] at this
    omega
  · exact h
  · have := Nat.mul_le_mul h h
    rw [Nat.succ_eq_add_one] at this
    omega
theorem l_str {F : Fence} {n : Nat} {P : Program} {N : Nat} {ds : List Deferred} {w0 : World} {W : Nat → Prop} {σ : List (Nat × Value)} {H : List HE} {Q : Exit → Act → World → Prop} {ops : Array Oper} {rest : List Oper} {d : Nat} {ty : TypeId} {pos : String} {aft : Array Edge} {gd : Option (Nat × Bool)} [Wide F] {x y : Operand} {t : TypeId} {s : ByteArray} {k : IntKind} {i : Nat} [hu : Und P t .string]
    (hw : wantd ops σ ⟨some d, .index t x y, ty, pos, aft, gd⟩ = some true) (hx : ev σ x = some (.string s)) (hy : ev σ y = some (.int k (i : Int))) (hs : Nat.ble 256 s.size = true) (hi : i < 256) (hT : ∀ i : Fin 256, (i : Nat) < 2 ^ (s.data.getD i 0).toNat ∧ (s.data.getD i 0).toNat ≤ 8) (hdN : Nat.blt d N = true)
    (h : ∀ t : Nat, i < 2 ^ t → t ≤ 8 → J N ds w0 W ((d, .int .u8 (t : Nat)) :: σ) H (wpListIn F n P ops Q rest)) : J N ds w0 W σ H (wpListIn F n P ops Q (⟨some d, .index t x y, ty, pos, aft, gd⟩ :: rest)) :=
  l_run hw (o_val (by simp) rfl hdN (fun a w ha _ => by
    have hc : i < s.size := Nat.lt_of_lt_of_le hi (Nat.le_of_ble_eq_true hs)
    have e : s[i]? = some (s.data.getD i 0) := by
      have h1 : s[i]? = some s[i] := by simp [getElem?_pos, hc]
      have hc' : i < s.data.size := hc
      rw [h1]
      congr 1
      show s.data[i] = _
      rw [Array.getD_eq_getD_getElem?, Array.getElem?_eq_getElem hc']
      rfl
    simp [execOp, ha.eval hx, ha.eval hy, Instr.index, run_underlying hu.h, asIntOf, e]) (h _ (hT ⟨i, hi⟩).1 (hT ⟨i, hi⟩).2))
attribute [local irreducible] OJ J HdJ Code.wpIn wpListIn Oper.wpIn bodyPost CallsIn Does
set_option maxRecDepth 4000
theorem lenR {x v b t : Nat} {n : Int} (h1 : v < 2 ^ t) (h2 : t ≤ 8) (hn : n = (b : Int) + (t : Nat)) (e : v = x / 2 ^ b) (hb : b ≤ 56) : 0 ≤ n ∧ n ≤ 64 ∧ x < 2 ^ n.toNat := by
  have en : n.toNat = b + t := by omega
  refine ⟨by omega, by omega, ?_⟩
  rw [en, Nat.pow_add, Nat.mul_comm]
  rw [e] at h1
  exact (Nat.div_lt_iff_lt_mul (Nat.two_pow_pos b)).1 h1
set_option maxHeartbeats 16000000 in
theorem len64_any (x : Nat) (w : World) (hx : x < 18446744073709551616) : Does Tryz.prog 153 [.int .u64 x] [] w (fun v S' => ∃ n : Int, v = .int .i64 n ∧ (0 ≤ n ∧ n ≤ 64 ∧ x < 2 ^ n.toNat) ∧ S' = []) := by
  refine does_of Tryz.func153 rfl Tryz.ntmps153 rfl ⟨by simp, .nil⟩ (fun n => ?_)
  simp only [slots]
  refine z_tas
  all_goals first
    | (refine j_set 21 _ rfl (v' := .int .u8 ((x / 4294967296 / 65536 / 256 : Nat) : Int)) (congrArg (Value.int .u8) (by omega)) ?_; refine z_tas; refine l_str rfl rfl rfl (by decide +kernel) (by omega) (by decide +kernel) rfl fun t h1 h2 => ?_; refine z_tas; refine j_out1 rfl rfl (.nil _) ?_; refine ⟨_, rfl, ?_, rfl⟩; exact lenR (b := 56) h1 h2 (by omega) (by omega) (by omega))
    | (refine j_set 21 _ rfl (v' := .int .u8 ((x / 4294967296 / 65536 : Nat) : Int)) (congrArg (Value.int .u8) (by omega)) ?_; refine z_tas; refine l_str rfl rfl rfl (by decide +kernel) (by omega) (by decide +kernel) rfl fun t h1 h2 => ?_; refine z_tas; refine j_out1 rfl rfl (.nil _) ?_; refine ⟨_, rfl, ?_, rfl⟩; exact lenR (b := 48) h1 h2 (by omega) (by omega) (by omega))
    | (refine j_set 21 _ rfl (v' := .int .u8 ((x / 4294967296 / 256 : Nat) : Int)) (congrArg (Value.int .u8) (by omega)) ?_; refine z_tas; refine l_str rfl rfl rfl (by decide +kernel) (by omega) (by decide +kernel) rfl fun t h1 h2 => ?_; refine z_tas; refine j_out1 rfl rfl (.nil _) ?_; refine ⟨_, rfl, ?_, rfl⟩; exact lenR (b := 40) h1 h2 (by omega) (by omega) (by omega))
    | (refine j_set 21 _ rfl (v' := .int .u8 ((x / 4294967296 : Nat) : Int)) (congrArg (Value.int .u8) (by omega)) ?_; refine z_tas; refine l_str rfl rfl rfl (by decide +kernel) (by omega) (by decide +kernel) rfl fun t h1 h2 => ?_; refine z_tas; refine j_out1 rfl rfl (.nil _) ?_; refine ⟨_, rfl, ?_, rfl⟩; exact lenR (b := 32) h1 h2 (by omega) (by omega) (by omega))
    | (refine j_set 21 _ rfl (v' := .int .u8 ((x / 65536 / 256 : Nat) : Int)) (congrArg (Value.int .u8) (by omega)) ?_; refine z_tas; refine l_str rfl rfl rfl (by decide +kernel) (by omega) (by decide +kernel) rfl fun t h1 h2 => ?_; refine z_tas; refine j_out1 rfl rfl (.nil _) ?_; refine ⟨_, rfl, ?_, rfl⟩; exact lenR (b := 24) h1 h2 (by omega) (by omega) (by omega))
    | (refine j_set 21 _ rfl (v' := .int .u8 ((x / 65536 : Nat) : Int)) (congrArg (Value.int .u8) (by omega)) ?_; refine z_tas; refine l_str rfl rfl rfl (by decide +kernel) (by omega) (by decide +kernel) rfl fun t h1 h2 => ?_; refine z_tas; refine j_out1 rfl rfl (.nil _) ?_; refine ⟨_, rfl, ?_, rfl⟩; exact lenR (b := 16) h1 h2 (by omega) (by omega) (by omega))
    | (refine j_set 21 _ rfl (v' := .int .u8 ((x / 256 : Nat) : Int)) (congrArg (Value.int .u8) (by omega)) ?_; refine z_tas; refine l_str rfl rfl rfl (by decide +kernel) (by omega) (by decide +kernel) rfl fun t h1 h2 => ?_; refine z_tas; refine j_out1 rfl rfl (.nil _) ?_; refine ⟨_, rfl, ?_, rfl⟩; exact lenR (b := 8) h1 h2 (by omega) (by omega) (by omega))
    | (refine j_set 21 _ rfl (v' := .int .u8 ((x : Nat) : Int)) (congrArg (Value.int .u8) (by omega)) ?_; refine z_tas; refine l_str rfl rfl rfl (by decide +kernel) (by omega) (by decide +kernel) rfl fun t h1 h2 => ?_; refine z_tas; refine j_out1 rfl rfl (.nil _) ?_; refine ⟨_, rfl, ?_, rfl⟩; exact lenR (b := 0) h1 h2 (by omega) (by omega) (by omega))
    | (exfalso; omega)
theorem or_pow {r q : Nat} (hq : q ≤ 62) (hr : r < 4294967296) (hm : r % 2 ^ (q + 1) = 0) : bits .or .u64 (r : Int) (IntKind.u64.wrap (1 * 2 ^ (min (q : Int).toNat IntKind.u64.bits))) = ((r + 2 ^ q : Nat) : Int) := by
  have hp : 2 ^ q < 9223372036854775808 := Nat.lt_of_lt_of_le (Nat.pow_lt_pow_right (by decide) (by omega : q < 63)) (Nat.le_refl _)
  have e1 : IntKind.u64.wrap (1 * 2 ^ (min (q : Int).toNat IntKind.u64.bits)) = ((2 ^ q : Nat) : Int) := by
    rw [Int.toNat_natCast, Nat.min_eq_left (show q ≤ IntKind.u64.bits from (by omega : q ≤ 64)), Int.one_mul, IntKind.wrap_u64]
    have e : ((2 : Int) ^ q) = ((2 ^ q : Nat) : Int) := by rw [Int.natCast_pow]; rfl
    rw [e]
    generalize 2 ^ q = p at *
    omega
  rw [e1, bits_or_u64_nat _ _ (by omega) (by omega)]
  congr 1
  have h2 := Nat.two_pow_add_eq_or_of_lt (i := q + 1) (b := 2 ^ q) (by rw [Nat.pow_succ]; have := Nat.two_pow_pos q; omega) (r / 2 ^ (q + 1))
  rw [show 2 ^ (q + 1) * (r / 2 ^ (q + 1)) = r by have := Nat.div_add_mod r (2 ^ (q + 1)); omega] at h2
  exact h2.symm
end Go.Proofs.YtemmnpgebpffbaaGreat
/- Package terrain: corners, the heights around a place. -/
namespace Go.Proofs.YtemmnpgebpffbaaGreat
open Go.RowKit
/-- Does a place lie on a map? -/
def InsP (W H : Nat) (X Y : Int) : Prop := 0 ≤ X ∧ 0 ≤ Y ∧ X ≤ ((W : Int) - 1) * 256 ∧ Y ≤ ((H : Int) - 1) * 256
instance (W H : Nat) (X Y : Int) : Decidable (InsP W H X Y) := by unfold InsP; infer_instance
/-- One of the four heights around a place. -/
def corX (X : Int) (i : Nat) : Int := X / 256 + if X % 256 = 0 then 0 else ((i : Nat) : Int)
def corH (W H : Nat) (f : List Int) (X Y : Int) (i : Nat) : Int × Int := heightF W H f (corX X (i % 2)) (corX Y (i / 2))
/-- What is wrong with the first so many of the four. -/
def codeT (W H : Nat) (f : List Int) (X Y : Int) : Nat → Int
  | 0 => 0
  | i + 1 => if codeT W H f X Y i ≠ 0 then codeT W H f X Y i else (corH W H f X Y i).2
def codeF (W H : Nat) (f : List Int) (X Y : Int) : Int := if InsP W H X Y then codeT W H f X Y 4 else 9
def zT (W H : Nat) (f : List Int) (X Y : Int) : Nat → List Int
  | 0 => [0, 0, 0, 0]
  | i + 1 => (zT W H f X Y i).set i (corH W H f X Y i).1
theorem zT_len (W H : Nat) (f : List Int) (X Y : Int) : ∀ i, (zT W H f X Y i).length = 4
  | 0 => rfl
  | i + 1 => by rw [zT, List.length_set, zT_len W H f X Y i]
def fourF (W H : Nat) (f : List Int) (X Y : Int) : List Int := if codeF W H f X Y = 0 then zT W H f X Y 4 else [0, 0, 0, 0]
theorem heightF_in {W H : Nat} {f : List Int} (hf : In16 f) (x y : Int) : -32768 ≤ (heightF W H f x y).1 ∧ (heightF W H f x y).1 ≤ 32767 := by
  unfold heightF
  split
  · exact ⟨by decide, by decide⟩
  split
  · exact ⟨by decide, by decide⟩
  · exact hf _
instance : SzI Tryz.prog 2 1 := ⟨Tryz.t2, by kernel_rfl, by kernel_rfl⟩
theorem and255 {x : Int} (h : 0 ≤ x) (h2 : x < 4611686018427387904) : bits .and .i64 x 255 = x % 256 := bits_mask .i64 62 (by decide) (fun n h0 h1 => by rw [IntKind.wrap_i64]; omega) 8 (by decide) x h (by omega)
section
variable {P : Program} {w0 : World} {W : Nat → Prop} {H : List HE}
instance (priority := 90) (x y : Operand) (t e m b q sz j r r' : Nat) (k : IntKind) (a : Int) [hu : Und P t (.array m e)] [hI : SzI P e sz] [ha : LitI a j] [hm : NMul j sz r] [hr : NAdd q r r'] : LV P w0 W H (.indexAddr t x y) [.pointer (some ⟨b, q, none⟩), .int k a] (.pointer (some ⟨b, r', none⟩)) (j < m) := ⟨fun hc => by
  have := LV.h (P := P) (w0 := w0) (W := W) (H := H) (op := .indexAddr t x y) (vs := [.pointer (some ⟨b, q, none⟩), .int k (j : Int)]) (v := .pointer (some ⟨b, r', none⟩)) hc
  rw [← ha.h] at this
  exact this⟩
instance (priority := 90) (x y : Operand) (t e m b q sz j r r' : Nat) (k : IntKind) (a : Int) [hu : Und P t (.array m e)] [hI : SzI P e sz] [ha : LitI a j] [hm : NMul j sz r] [hr : NAdd q r r'] : MS P w0 W H (.indexAddr t x y) [.pointer (some ⟨b, q, none⟩), .int k a] (.pointer (some ⟨b, r', none⟩)) (j < m) := by
  have h0 : MS P w0 W H (.indexAddr t x y) [.pointer (some ⟨b, q, none⟩), .int k (j : Int)] (.pointer (some ⟨b, r', none⟩)) (j < m) := inferInstance
  rw [← ha.h] at h0
  exact h0
end
/-- An array of which no part is told. -/
theorem lb0 {F : Fence} {n : Nat} {P : Program} {N : Nat} {ds : List Deferred} {w0 : World} {W : Nat → Prop} {σ : List (Nat × Value)} {H : List HE} {Q : Exit → Act → World → Prop} {ops : Array Oper} {rest : List Oper} {d : Nat} {ty : TypeId} {pos : String} {aft : Array Edge} {gd : Option (Nat × Bool)} [Wide F] {t e m sz bs szt bst : Nat} {z ze : Value} {zs : List Value} [hu : Und P t (.array m e)] [hI : Inf P t szt bst z] [he : Inf P e sz bs ze] [hz : ZC z zs] (hw : wantd ops σ ⟨some d, .build t #[], ty, pos, aft, gd⟩ = some true) (hdN : Nat.blt d N = true)
    (h : J N ds w0 W ((d, .agg zs.toArray) :: σ) H (wpListIn F n P ops Q rest)) : J N ds w0 W σ H (wpListIn F n P ops Q (⟨some d, .build t #[], ty, pos, aft, gd⟩ :: rest)) := by
  refine l_run hw (o_val (by simp) rfl hdN (fun a w ha _ => ?_) h)
  obtain ⟨i, h3, h4, -⟩ := hI.h
  obtain ⟨j, h5, -, h6, -⟩ := he.h
  have hb : (Instr.build t ((#[] : Array (Nat × Operand)).map fun (i, x) => (i, a.eval x))).run P w = .ok (.agg zs.toArray) w := by
    unfold Instr.build
    have hz' : (zeroValue t).run P w = .ok z w := by simp [zeroValue, typeInfo, h3, h4]
    have hs : (sizeOf e).run P w = .ok sz w := by simp [sizeOf, typeInfo, h5, h6]
    have hc : z.cells = zs.toArray := by rw [← hz.h]
    simp only [Sem.run_bind, hz', Result.andThen_ok, run_underlying hu.h, hs, Array.map_empty, Instr.fill, Sem.run_pure, hc]
  simp only [execOp, Sem.run_bind, hb, Result.andThen_ok, Sem.run_pure]
attribute [local irreducible] OJ J HdJ Code.wpIn wpListIn Oper.wpIn bodyPost CallsIn Does
set_option maxRecDepth 4000
set_option maxHeartbeats 16000000 in
theorem inside_any (W H : Nat) (A : Option Addr) (m c : Nat) (cell ox oy X Y : Int) (w : World) (hm : 1 ≤ W ∧ W ≤ 1000000 ∧ 1 ≤ H ∧ H ≤ 1000000) :
    Does Tryz.prog 107 [.agg #[.int .i64 W, .int .i64 H, .slice A m c, .int .i64 cell, .int .i32 ox, .int .i32 oy], .agg #[.int .i64 X, .int .i64 Y]] [] w (fun v S' => v = .bool (decide (InsP W H X Y)) ∧ S' = []) := by
  refine does_of Tryz.func107 rfl Tryz.ntmps107 rfl ⟨by simp, .nil⟩ (fun n => ?_)
  simp only [slots]
  refine z_tas
  all_goals exact j_out1 rfl rfl (.nil _) ⟨congrArg Value.bool (by rw [Bool.eq_iff_iff]; simp only [decide_eq_true_eq, Bool.and_eq_true, Bool.false_eq_true, false_iff]; unfold InsP; omega), rfl⟩
set_option maxHeartbeats 16000000 in
theorem corner_any (X Y : Int) (w : World) (h : (0 ≤ X ∧ X < 4611686018427387904) ∧ (0 ≤ Y ∧ Y < 4611686018427387904)) :
    Does Tryz.prog 70 [.agg #[.int .i64 X, .int .i64 Y]] [] w (fun v S' => v = .tuple #[.int .i64 (X / 256), .int .i64 (Y / 256), .int .i64 (X % 256), .int .i64 (Y % 256)] ∧ S' = []) := by
  refine does_of Tryz.func70 rfl Tryz.ntmps70 rfl ⟨by simp, .nil⟩ (fun n => ?_)
  simp only [slots]
  rw [← and255 h.1.1 h.1.2, ← and255 h.2.1 h.2.2]
  refine z_gob
  all_goals (refine z_ro; exact ⟨rfl, rfl⟩)
theorem four_of {l : List Int} (h : l.length = 4) : ∃ a b c d, l = [a, b, c, d] := by
  match l, h with
  | [a, b, c, d], _ => exact ⟨a, b, c, d, rfl⟩
theorem ints_set (k : IntKind) (xs : List Int) (q : Nat) (v : Int) : (ints k xs).set q (.int k v) = ints k (xs.set q v) := by unfold ints; rw [List.map_set]
theorem and1 : ∀ i : Nat, i < 4 → bits .and .i64 (i : Int) 1 = ((i % 2 : Nat) : Int)
  | 0, _ => by decide
  | 1, _ => by decide
  | 2, _ => by decide
  | 3, _ => by decide
  | n + 4, h => by omega
theorem codeT_stop {W H : Nat} {f : List Int} {X Y : Int} {i : Nat} (h : codeT W H f X Y i ≠ 0) : ∀ k, codeT W H f X Y (i + k) = codeT W H f X Y i
  | 0 => rfl
  | k + 1 => by rw [← Nat.add_assoc, codeT, codeT_stop h k, if_pos h]
set_option maxHeartbeats 64000000 in
theorem four_c (K : CaT) (s : CaV) (f : List Int) (X Y b : Int) (w : World) (hown : Own (K.H s) w) (hF : CaF K.ys f K.room) (h : CaOk K.ys f K.room s b) (hb : b ≤ 900000000000000000) :
    Does Tryz.prog 69 [.pointer (some ⟨K.g, 0, none⟩), .agg #[.int .i64 X, .int .i64 Y]] (K.H s) w (fun v S' => ∃ s', v = .tuple #[.agg (ints .i64 (fourF (wY K.ys) (hY K.ys) f X Y)).toArray, .int .i64 (codeF (wY K.ys) (hY K.ys) f X Y)] ∧ CaOk K.ys f K.room s' (b + 4) ∧ S' = K.H s') := by
  have hrg := hF.op.rng
  unfold rangeY at hrg
  refine does_of Tryz.func69 rfl Tryz.ntmps69 rfl hown (fun n => ?_)
  simp only [slots]
  refine z_tas
  rename_i b3 b4 b6
  refine c_dv (0 :: 1 :: 2 :: 3 :: 4 :: []) ?_; intro _
  refine z_govG
  refine lk rfl rfl rfl (S := K.H s) (fun w hw ho => chart_c K s w ho) ?_
  refine z_govG
  refine lfv rfl rfl rfl (fun w _ => inside_any (wY K.ys) (hY K.ys) none 0 0 _ _ _ X Y w (by omega)) ?_
  by_cases hI : InsP (wY K.ys) (hY K.ys) X Y
  · rw [decide_eq_true hI]
    have hI2 := hI
    unfold InsP at hI2
    refine z_govG
    refine lfv rfl rfl rfl (fun w _ => corner_any X Y w (by omega)) ?_
    refine z_tas
    refine c_loop (X := Nat × CaV) (fun q => q.1 ≤ 4 ∧ codeT (wY K.ys) (hY K.ys) f X Y q.1 = 0 ∧ CaOk K.ys f K.room q.2 (b + q.1)) (fun q => [(0, .pointer (some ⟨K.g, 0, none⟩)), (4, .pointer (some ⟨b4, 0, none⟩)), (6, .pointer (some ⟨b6, 0, none⟩)), (7, .int .i64 (X / 256)), (8, .int .i64 (Y / 256)), (9, .int .i64 (X % 256)), (10, .int .i64 (Y % 256)), (29, .int .i64 q.1)])
      (fun q => K.HC q.2 [.blk b6 129 (ints .i64 (zT (wY K.ys) (hY K.ys) f X Y q.1)), .blk b4 129 [.int .i64 0, .int .i64 0, .int .i64 0, .int .i64 0], .blk b3 24 [.int .i64 X, .int .i64 Y]]) (fun q => 4 - q.1) (0, s) ⟨by omega, rfl, by simpa using h⟩ ⟨rfl, rfl, rfl, rfl, rfl, rfl, rfl, rfl, trivial⟩ (by show Sub (K.HC s (.blk b6 _ [.int .i64 0, .int .i64 0, .int .i64 0, .int .i64 0] :: _)) _; exact Sub.au) ?_
    rintro ⟨i, s1⟩ ⟨hi, hc0, hs⟩
    dsimp only at hi hc0 hs ⊢
    have hzl := zT_len (wY K.ys) (hY K.ys) f X Y i
    rcases Nat.lt_or_ge i 4 with h4 | h4
    · have ha := and1 i h4
      have hd : (i : Int) / 2 ^ 1 = ((i / 2 : Nat) : Int) := by omega
      have hci := heightF_in (W := wY K.ys) (H := hY K.ys) hF.good.1
      have ec : codeT (wY K.ys) (hY K.ys) f X Y (i + 1) = (corH (wY K.ys) (hY K.ys) f X Y i).2 := by rw [codeT, if_neg (by rw [hc0]; simp)]
      have ez : zT (wY K.ys) (hY K.ys) f X Y (i + 1) = (zT (wY K.ys) (hY K.ys) f X Y i).set i (corH (wY K.ys) (hY K.ys) f X Y i).1 := rfl
      have o1 : SetAt (ints .i64 (zT (wY K.ys) (hY K.ys) f X Y i)) i (.int .i64 (heightF (wY K.ys) (hY K.ys) f (corX X (i % 2)) (corX Y (i / 2))).1) (ints .i64 (zT (wY K.ys) (hY K.ys) f X Y (i + 1))) := ⟨by rw [ints_set, ez]; rfl, by rw [ints_len, hzl]; exact h4⟩
      have hc1 := hci (corX X (i % 2)) (corX Y (i / 2))
      refine z_tas
      all_goals
        refine j_set 44 _ rfl (v' := .int .i64 (corX X (i % 2))) (congrArg (Value.int .i64) (by unfold corX; first | rw [if_pos (by assumption)] | rw [if_neg (by assumption), ha])) ?_
        refine j_set 47 _ rfl (v' := .int .i64 (corX Y (i / 2))) (congrArg (Value.int .i64) (by unfold corX; first | rw [if_pos (by assumption)] | rw [if_neg (by assumption), hd])) ?_
        refine lf rfl rfl rfl (S := K.H s1) (fun w hw ho => height_c K s1 f (corX X (i % 2)) (corX Y (i / 2)) (b + i) w ho hF hs (by omega)) ?_
        rintro v S' ⟨s', rfl, g1, rfl⟩
        have k1 := g1.ok hF hs
        refine z_gox
        refine c_if rfl ?_ ?_ <;> intro h9
        · have e4 : codeT (wY K.ys) (hY K.ys) f X Y (i + 1 + (3 - i)) = _ := codeT_stop (by rw [ec]; exact h9) _
          rw [show i + 1 + (3 - i) = 4 by omega, ec] at e4
          have e5 : codeF (wY K.ys) (hY K.ys) f X Y = (heightF (wY K.ys) (hY K.ys) f (corX X (i % 2)) (corX Y (i / 2))).2 := by unfold codeF; rw [if_pos hI, e4]; rfl
          rw [show fourF (wY K.ys) (hY K.ys) f X Y = [0, 0, 0, 0] by unfold fourF; rw [e5, if_neg h9], e5]
          refine z_gox
          refine lb0 rfl rfl ?_
          refine z_gox
          refine j_outK (S' := K.H s') Sub.au ?_
          refine z_rk
          exact ⟨s', rfl, k1.mono (by omega), rfl⟩
        · refine z_tas
          exact c_round (i + 1, s') ⟨h4, by rw [ec]; exact Classical.not_not.1 h9, k1.mono (by omega)⟩ (by show 4 - (i + 1) < 4 - i; omega) ⟨rfl, rfl, rfl, rfl, rfl, rfl, rfl, by simp [look], trivial⟩ Sub.au
    · obtain rfl : i = 4 := by omega
      have e5 : codeF (wY K.ys) (hY K.ys) f X Y = 0 := by unfold codeF; rw [if_pos hI, hc0]
      rw [show fourF (wY K.ys) (hY K.ys) f X Y = zT (wY K.ys) (hY K.ys) f X Y 4 by unfold fourF; rw [if_pos e5], e5]
      generalize zT (wY K.ys) (hY K.ys) f X Y 4 = L at *
      obtain ⟨z0, z1, z2, z3, rfl⟩ := four_of hzl
      simp only [ints, List.map_cons, List.map_nil]
      refine z_tas
      refine j_outK (S' := K.H s1) Sub.au ?_
      refine z_rk
      exact ⟨s1, rfl, hs, rfl⟩
  · rw [decide_eq_false hI]
    have ec : codeF (wY K.ys) (hY K.ys) f X Y = 9 := if_neg hI
    have ef : fourF (wY K.ys) (hY K.ys) f X Y = [0, 0, 0, 0] := by unfold fourF; rw [ec]; rfl
    rw [ec, ef]
    refine z_govG
    refine j_outK (S' := K.H s) Sub.au ?_
    refine z_rk
    exact ⟨s, rfl, h.mono (by omega), rfl⟩
end Go.Proofs.YtemmnpgebpffbaaGreat
/- Package terrain: Height, Slope. -/
namespace Go.Proofs.YtemmnpgebpffbaaGreat
open Go.RowKit
/-- The ground at a place, times 65536. -/
def exF (a b c d fx fy : Int) : Int := (a * (256 - fx) + b * fx) * (256 - fy) + (c * (256 - fx) + d * fx) * fy
def exL : List Int → Int → Int → Int
  | [a, b, c, d], fx, fy => exF a b c d fx fy
  | _, _, _ => 0
def heightT (W H : Nat) (f : List Int) (X Y : Int) : Int := if codeF W H f X Y = 0 then (2 * (exL (fourF W H f X Y) (X % 256) (Y % 256) * 16) + 65536) / (2 * 65536) else 0
def slX : List Int → Int → Int
  | [a, b, c, d], fy => (b - a) * (256 - fy) + (d - c) * fy
  | _, _ => 0
def slY : List Int → Int → Int
  | [a, b, c, d], fx => (c - a) * (256 - fx) + (d - b) * fx
  | _, _ => 0
def slopeT (W H : Nat) (f : List Int) (X Y : Int) : Int × Int := if codeF W H f X Y = 0 then ((2 * (slX (fourF W H f X Y) (Y % 256) * 16) + 256) / (2 * 256), (2 * (slY (fourF W H f X Y) (X % 256) * 16) + 256) / (2 * 256)) else (0, 0)
theorem zT_in {W H : Nat} {f : List Int} (hf : In16 f) (X Y : Int) : ∀ i, ∀ z ∈ zT W H f X Y i, -32768 ≤ z ∧ z ≤ 32767
  | 0, z, hz => by simp [zT] at hz; omega
  | i + 1, z, hz => by
    rw [zT] at hz
    rcases List.mem_or_eq_of_mem_set hz with h | h
    · exact zT_in hf X Y i z h
    · rw [h]; exact heightF_in hf _ _
theorem fourF_in {W H : Nat} {f : List Int} (hf : In16 f) (X Y : Int) : ∃ a b c d, fourF W H f X Y = [a, b, c, d] ∧ (-32768 ≤ a ∧ a ≤ 32767) ∧ (-32768 ≤ b ∧ b ≤ 32767) ∧ (-32768 ≤ c ∧ c ≤ 32767) ∧ (-32768 ≤ d ∧ d ≤ 32767) := by
  unfold fourF
  split
  · obtain ⟨a, b, c, d, e⟩ := four_of (zT_len W H f X Y 4)
    have h := zT_in hf (W := W) (H := H) X Y 4
    rw [e] at h ⊢
    exact ⟨a, b, c, d, rfl, h a (by simp), h b (by simp), h c (by simp), h d (by simp)⟩
  · exact ⟨0, 0, 0, 0, rfl, by omega, by omega, by omega, by omega⟩
theorem exF_in {a b c d fx fy : Int} (h : (-32768 ≤ a ∧ a ≤ 32767) ∧ (-32768 ≤ b ∧ b ≤ 32767) ∧ (-32768 ≤ c ∧ c ≤ 32767) ∧ (-32768 ≤ d ∧ d ≤ 32767)) (hx : 0 ≤ fx ∧ fx < 256) (hy : 0 ≤ fy ∧ fy < 256) :
    (-8388608 ≤ a * (256 - fx) ∧ a * (256 - fx) ≤ 8388608) ∧ (-8388608 ≤ b * fx ∧ b * fx ≤ 8388608) ∧ (-8388608 ≤ c * (256 - fx) ∧ c * (256 - fx) ≤ 8388608) ∧ (-8388608 ≤ d * fx ∧ d * fx ≤ 8388608) ∧
    (-4294967296 ≤ (a * (256 - fx) + b * fx) * (256 - fy) ∧ (a * (256 - fx) + b * fx) * (256 - fy) ≤ 4294967296) ∧ (-4294967296 ≤ (c * (256 - fx) + d * fx) * fy ∧ (c * (256 - fx) + d * fx) * fy ≤ 4294967296) := by
  have m1 := mulB 32768 256 (a := a) (b := 256 - fx) (by omega) (by omega)
  have m2 := mulB 32768 256 (a := b) (b := fx) (by omega) (by omega)
  have m3 := mulB 32768 256 (a := c) (b := 256 - fx) (by omega) (by omega)
  have m4 := mulB 32768 256 (a := d) (b := fx) (by omega) (by omega)
  have m5 := mulB 16777216 256 (a := a * (256 - fx) + b * fx) (b := 256 - fy) (by omega) (by omega)
  have m6 := mulB 16777216 256 (a := c * (256 - fx) + d * fx) (b := fy) (by omega) (by omega)
  omega
attribute [local irreducible] OJ J HdJ Code.wpIn wpListIn Oper.wpIn bodyPost CallsIn Does
set_option maxRecDepth 4000
set_option maxHeartbeats 16000000 in
theorem exact_any (a b c d fx fy : Int) (w : World) (h : (-32768 ≤ a ∧ a ≤ 32767) ∧ (-32768 ≤ b ∧ b ≤ 32767) ∧ (-32768 ≤ c ∧ c ≤ 32767) ∧ (-32768 ≤ d ∧ d ≤ 32767)) (hx : 0 ≤ fx ∧ fx < 256) (hy : 0 ≤ fy ∧ fy < 256) :
    Does Tryz.prog 71 [.agg #[.int .i64 a, .int .i64 b, .int .i64 c, .int .i64 d], .int .i64 fx, .int .i64 fy] [] w (fun v S' => v = .int .i64 (exF a b c d fx fy) ∧ S' = []) := by
  obtain ⟨m1, m2, m3, m4, m5, m6⟩ := exF_in h hx hy
  refine does_of Tryz.func71 rfl Tryz.ntmps71 rfl ⟨by simp, .nil⟩ (fun n => ?_)
  simp only [slots]
  refine z_tas
  exact j_out1 rfl rfl (.nil _) ⟨rfl, rfl⟩
set_option maxHeartbeats 64000000 in
theorem height_t (K : CaT) (s : CaV) (f : List Int) (X Y b : Int) (w : World) (hown : Own (K.H s) w) (hF : CaF K.ys f K.room) (h : CaOk K.ys f K.room s b) (hb : b ≤ 900000000000000000) :
    Does Tryz.prog 32 [.pointer (some ⟨K.g, 0, none⟩), .agg #[.int .i64 X, .int .i64 Y]] (K.H s) w (fun v S' => ∃ s', v = .tuple #[.int .i64 (heightT (wY K.ys) (hY K.ys) f X Y), .int .i64 (codeF (wY K.ys) (hY K.ys) f X Y)] ∧ CaOk K.ys f K.room s' (b + 4) ∧ S' = K.H s') := by
  have hrg := hF.op.rng
  unfold rangeY at hrg
  refine does_of Tryz.func32 rfl Tryz.ntmps32 rfl hown (fun n => ?_)
  simp only [slots]
  refine z_tas
  refine lf rfl rfl rfl (S := K.H s) (fun w hw ho => four_c K s f X Y b w ho hF h hb) ?_
  rintro v S' ⟨s', rfl, k1, rfl⟩
  obtain ⟨z0, z1, z2, z3, e4, hz⟩ := fourF_in (W := wY K.ys) (H := hY K.ys) hF.good.1 X Y
  unfold heightT
  rw [e4]
  simp only [ints, List.map_cons, List.map_nil, exL]
  by_cases hc : codeF (wY K.ys) (hY K.ys) f X Y = 0
  · have hI : InsP (wY K.ys) (hY K.ys) X Y := by
      unfold codeF at hc
      split at hc
      · assumption
      · exact absurd hc (by decide)
    unfold InsP at hI
    rw [if_pos hc, hc]
    have hex := exF_in (fx := X % 256) (fy := Y % 256) hz (by omega) (by omega)
    have he : -8589934592 ≤ exF z0 z1 z2 z3 (X % 256) (Y % 256) ∧ exF z0 z1 z2 z3 (X % 256) (Y % 256) ≤ 8589934592 := by unfold exF; omega
    refine z_tas
    refine lfv rfl rfl rfl (fun w _ => corner_any X Y w (by omega)) ?_
    refine z_tas
    refine lfv rfl rfl rfl (fun w _ => exact_any z0 z1 z2 z3 (X % 256) (Y % 256) w hz (by omega) (by omega)) ?_
    refine z_tas
    refine j_out2 rfl rfl rfl Sub.au ⟨s', ?_, k1, rfl⟩
    rw [divV_near (by decide)]
  · rw [if_neg hc]
    refine z_tas
    all_goals exact j_out2 rfl rfl rfl Sub.au ⟨s', rfl, k1, rfl⟩
theorem sl_in {a b c d fy : Int} (h : (-32768 ≤ a ∧ a ≤ 32767) ∧ (-32768 ≤ b ∧ b ≤ 32767) ∧ (-32768 ≤ c ∧ c ≤ 32767) ∧ (-32768 ≤ d ∧ d ≤ 32767)) (hy : 0 ≤ fy ∧ fy < 256) : (-16777216 ≤ (b - a) * (256 - fy) ∧ (b - a) * (256 - fy) ≤ 16777216) ∧ (-16777216 ≤ (d - c) * fy ∧ (d - c) * fy ≤ 16777216) := by
  have m1 := mulB 65536 256 (a := b - a) (b := 256 - fy) (by omega) (by omega)
  have m2 := mulB 65536 256 (a := d - c) (b := fy) (by omega) (by omega)
  omega
end Go.Proofs.YtemmnpgebpffbaaGreat
/- How a profile lies on the ground, the best step of a search: the plain law of layer 21. -/
namespace Go.Proofs.YtemmnpgebpffbaaGreat
open Go.RowKit
/-- A height of a profile: how far from where it begins, and how high. -/
structure Smp where
  dx : Int
  dy : Int
  z : Int
deriving Inhabited
/-- Do the first so many heights of a profile lie on the ground? -/
def onTo (W H : Nat) (f : List Int) (X Y : Int) (l : List Smp) : Nat → Bool
  | 0 => true
  | i + 1 => onTo W H f X Y l i && codeF W H f (X + (l.getD i default).dx) (Y + (l.getD i default).dy) == 0
/-- By how much the ground is above each. -/
def apTo (W H : Nat) (f : List Int) (X Y : Int) (l : List Smp) : Nat → List Int
  | 0 => []
  | i + 1 => apTo W H f X Y l i ++ [heightT W H f (X + (l.getD i default).dx) (Y + (l.getD i default).dy) - (l.getD i default).z]
theorem apTo_len (W H : Nat) (f : List Int) (X Y : Int) (l : List Smp) : ∀ i, (apTo W H f X Y l i).length = i
  | 0 => rfl
  | i + 1 => by rw [apTo, List.length_append, apTo_len W H f X Y l i]; rfl
/-- A step, and what a profile costs there. -/
structure Stp where
  i : Int
  k : Int
  cost : Int
deriving Inhabited
/-- What a place of a search tells: nothing (off the ground), why it can't be told, or what it costs. -/
def plcF (W H : Nat) (f : List Int) (X Y : Int) (l : List Smp) (m eA eR eS : Int) : Option (Int × Int) :=
  if onTo W H f X Y l l.length = true then some (costF (apTo W H f X Y l l.length) m eA eR eS) else none
/-- Steps one behind the other: those that are told, and whether one can't be told. -/
def allTo (g : Nat → Option (Int × Int)) (p : Nat → Int × Int) : Nat → List Stp × Bool
  | 0 => ([], false)
  | n + 1 => if (allTo g p n).2 = true then allTo g p n else
    match g n with
    | none => allTo g p n
    | some (c, e) => if e = 0 then ((allTo g p n).1 ++ [⟨(p n).1, (p n).2, c⟩], false) else ((allTo g p n).1, true)
/-- The first of the least, and the least of those away from it. -/
def bstTo (l : List Stp) : Nat → Option Nat
  | 0 => none
  | i + 1 => match bstTo l i with
    | none => some i
    | some b => if (l.getD i default).cost < (l.getD b default).cost then some i else some b
def farB (a b : Stp) (away : Int) : Bool := decide (away < max (max (max (a.i - b.i) (b.i - a.i)) (a.k - b.k)) (b.k - a.k))
def secTo (l : List Stp) (b : Stp) (away : Int) : Nat → Int
  | 0 => -1
  | i + 1 => if farB (l.getD i default) b away = true ∧ (secTo l b away i < 0 ∨ (l.getD i default).cost < secTo l b away i) then (l.getD i default).cost else secTo l b away i
theorem bstTo_lt {l : List Stp} : ∀ {n b : Nat}, bstTo l n = some b → b < n
  | 0, b, h => by simp [bstTo] at h
  | n + 1, b, h => by
    rw [bstTo] at h
    split at h
    · simp at h; omega
    · rename_i c hc
      have := bstTo_lt hc
      split at h <;> simp at h <;> omega
theorem bstTo_none {l : List Stp} {n : Nat} : bstTo l n = none ↔ n = 0 := by
  cases n with
  | zero => simp [bstTo]
  | succ n =>
    rw [bstTo]
    split
    · simp
    · split <;> simp
/-- The best one, as it is kept while they come one by one. -/
def cbTo (l : List Stp) : Nat → Stp
  | 0 => ⟨0, 0, -1⟩
  | i + 1 => if (cbTo l i).cost < 0 ∨ (l.getD i default).cost < (cbTo l i).cost then l.getD i default else cbTo l i
theorem cb_bst {l : List Stp} (h : ∀ i, i < l.length → 0 ≤ (l.getD i default).cost) : ∀ {n : Nat}, n ≤ l.length → (bstTo l n = none → cbTo l n = ⟨0, 0, -1⟩) ∧ ∀ b, bstTo l n = some b → cbTo l n = l.getD b default
  | 0, _ => ⟨fun _ => rfl, fun b q => by simp [bstTo] at q⟩
  | n + 1, hn => by
    obtain ⟨h1, h2⟩ := cb_bst h (n := n) (by omega)
    refine ⟨fun q => absurd (bstTo_none.1 q) (by omega), fun b q => ?_⟩
    rw [bstTo] at q
    rw [cbTo]
    cases hb : bstTo l n with
    | none =>
      rw [hb] at q
      simp only [Option.some.injEq] at q
      subst q
      rw [h1 hb, if_pos (.inl (by decide))]
    | some c =>
      rw [hb] at q
      have hc := bstTo_lt hb
      have hc0 := h c (by omega)
      rw [h2 c hb]
      simp only at q
      split at q
      · rename_i q1
        simp only [Option.some.injEq] at q
        subst q
        rw [if_pos (.inr q1)]
      · rename_i q1
        simp only [Option.some.injEq] at q
        subst q
        rw [if_neg (by omega)]
end Go.Proofs.YtemmnpgebpffbaaGreat
/- Free of the middle: a profile that is found higher costs as much. The plain law. -/
namespace Go.Proofs.YtemmnpgebpffbaaGreat
open Go.RowKit
theorem getD_map_sub (u : Int) {d : List Int} {i : Nat} (h : i < d.length) : (d.map (· - u)).getD i 0 = d.getD i 0 - u := by
  rw [List.getD_eq_getElem?_getD, List.getD_eq_getElem?_getD, List.getElem?_map, List.getElem?_eq_getElem h]
  rfl
theorem sumTo_map (u : Int) {d : List Int} : ∀ {i : Nat}, i ≤ d.length → sumTo (d.map (· - u)) i = sumTo d i - u * (i : Int)
  | 0, _ => by simp [sumTo]
  | i + 1, h => by
    rw [sumTo, sumTo, sumTo_map u (i := i) (by omega), getD_map_sub u (show i < d.length by omega), Int.natCast_add, Int.mul_add]
    omega
theorem difX_map (u : Int) {d : List Int} {m : Int} (hm : 2 ≤ m) {i : Nat} (h : i < d.length) :
    difX d.length (sumTo (d.map (· - u)) d.length) m ((d.map (· - u)).getD i 0) = difX d.length (sumTo d d.length) m (d.getD i 0) := by
  unfold difX
  rw [if_pos hm, if_pos hm, sumTo_map u (Nat.le_refl _), getD_map_sub u h, Int.mul_sub, Int.mul_comm (d.length : Int) u]
  omega
theorem cosTo_map (u : Int) {d : List Int} {m : Int} (hm : 2 ≤ m) : ∀ {i : Nat}, i ≤ d.length → cosTo d.length (sumTo (d.map (· - u)) d.length) m (d.map (· - u)) i = cosTo d.length (sumTo d d.length) m d i
  | 0, _ => rfl
  | i + 1, h => by
    rw [cosTo, cosTo, cosTo_map u hm (i := i) (by omega), difX_map u hm (show i < d.length by omega)]
theorem cost_free (u : Int) {d : List Int} {m eA eR eS : Int} (hm : 2 ≤ m) (h1 : DifOk d d.length) (h2 : DifOk (d.map (· - u)) d.length) : costF (d.map (· - u)) m eA eR eS = costF d m eA eR eS := by
  unfold costF
  rw [List.length_map, badTo_no.2 h1, badTo_no.2 h2, cosTo_map u hm (Nat.le_refl _)]
/-- The same profile, found so much higher. -/
def upS (u : Int) (l : List Smp) : List Smp := l.map fun s => ⟨s.dx, s.dy, s.z + u⟩
theorem upS_get (u : Int) {l : List Smp} {i : Nat} (h : i < l.length) : (upS u l).getD i default = ⟨(l.getD i default).dx, (l.getD i default).dy, (l.getD i default).z + u⟩ := by
  unfold upS
  rw [List.getD_eq_getElem?_getD, List.getD_eq_getElem?_getD, List.getElem?_map, List.getElem?_eq_getElem h]
  rfl
theorem onTo_up (W H : Nat) (f : List Int) (X Y u : Int) {l : List Smp} : ∀ {i : Nat}, i ≤ l.length → onTo W H f X Y (upS u l) i = onTo W H f X Y l i
  | 0, _ => rfl
  | i + 1, h => by rw [onTo, onTo, onTo_up W H f X Y u (i := i) (by omega), upS_get u (show i < l.length by omega)]
theorem apTo_up (W H : Nat) (f : List Int) (X Y u : Int) {l : List Smp} : ∀ {i : Nat}, i ≤ l.length → apTo W H f X Y (upS u l) i = (apTo W H f X Y l i).map (· - u)
  | 0, _ => rfl
  | i + 1, h => by
    rw [apTo, apTo, apTo_up W H f X Y u (i := i) (by omega), upS_get u (show i < l.length by omega), List.map_append]
    congr 1
    show [_] = [_]
    congr 1
    show heightT W H f (X + (l.getD i default).dx) (Y + (l.getD i default).dy) - ((l.getD i default).z + u) = heightT W H f (X + (l.getD i default).dx) (Y + (l.getD i default).dy) - (l.getD i default).z - u
    omega
theorem plc_free (W H : Nat) (f : List Int) (X Y u : Int) {l : List Smp} {m eA eR eS : Int} (hm : 2 ≤ m) (h1 : DifOk (apTo W H f X Y l l.length) l.length) (h2 : DifOk ((apTo W H f X Y l l.length).map (· - u)) l.length) : plcF W H f X Y (upS u l) m eA eR eS = plcF W H f X Y l m eA eR eS := by
  have hl : (upS u l).length = l.length := by simp [upS]
  unfold plcF
  rw [hl, onTo_up W H f X Y u (Nat.le_refl _), apTo_up W H f X Y u (Nat.le_refl _)]
  rw [cost_free u hm (by rw [apTo_len]; exact h1) (by rw [apTo_len]; exact h2)]
end Go.Proofs.YtemmnpgebpffbaaGreat
