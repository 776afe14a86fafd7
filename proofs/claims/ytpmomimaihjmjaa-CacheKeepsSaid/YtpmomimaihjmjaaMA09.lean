import Derived.ProofKit
import Derived.Deep.Slices
import Derived.Deep.Fields
import Derived.ChangeSame
import Derived.Lib.SmallJoins
import Derived.Carry
import Derived.Test.YtpmomimaihjmjaaMA08
set_option linter.unusedVariables false
set_option linter.unusedSimpArgs false
/- The engine: a drawn region in two parts: the first in each order that may be, what HL holds stays; behind it, one behind the other, operations that wait for all of the first. -/
namespace Go.Proofs.Ytpmomimaihjmjaa
open Go.RowKit
def tailOk (ops : Array Oper) (k : Nat) (xs : List Nat) : Bool := Nat.ble k ops.size && (List.range ops.size).all fun i => Nat.blt i k || (((List.range k).all fun j => xs.contains j || edgeB ops i j) && (Nat.beq i k || edgeB ops i (i - 1)))
theorem litB_none {ops : Array Oper} (i : Nat) : litB ops (List.replicate ops.size false) i = true := by
  unfold litB
  refine List.all_eq_true.2 fun j hj => ?_
  have : mAt (List.replicate ops.size false) j = false := by
    unfold mAt
    rw [List.getD_eq_getElem?_getD, List.getElem?_replicate]
    split <;> rfl
  rw [this]; rfl
section
variable {F : Fence} {n : Nat} {P : Program} {N : Nat} {ds : List Deferred} {w0 : World} {W : Nat → Prop} {σ : List (Nat × Value)} {H HL : List HE} {Q : Exit → Act → World → Prop} {ops : Array Oper}
/-- What comes behind the first part. -/
def tailQ (F : Fence) (n : Nat) (P : Program) (ops : Array Oper) (Q : Exit → Act → World → Prop) (l : List Oper) : Exit → Act → World → Prop := fun _ => wpListIn F n P ops (nq fun _ => Q .normal) l
theorem tail_tree (hb : ∀ i, litB ops (List.replicate ops.size false) i = true) :
    ∀ (t : Nat) (k : Nat), k + t = ops.size → (∀ i, k < i → i < ops.size → edgeB ops i (i - 1) = true) → ∀ (b : Act) (w : World), wpListIn F n P ops (nq fun _ => Q .normal) (ops.toList.drop k) b w → wpT F n P w0 W HL ops (List.replicate ops.size false) Q t (List.range' k t) b w := by
  intro t
  induction t with
  | zero =>
    intro k hk _ b w h
    rw [List.drop_eq_nil_of_le (by rw [Array.length_toList]; omega)] at h
    exact h
  | succ t ih =>
    intro k hk he b w h
    refine ⟨fun e => by simp at e, fun i hi hr => ?_⟩
    have hik : i = k := by
      rcases Nat.lt_or_ge k i with h1 | h1
      · have h2 : i < ops.size := by have := List.mem_range'_1.1 hi; omega
        have h3 := he i h1 h2
        rw [hr (i - 1) (List.mem_range'_1.2 ⟨by omega, by omega⟩)] at h3
        cases h3
      · have := List.mem_range'_1.1 hi; omega
    subst hik
    have hlt : i < ops.size := by omega
    have e1 : ops.toList.drop i = ops[i] :: ops.toList.drop (i + 1) := by
      rw [List.drop_eq_getElem_cons (by rw [Array.length_toList]; exact hlt)]; rfl
    have e2 : (List.range' i (t + 1)).erase i = List.range' (i + 1) t := by rw [List.range'_succ]; simp
    have hopsAt : opsAt ops [i] = [ops[i]] := by simp [opsAt, hlt]
    rw [hopsAt, e2]
    rw [e1] at h
    have hnext : ∀ (c : Act) (w' : World), wpListIn F n P ops (nq fun _ => Q .normal) (ops.toList.drop (i + 1)) c w' → wpListIn F n P ops (nq fun _ b'' w'' => (litB ops (List.replicate ops.size false) i = true ∨ St w0 W HL w'') ∧ wpT F n P w0 W HL ops (List.replicate ops.size false) Q t (List.range' (i + 1) t) b'' w'') [] c w' :=
      fun c w' hh => ⟨.inl (hb i), ih (i + 1) (by omega) (fun j h1 h2 => he j (by omega) h2) c w' hh⟩
    simp only [wpListIn] at h ⊢
    by_cases hw : Region.wanted ops[i] (yielded ops b.tmps) = true
    · rw [if_pos hw] at h ⊢
      exact ⟨h.1, uponIn_sim h.2 (fun u w' hh => hnext _ w' hh) (fun x w' hh => hnext _ w' hh)⟩
    · rw [if_neg hw] at h ⊢
      exact ⟨h.1, hnext _ w h.2⟩
/-- Operations that only take a result of a call, and that nobody behind the seam waits for. -/
def exB (ops : Array Oper) (xs : List Nat) : Bool := xs.all fun i => match ops[i]? with
  | some o => (match o.op, o.guard, o.dst with | .extract _ _, none, some _ => true | _, _, _ => false) && xs.all fun j => !edgeB ops i j
  | none => false
theorem ext_run {x : Operand} {c : Nat} {o : Oper} (ho : o.op = .extract x c) (ρ : Operand → Value) : (∃ vs : Array Value, ∃ v, ρ x = .tuple vs ∧ vs[c]? = some v) ∨ ∀ (w : World) (a : Act) (K : Act → World → Prop) (Q : Exit → Act → World → Prop), ¬ o.uponIn F n P a K Q ((execOp ρ o).run P w) := by
  cases hx : ρ x with
  | tuple vs =>
    cases hv : vs[c]? with
    | some v => exact .inl ⟨vs, v, rfl, hv⟩
    | none => exact .inr fun w a K Q h => by simp [execOp, ho, hx, Instr.extract, hv] at h; exact h
  | _ => exact .inr fun w a K Q h => by simp [execOp, ho, hx, Instr.extract] at h; exact h
theorem head_tree [hF : Wide F] {k : Nat} (xs : List Nat) (hk : k ≤ ops.size) (hV : RegV ops) (hbk : ∀ i j, edgeB ops i j = true → j < i) (hb : ∀ i, litB ops (List.replicate ops.size false) i = true) (hex : exB ops xs = true) (hw1 : ∀ i j, k ≤ i → i < ops.size → j < k → j ∉ xs → edgeB ops i j = true) (hch : ∀ i, k < i → i < ops.size → edgeB ops i (i - 1) = true) {mask : List Bool} :
    ∀ (m : Nat) (rest : List Nat) (b : Act) (w : World), rest.length ≤ m → rest.Nodup → (∀ i ∈ rest, i < k) → wpT F n P w0 W HL ops mask (tailQ F n P ops Q (ops.toList.drop k)) m rest b w → wpT F n P w0 W HL ops (List.replicate ops.size false) Q (rest.length + (ops.size - k)) (rest ++ List.range' k (ops.size - k)) b w := by
  intro m
  induction m with
  | zero =>
    intro rest b w hl hnd hr h
    obtain rfl : rest = [] := List.length_eq_zero_iff.1 (by omega)
    rw [List.length_nil, Nat.zero_add, List.nil_append]
    exact tail_tree hb _ k (by omega) hch b w h
  | succ m ih =>
    intro rest b w hl hnd hr h
    cases hrest : rest with
    | nil =>
      subst hrest
      rw [List.length_nil, Nat.zero_add, List.nil_append]
      exact tail_tree hb _ k (by omega) hch b w (wpT_nil h)
    | cons x r =>
      rw [← hrest]
      have hne : rest ≠ [] := by rw [hrest]; simp
      have hx : x ∈ rest := by rw [hrest]; exact List.mem_cons_self ..
      have hlen : ∀ i ∈ rest, (rest.erase i).length + 1 = rest.length := fun i hi => by have := List.length_erase_of_mem hi; have := List.length_pos_of_mem hi; omega
      have hll : ∀ i ∈ rest, (rest.erase i).length ≤ m := fun i hi => by have := hlen i hi; omega
      have hrr : ∀ i, ∀ j ∈ rest.erase i, j < k := fun i j hj => hr j (List.mem_of_mem_erase hj)
      by_cases hall : ∀ j ∈ rest, j ∈ xs
      · -- all that are left take results
        have hxx := List.all_eq_true.1 hex x (hall x hx)
        cases hio : ops[x]? with
        | none => rw [hio] at hxx; cases hxx
        | some o =>
          rw [hio] at hxx
          simp only [Bool.and_eq_true] at hxx
          obtain ⟨hsh, hne2⟩ := hxx
          have hready : ∀ j ∈ rest, edgeB ops x j = false := fun j hj => by
            have := List.all_eq_true.1 hne2 j (hall j hj)
            simpa using this
          have hwp := h.2 x hx hready
          have hopsAt : opsAt ops [x] = [o] := by simp [opsAt, hio]
          rw [hopsAt] at hwp
          cases hop : o.op with
          | extract y c =>
            cases hg : o.guard with
            | some g => rw [hop, hg] at hsh; cases hsh
            | none =>
              cases hd : o.dst with
              | none => rw [hop, hg, hd] at hsh; cases hsh
              | some d =>
                have hwt : ∀ a : Act, Region.wanted o (yielded ops a.tmps) = true := fun a => by unfold Region.wanted; rw [hg]
                have hndf : ∀ c, o.op ≠ .defer c := fun c e => by rw [hop] at e; cases e
                simp only [wpListIn] at hwp
                rw [if_pos (hwt b)] at hwp
                have h2 := hwp.2
                rw [Oper.semAt_plain F _ _ hndf] at h2
                rcases ext_run (F := F) (n := n) (P := P) hop b.eval with ⟨vs, v, hy, hv⟩ | hbad
                · have hrun : ∀ a : Act, a.eval y = .tuple vs → ∀ w, (execOp a.eval o).run P w = .ok (.value v) w := fun a ha w => by simp [execOp, hop, ha, Instr.extract, hv]
                  rw [hrun b hy w, Oper.uponIn_value, hd] at h2
                  have h3 := ih _ _ _ (hll x hx) (hnd.erase x) (hrr x) h2.2
                  have hlx := hlen x hx
                  rw [show rest.length + (ops.size - k) = ((rest.erase x).length + (ops.size - k)) + 1 by omega]
                  have hAt := hV.at_ hio
                  refine pick_core (v := v) (L := fun t => b.tmps[t]?) hio hd (fun j o' hj => (hV.at_ hj).1) (fun j o' hj hjo => (hAt.2.2 d hd).2 j o' hj hjo) (fun a ha => ⟨hwt a, hrun a ?_⟩) _ _ b w (List.mem_append_left _ hx) (by rw [List.length_append, List.length_range']; omega) (fun _ _ _ => hb x) (fun j hj t ht hm => ?_) (.inl (hb x)) (fun t _ u hu => hu) ?_
                  · cases y with
                    | tmp t =>
                      have hl : t ∈ o.looksAt ops := List.mem_append_left _ (List.mem_filterMap.2 ⟨.tmp t, by rw [hop]; simp [Op.operands], rfl⟩)
                      cases hb' : b.tmps[t]? with
                      | none =>
                        have hy' : b.tmps.getD t undef = .tuple vs := hy
                        rw [Array.getD_eq_getD_getElem?, hb'] at hy'
                        have : vs = #[] := by injection hy' with e; exact e.symm
                        subst this
                        simp at hv
                      | some u =>
                        have hy' : b.tmps.getD t undef = .tuple vs := hy
                        rw [Array.getD_eq_getD_getElem?, hb'] at hy'
                        show a.tmps.getD t undef = .tuple vs
                        rw [Array.getD_eq_getD_getElem?, ha t hl u hb']
                        exact hy'
                    | const u => exact hy
                    | global g => exact hy
                    | func f => exact hy
                  · have hj2 : ∃ o', ops[j]? = some o' ∧ o'.dst = some t := by
                      unfold dstAt at ht
                      cases hjo : ops[j]? with
                      | none => rw [hjo] at ht; cases ht
                      | some o' => rw [hjo] at ht; exact ⟨o', rfl, ht⟩
                    obtain ⟨o', hjo, hjd⟩ := hj2
                    by_cases hjx : j = x
                    · subst hjx
                      rw [hio] at hjo; injection hjo with e; subst e
                      exact (hAt.2.2 t hjd).1 hm
                    · have h5 := (((hV.at_ hjo).2.2 t hjd).2 x o (fun e => hjx e.symm) hio).2 hm
                      rcases List.mem_append.1 hj with h6 | h6
                      · rw [hready j h6] at h5; cases h5
                      · have h7 := hbk x j h5
                        have h8 := List.mem_range'_1.1 h6
                        have := hr x hx
                        omega
                  · rw [List.erase_append_left _ hx]
                    exact h3
                · exact absurd h2 (hbad w b _ _)
          | _ => rw [hop] at hsh; cases hsh
      · rw [Classical.not_forall] at hall
        obtain ⟨z, hz⟩ := hall
        rw [Classical.not_imp] at hz
        have hx1 := hlen x hx
        rw [show rest.length + (ops.size - k) = ((rest.erase x).length + (ops.size - k)) + 1 by omega]
        refine ⟨fun e => absurd (List.append_eq_nil_iff.1 e).1 hne, fun i hi hrd => ?_⟩
        have hir : i ∈ rest := by
          rcases List.mem_append.1 hi with h1 | h1
          · exact h1
          · have h2 := List.mem_range'_1.1 h1
            have h3 := hw1 i z (by omega) (by omega) (hr z hz.1) hz.2
            rw [hrd z (List.mem_append_left _ hz.1)] at h3
            cases h3
        have hwp := h.2 i hir (fun j hj => hrd j (List.mem_append_left _ hj))
        have e1 := hlen i hir
        rw [List.erase_append_left _ hir, show (rest.erase x).length = (rest.erase i).length by omega]
        cases hio : ops[i]? with
        | none =>
          have hopsAt : opsAt ops [i] = [] := by simp [opsAt, hio]
          rw [hopsAt] at hwp ⊢
          exact ⟨.inl (hb i), ih _ _ _ (hll i hir) (hnd.erase i) (hrr i) hwp.2⟩
        | some o' =>
          have hopsAt : opsAt ops [i] = [o'] := by simp [opsAt, hio]
          rw [hopsAt] at hwp ⊢
          simp only [wpListIn] at hwp ⊢
          by_cases hw : Region.wanted o' (yielded ops b.tmps) = true
          · rw [if_pos hw] at hwp ⊢
            exact ⟨hwp.1, uponIn_sim hwp.2 (fun u w' hh => ⟨.inl (hb i), ih _ _ _ (hll i hir) (hnd.erase i) (hrr i) hh.2⟩) (fun x w' hh => ⟨.inl (hb i), ih _ _ _ (hll i hir) (hnd.erase i) (hrr i) hh.2⟩)⟩
          · rw [if_neg hw] at hwp ⊢
            exact ⟨hwp.1, .inl (hb i), ih _ _ _ (hll i hir) (hnd.erase i) (hrr i) hwp.2.2⟩
/-- THE RULE: the first k operations in each order; the rest behind them. -/
theorem c_drp2 {id : Nat} {l : List Oper} (HL : List HE) (xs : List Nat) (k : Nat) (r : List Nat) [hF : Wide F] (hs : Sub HL H) (hr : (List.range k == r) = true) (hmx : P.follows .mixedOrders = true) (hok : maskOkX l.toArray (List.replicate l.toArray.size false) = true) (hp : (pvIdx l.toArray (List.replicate l.toArray.size false)).isEmpty = true) (hv : (hvIdx l.toArray (List.replicate l.toArray.size false) == List.range l.toArray.size) = true) (hk : (Nat.ble l.toArray.size 300 && regOk l.toArray) = true) (ht : (tailOk l.toArray k xs && exB l.toArray xs) = true)
    (h : RegV l.toArray → J N ds w0 W σ H (wpT F n P w0 W HL l.toArray (List.replicate 300 true) (tailQ F n P l.toArray Q (l.drop k)) r.length r)) : J N ds w0 W σ H ((Code.region id l.toArray true).wpIn F n P Q) :=
  c_drx HL _ (List.range l.toArray.size) hs (by simpa using hv) hmx hok (by
    simp only [Bool.and_eq_true] at hk
    have hV : RegV l.toArray := ⟨hk.2, Nat.le_of_ble_eq_true hk.1⟩
    rw [List.isEmpty_iff.1 hp]
    refine x_nil ?_
    have e : List.range k = r := by simpa using hr
    subst e
    unfold tailOk at ht
    simp only [Bool.and_eq_true] at ht
    obtain ⟨⟨hkl, ht⟩, hex⟩ := ht
    have hkl : k ≤ l.toArray.size := Nat.le_of_ble_eq_true hkl
    have hbk : ∀ i j, edgeB l.toArray i j = true → j < i := by
      intro i j he
      unfold maskOkX at hok
      simp only [Bool.and_eq_true] at hok
      have hi : i < l.toArray.size := by
        rcases Nat.lt_or_ge i l.toArray.size with h1 | h1
        · exact h1
        · unfold edgeB at he; rw [Array.getElem?_eq_none h1] at he; cases he
      have h1 := List.all_eq_true.1 hok.1.2 i (List.mem_range.2 hi)
      unfold backB at h1
      unfold edgeB at he
      rw [Array.getElem?_eq_getElem hi] at h1 he
      simp only [Array.any_eq_true] at he
      obtain ⟨q, hq, he⟩ := he
      simp only [Bool.and_eq_true, beq_iff_eq] at he
      have h2 := (Array.all_eq_true.1 h1) q hq
      rw [he.1, ← he.2] at *
      simpa [he.1] using h2
    have hw1 : ∀ i j, k ≤ i → i < l.toArray.size → j < k → j ∉ xs → edgeB l.toArray i j = true := by
      intro i j h1 h2 h3 hx
      have h4 := List.all_eq_true.1 ht i (List.mem_range.2 h2)
      have e : Nat.blt i k = false := by
        cases hb : Nat.blt i k with
        | false => rfl
        | true => exact absurd (show i < k by simpa using hb) (by omega)
      rw [e, Bool.false_or, Bool.and_eq_true] at h4
      have h5 := List.all_eq_true.1 h4.1 j (List.mem_range.2 h3)
      have e2 : xs.contains j = false := by simpa using hx
      rw [e2, Bool.false_or] at h5
      exact h5
    have hch : ∀ i, k < i → i < l.toArray.size → edgeB l.toArray i (i - 1) = true := by
      intro i h1 h2
      have h4 := List.all_eq_true.1 ht i (List.mem_range.2 h2)
      have e : Nat.blt i k = false := by
        cases hb : Nat.blt i k with
        | false => rfl
        | true => exact absurd (show i < k by simpa using hb) (by omega)
      have e2 : Nat.beq i k = false := by
        cases hb : Nat.beq i k with
        | false => rfl
        | true => have := Nat.eq_of_beq_eq_true hb; omega
      rw [e, Bool.false_or, Bool.and_eq_true, e2, Bool.false_or] at h4
      exact h4.2
    intro a w ha hst
    have h5 := head_tree (F := F) (n := n) (P := P) (w0 := w0) (W := W) (HL := HL) (Q := Q) (ops := l.toArray) xs hkl hV hbk (fun i => litB_none i) hex hw1 hch k (List.range k) a w (by simp) List.nodup_range (fun i hi => List.mem_range.1 hi) (by
      have h6 := h hV a w ha hst
      rw [List.length_range] at h6
      exact h6)
    rw [List.length_range, show k + (l.toArray.size - k) = l.toArray.size by omega] at h5
    rw [List.length_range]
    have e3 : List.range k ++ List.range' k (l.toArray.size - k) = List.range l.toArray.size := by
      rw [List.range_eq_range', List.range_eq_range']
      have := List.range'_append_1 (s := 0) (m := k) (n := l.toArray.size - k)
      rw [Nat.zero_add, Nat.add_sub_cancel' hkl] at this
      exact this
    rw [e3] at h5
    exact h5)
theorem c_dp {id : Nat} {l : List Oper} (xs : List Nat) (k : Nat) (r : List Nat) [hF : Wide F] (h : RegV l.toArray → J N ds w0 W σ H (wpT F n P w0 W H l.toArray (List.replicate 300 true) (tailQ F n P l.toArray Q (l.drop k)) r.length r)) (hr : (List.range k == r) = true := by decide +kernel) (hmx : P.follows .mixedOrders = true := by decide) (hok : maskOkX l.toArray (List.replicate l.toArray.size false) = true := by decide +kernel) (hp : (pvIdx l.toArray (List.replicate l.toArray.size false)).isEmpty = true := by decide +kernel) (hv : (hvIdx l.toArray (List.replicate l.toArray.size false) == List.range l.toArray.size) = true := by decide +kernel) (hk : (Nat.ble l.toArray.size 300 && regOk l.toArray) = true := by decide +kernel) (ht : (tailOk l.toArray k xs && exB l.toArray xs) = true := by decide +kernel) :
    J N ds w0 W σ H ((Code.region id l.toArray true).wpIn F n P Q) := c_drp2 H xs k r (Sub.refl _) hr hmx hok hp hv hk ht h
theorem c_dv {id : Nat} {l : List Oper} (r : List Nat) [hF : Wide F] (h : RegV l.toArray → J N ds w0 W σ H (wpT F n P w0 W H l.toArray (List.replicate 300 true) Q r.length r)) (hr : (hvIdx l.toArray (List.replicate l.toArray.size false) == r) = true := by decide +kernel) (hmx : P.follows .mixedOrders = true := by decide) (hok : maskOkX l.toArray (List.replicate l.toArray.size false) = true := by decide +kernel) (hp : (pvIdx l.toArray (List.replicate l.toArray.size false)).isEmpty = true := by decide +kernel) (hk : (Nat.ble l.toArray.size 300 && regOk l.toArray) = true := by decide +kernel) : J N ds w0 W σ H ((Code.region id l.toArray true).wpIn F n P Q) := c_drv H r (Sub.refl _) hr hmx hok hp hk h
theorem c_dvL {id : Nat} {l : List Oper} (HL : List HE) (r : List Nat) [hF : Wide F] (hs : Sub HL H) (h : RegV l.toArray → J N ds w0 W σ H (wpT F n P w0 W HL l.toArray (List.replicate 300 true) Q r.length r)) (hr : (hvIdx l.toArray (List.replicate l.toArray.size false) == r) = true := by decide +kernel) (hmx : P.follows .mixedOrders = true := by decide) (hok : maskOkX l.toArray (List.replicate l.toArray.size false) = true := by decide +kernel) (hp : (pvIdx l.toArray (List.replicate l.toArray.size false)).isEmpty = true := by decide +kernel) (hk : (Nat.ble l.toArray.size 300 && regOk l.toArray) = true := by decide +kernel) : J N ds w0 W σ H ((Code.region id l.toArray true).wpIn F n P Q) := c_drv HL r hs hr hmx hok hp hk h
theorem c_dpL {id : Nat} {l : List Oper} (xs : List Nat) (k : Nat) (r : List Nat) (HL : List HE) [hF : Wide F] (hs : Sub HL H) (h : RegV l.toArray → J N ds w0 W σ H (wpT F n P w0 W HL l.toArray (List.replicate 300 true) (tailQ F n P l.toArray Q (l.drop k)) r.length r)) (hr : (List.range k == r) = true := by decide +kernel) (hmx : P.follows .mixedOrders = true := by decide) (hok : maskOkX l.toArray (List.replicate l.toArray.size false) = true := by decide +kernel) (hp : (pvIdx l.toArray (List.replicate l.toArray.size false)).isEmpty = true := by decide +kernel) (hv : (hvIdx l.toArray (List.replicate l.toArray.size false) == List.range l.toArray.size) = true := by decide +kernel) (hk : (Nat.ble l.toArray.size 300 && regOk l.toArray) = true := by decide +kernel) (ht : (tailOk l.toArray k xs && exB l.toArray xs) = true := by decide +kernel) :
    J N ds w0 W σ H ((Code.region id l.toArray true).wpIn F n P Q) := c_drp2 HL xs k r hs hr hmx hok hp hv hk ht h
theorem t_tail {rest : List Nat} {mask : List Bool} {l : List Oper} (h : J N ds w0 W σ H (wpListIn F n P ops (nq fun _ => Q .normal) l)) : J N ds w0 W σ H (wpT F n P w0 W HL ops mask (tailQ F n P ops Q l) 0 rest) := h
instance {k : Act → World → Prop} : CC (nq (fun _ => k) .normal) k := ⟨fun h => h⟩
end
end Go.Proofs.Ytpmomimaihjmjaa
/- The engine: a part of a block copied over; an array's address as a slice. -/
namespace Go.Proofs.Ytpmomimaihjmjaa
open Go.RowKit
section
variable {P : Program} {w0 : World} {W : Nat → Prop} {H : List HE}
instance (t e m b q sz : Nat) (x : Operand) [hu : Und P t (.array m e)] [hI : SzI P e sz] : MS P w0 W H (.slice t x none none none) [.pointer (some ⟨b, q, none⟩)] (.slice (some ⟨b, q, none⟩) m m) True :=
  ⟨fun _ _ _ _ _ _ _ _ _ _ _ _ _ _ h1 h2 h3 => o_val (by simp) rfl h2 (fun a w ha _ => by
    have p1 := opnds1 rfl h1
    have g1 := hu.h
    obtain ⟨ii, g2, g3⟩ := hI.h
    simp [execOp, ha.eval p1, Instr.sliceAt, Instr.sliceBounds, run_underlying g1, sizeOf, typeInfo, g2, Instr.sureAddr]
    intro _
    simp [Addr.add]) h3⟩
end
theorem r_copyB {F : Fence} {P : Program} {n N : Nat} {ds : List Deferred} {w0 : World} {W : Nat → Prop} {H : List HE} {σ : List (Nat × Value)} {d : Nat} {ty : TypeId} {pos : String} {aft : Array Edge} {gd : Option (Nat × Bool)} {K : Act → World → Prop} {Q : Exit → Act → World → Prop} [hF : Wide F] {t e bs g o dl dc j tb : Nat} {z u : Value} {k : IntKind} {cs : List Value} {ys : List Int} {x y : Operand} {kk : HE → List HE} [Und P t (.slice e)] [hI : Inf P e 1 bs z]
    [hb : At g H tb cs kk] [hs : SrcC w0 W H e 1 u j (ints k ys)] (hv : vals σ [x, y] = some [.slice (some ⟨g, o, none⟩) dl dc, u]) (hc : 0 < j ∧ j ≤ dl ∧ o + j ≤ cs.length) (hdN : Nat.blt d N = true)
    (h : J N ds w0 W ((d, .int .i64 j) :: σ) (kk (.blk g tb (cs.take o ++ ints k ys ++ cs.drop (o + j)))) K) : OJ F n P N ds w0 W σ H ⟨some d, .call ⟨.builtin .copy, #[x, y], #[t, t]⟩, ty, pos, aft, gd⟩ K Q := by
  obtain ⟨R, h2, h3⟩ := hb.h
  intro a w ha hw
  obtain ⟨p, q⟩ := vals2 hv
  obtain ⟨A', c', rfl, -, -, e2, e3⟩ := hs.h w hw
  have hyl : ys.length = j := by simpa using e2
  have hg : w.heap[g]? = some (.cells cs.toArray tb (0, 0)) := hw.has h2
  have hinf : (P.info? e).map (·.size) = some 1 := Inf.size (z := z) (bs := bs)
  have hut := Und.h (P := P) (t := t)
  obtain ⟨b', off', rfl, hcell⟩ := e3 hc.1
  have hrun := run_copy_row P w t t ty e g o dl dc ⟨b', off', none⟩ j c' cs.toArray tb (ints k ys) hut hinf hg (by rw [ints_len, hyl]; exact (Nat.min_eq_left hc.2.1).symm) (fun q v hq => by rw [add_none]; exact hcell q v hq w hw) (by rw [ints_len, hyl]; simpa using hc.2.2) (by
    intro v hv
    obtain ⟨x, -, rfl⟩ := List.mem_map.1 hv
    rfl)
  rw [ints_len, hyl] at hrun
  refine ⟨fun f _ => hF.out.fn f, ?_⟩
  rw [Oper.semAt_plain F _ _ (by simp)]
  simp only [execOp, resolve, invoke, builtin, Sem.run_bind, Sem.run_pure, Result.andThen_ok, List.map_toArray, List.map_cons, List.map_nil, ha.eval p, ha.eval q, hrun, Oper.uponIn_value]
  refine h _ _ (ha.put d _ (by simpa using hdN)) ?_
  have hst : St w0 W (.blk g tb (cs.take o ++ ints k ys ++ cs.drop (o + j)) :: R) (w.setRow g (cs.take o ++ ints k ys ++ cs.drop (o + j)).toArray) := by
    refine hw.turn h2 ?_ rfl rfl rfl (by simp) (fun b _ hk => setRow_other _ _ _ _ (fun e => hk (by rw [e]; rfl))) (.inl rfl)
    exact setRow_heap w g _ _ tb _ hg
  exact hst.sub (h3 _)
theorem lcpB {F : Fence} {P : Program} {n N : Nat} {ds : List Deferred} {w0 : World} {W : Nat → Prop} {H : List HE} {σ : List (Nat × Value)} {ops : Array Oper} {rest : List Oper} {d : Nat} {ty : TypeId} {pos : String} {aft : Array Edge} {gd : Option (Nat × Bool)} {Q : Exit → Act → World → Prop} [Wide F] {t e bs g o dl dc j tb : Nat} {z u : Value} {k : IntKind} {cs : List Value} {ys : List Int} {x y : Operand} {kk : HE → List HE} [Und P t (.slice e)] [Inf P e 1 bs z]
    (hw : wantd ops σ ⟨some d, .call ⟨.builtin .copy, #[x, y], #[t, t]⟩, ty, pos, aft, gd⟩ = some true) (hv : vals σ [x, y] = some [.slice (some ⟨g, o, none⟩) dl dc, u]) [hb : At g H tb cs kk] [hs : SrcC w0 W H e 1 u j (ints k ys)] (hc : 0 < j ∧ j ≤ dl ∧ o + j ≤ cs.length) (hdN : Nat.blt d N = true)
    (h : J N ds w0 W ((d, .int .i64 j) :: σ) (kk (.blk g tb (cs.take o ++ ints k ys ++ cs.drop (o + j)))) (wpListIn F n P ops Q rest)) :
    J N ds w0 W σ H (wpListIn F n P ops Q (⟨some d, .call ⟨.builtin .copy, #[x, y], #[t, t]⟩, ty, pos, aft, gd⟩ :: rest)) := l_run hw (r_copyB (z := z) (bs := bs) hv hc hdN h)
instance : SzI Try.prog 34 1 := ⟨Try.t34, by kernel_rfl, by kernel_rfl⟩
theorem slotsE_over : ∀ {l : List Slt} (_ : Slts l) (i j : Nat) (vs : List Value) (s' : Slt), i < l.length → j + vs.length ≤ 259 → (sltE (l.getD i default)).take j ++ vs ++ (sltE (l.getD i default)).drop (j + vs.length) = sltE s' → (slotsE l).take (i * 259 + j) ++ vs ++ (slotsE l).drop (i * 259 + j + vs.length) = slotsE (l.set i s')
  | [], _, i, j, vs, s', hi, _, _ => by simp at hi
  | s :: r, h, 0, j, vs, s', _, hj, e => by
    have h1 := sltE_len (h s (List.mem_cons_self ..))
    have e' : (sltE s).take j ++ vs ++ (sltE s).drop (j + vs.length) = sltE s' := e
    unfold slotsE
    rw [List.set_cons_zero, List.flatMap_cons, List.flatMap_cons, Nat.zero_mul, Nat.zero_add, List.take_append_of_le_length (by omega), List.drop_append_of_le_length (by omega), ← e', List.append_assoc, List.append_assoc, List.append_assoc]
  | s :: r, h, i + 1, j, vs, s', hi, hj, e => by
    have h1 := sltE_len (h s (List.mem_cons_self ..))
    have ih := slotsE_over (l := r) (fun x hx => h x (List.mem_cons_of_mem _ hx)) i j vs s' (by simpa using hi) hj e
    unfold slotsE at ih ⊢
    rw [List.set_cons_succ, List.flatMap_cons, List.flatMap_cons, ← ih, List.take_append, List.drop_append, List.take_of_length_le (by omega), List.drop_eq_nil_of_le (by omega), List.nil_append, h1, show (i + 1) * 259 + j - 259 = i * 259 + j by omega, show (i + 1) * 259 + j + vs.length - 259 = i * 259 + j + vs.length by omega, List.append_assoc, List.append_assoc, List.append_assoc]
section
variable {pre : List Value} {l : List Slt} {room clock met miss : Int}
theorem cacheE_setZ (hp : pre.length = 9) (hl : Slts l) {i : Nat} (hi : i < l.length) {zs : List Int} (hz : zs.length ≤ 256) : (cacheE pre l room clock met miss).take (9 + i * 259 + 2) ++ ints .i16 zs ++ (cacheE pre l room clock met miss).drop (9 + i * 259 + 2 + zs.length) = cacheE pre (l.set i { l.getD i default with z := zs ++ (l.getD i default).z.drop zs.length }) room clock met miss := by
  have hs := slotsE_len hl
  have hm : (l.getD i default).z.length = 256 := hl _ (by rw [List.getD_eq_getElem?_getD, List.getElem?_eq_getElem hi]; exact List.getElem_mem ..)
  have e := slotsE_over hl i 2 (ints .i16 zs) { l.getD i default with z := zs ++ (l.getD i default).z.drop zs.length } hi (by rw [ints_len]; omega) (by
    generalize l.getD i default = s at *
    rw [ints_len]
    unfold sltE
    rw [show 2 + zs.length = zs.length + 1 + 1 by omega, List.take_succ_cons, List.take_succ_cons, List.take_zero, List.drop_succ_cons, List.drop_succ_cons, List.drop_append_of_le_length (by rw [ints_len]; omega), ints_drop]
    simp [ints])
  rw [ints_len] at e
  unfold cacheE
  rw [← e, List.take_append, List.take_of_length_le (by omega), hp, show 9 + i * 259 + 2 - 9 = i * 259 + 2 by omega, List.take_append_of_le_length (by omega), List.drop_append, List.drop_eq_nil_of_le (by omega), List.nil_append, hp, show 9 + i * 259 + 2 + zs.length - 9 = i * 259 + 2 + zs.length by omega, List.drop_append_of_le_length (by omega)]
  simp only [List.append_assoc]
end
end Go.Proofs.Ytpmomimaihjmjaa
/- Package cache: get (under way). -/
namespace Go.Proofs.Ytpmomimaihjmjaa
open Go.RowKit
/-- A cache's first cells: its bytes, its directory. -/
abbrev preC (ys : List Int) (A : Option Addr) (c : Nat) (A1 : Option Addr) (c1 : Nat) (A2 : Option Addr) (c2 : Nat) : List Value := [.slice A ys.length c, .int .i64 (wY ys : Nat), .int .i64 (hY ys : Nat), .slice none 0 0, .int .i64 (cellY ys : Nat), .int .i32 (i32N (leY ys 10 4)), .int .i32 (i32N (leY ys 14 4)), .slice A1 (atL ys (nY ys)).length c1, .slice A2 (szL ys (nY ys)).length c2]
/-- Which slot is oldest. -/
def OldestK (l : List Slt) (room k : Nat) : Prop := ((l.getD k default).t < 0 ∧ ∀ j, j < k → 0 ≤ (l.getD j default).t) ∨ ((∀ j, j < room → 0 ≤ (l.getD j default).t) ∧ k = oldTo l room)
/-- What get comes to. -/
def GetsC (ys : List Int) (l : List Slt) (room : Nat) (clock met miss : Int) (n k : Nat) (l' : List Slt) (met' miss' : Int) : Prop :=
  ((l.getD k default).t = n ∧ (∀ j, j < k → (l.getD j default).t ≠ n) ∧ l' = l.set k { l.getD k default with u := clock + 1 } ∧ met' = met + 1 ∧ miss' = miss) ∨
  ((∀ j, j < room → (l.getD j default).t ≠ n) ∧ OldestK l room k ∧ (∃ zs, TilOk ys n zs ∧ l' = l.set k ⟨n, (tilW (wY ys) (hY ys) n : Nat), zs ++ (l.getD k default).z.drop zs.length, clock + 1⟩) ∧ met' = met ∧ miss' = miss + 1)
theorem getD_set_self {l : List Slt} {i : Nat} {s : Slt} (h : i < l.length) : (l.set i s).getD i default = s := by simp [List.getD_eq_getElem?_getD, h]
instance {pre : List Value} {l : List Slt} {room clock met miss : Int} {q : Nat} {v : Value} [h : Get pre q v] : Get (cacheE pre l room clock met miss) q v := ⟨by
  have hq : q < pre.length := by
    rcases Nat.lt_or_ge q pre.length with h1 | h1
    · exact h1
    · exact absurd h.h (by rw [List.getElem?_eq_none h1]; simp)
  unfold cacheE
  rw [List.getElem?_append_left hq]; exact h.h⟩
attribute [local irreducible] OJ J HdJ Code.wpIn wpListIn Oper.wpIn bodyPost CallsIn Does
set_option maxRecDepth 4000
set_option maxHeartbeats 64000000 in
theorem getc_any (g : Nat) (ys : List Int) (A A1 A2 : Option Addr) (c c1 c2 : Nat) (l : List Slt) (room tn : Nat) (clock met miss : Int) (w : World) (hown : Own [.blk g 132 (cacheE (preC ys A c A1 c1 A2 c2) l room clock met miss), .row (.slice A ys.length c) 5 1 ys.length (ints .u8 ys), .row (.slice A1 (atL ys (nY ys)).length c1) 3 1 (atL ys (nY ys)).length (ints .i64 (atL ys (nY ys))), .row (.slice A2 (szL ys (nY ys)).length c2) 3 1 (szL ys (nY ys)).length (ints .i64 (szL ys (nY ys)))] w)
    (hl : Slts l) (h32 : l.length = 32) (hr : 1 ≤ room ∧ room ≤ 32) (hcl : (0 ≤ clock ∧ clock ≤ 1000000000000000000) ∧ (0 ≤ met ∧ met ≤ 1000000000000000000) ∧ (0 ≤ miss ∧ miss ≤ 1000000000000000000)) (hu : U8s ys) (hm : ys.length < 100000000) (hO : Opens ys) (hn : tn < nY ys) (hg : ∀ i, i < nY ys → ∃ z, TilOk ys i z) :
    Does Try.prog 58 [.pointer (some ⟨g, 0, none⟩), .int .i64 tn] [.blk g 132 (cacheE (preC ys A c A1 c1 A2 c2) l room clock met miss), .row (.slice A ys.length c) 5 1 ys.length (ints .u8 ys), .row (.slice A1 (atL ys (nY ys)).length c1) 3 1 (atL ys (nY ys)).length (ints .i64 (atL ys (nY ys))), .row (.slice A2 (szL ys (nY ys)).length c2) 3 1 (szL ys (nY ys)).length (ints .i64 (szL ys (nY ys)))] w
      (fun v S' => ∃ k l' met' miss', k < room ∧ v = .pointer (some ⟨g, 9 + k * 259, none⟩) ∧ GetsC ys l room clock met miss tn k l' met' miss' ∧ S' = [.blk g 132 (cacheE (preC ys A c A1 c1 A2 c2) l' room (clock + 1) met' miss'), .row (.slice A ys.length c) 5 1 ys.length (ints .u8 ys), .row (.slice A1 (atL ys (nY ys)).length c1) 3 1 (atL ys (nY ys)).length (ints .i64 (atL ys (nY ys))), .row (.slice A2 (szL ys (nY ys)).length c2) 3 1 (szL ys (nY ys)).length (ints .i64 (szL ys (nY ys)))]) := by
  have hp : (preC ys A c A1 c1 A2 c2).length = 9 := rfl
  have i0 : Get (cacheE (preC ys A c A1 c1 A2 c2) l room clock met miss) 8298 (.int .i64 clock) := ⟨cacheE_tail hp hl h32 1⟩
  have i1 := fun cl => (⟨cacheE_tail hp hl h32 0⟩ : Get (cacheE (preC ys A c A1 c1 A2 c2) l room cl met miss) 8297 (.int .i64 room))
  have i2 := fun cl => (⟨cacheE_tail hp hl h32 2⟩ : Get (cacheE (preC ys A c A1 c1 A2 c2) l room cl met miss) 8299 (.int .i64 met))
  have i3 := fun cl => (⟨cacheE_tail hp hl h32 3⟩ : Get (cacheE (preC ys A c A1 c1 A2 c2) l room cl met miss) 8300 (.int .i64 miss))
  have o0 : SetAt (cacheE (preC ys A c A1 c1 A2 c2) l room clock met miss) 8298 (.int .i64 (clock + 1)) (cacheE (preC ys A c A1 c1 A2 c2) l room (clock + 1) met miss) := ⟨cacheE_setClock hp hl h32 _, by rw [cacheE_len hp hl h32]; decide⟩
  have j1 := i1 (clock + 1)
  have ft := fun i (hi : i < 32) => cacheE_tile (pre := preC ys A c A1 c1 A2 c2) (l := l) (room := room) (clock := clock + 1) (met := met) (miss := miss) hp hl (i := i) (by omega)
  refine does_of Try.func58 rfl Try.ntmps58 rfl hown (fun n => ?_)
  simp only [slots]
  refine z_tas
  refine c_loop (X := Nat) (fun i => i ≤ room ∧ ∀ j, j < i → (l.getD j default).t ≠ tn) (fun i => [(0, .pointer (some ⟨g, 0, none⟩)), (1, .int .i64 tn), (20, .int .i64 room), (21, .int .i64 i)])
    (fun _ => [.blk g 132 (cacheE (preC ys A c A1 c1 A2 c2) l room (clock + 1) met miss), .row (.slice A ys.length c) 5 1 ys.length (ints .u8 ys), .row (.slice A1 (atL ys (nY ys)).length c1) 3 1 (atL ys (nY ys)).length (ints .i64 (atL ys (nY ys))), .row (.slice A2 (szL ys (nY ys)).length c2) 3 1 (szL ys (nY ys)).length (ints .i64 (szL ys (nY ys)))]) (fun i => room - i) 0 ⟨by omega, fun j hj => by omega⟩ ⟨rfl, rfl, rfl, rfl, trivial⟩ (Sub.refl _) ?_
  rintro i ⟨hi, hj⟩
  rcases Nat.lt_or_ge i room with h | h
  · have g1 : Get (cacheE (preC ys A c A1 c1 A2 c2) l room (clock + 1) met miss) (9 + i * 259) (.int .i64 (l.getD i default).t) := ⟨ft i (by omega)⟩
    have j2 := i2 (clock + 1)
    have o1 : SetAt (cacheE (preC ys A c A1 c1 A2 c2) l room (clock + 1) met miss) 8299 (.int .i64 (met + 1)) (cacheE (preC ys A c A1 c1 A2 c2) l room (clock + 1) (met + 1) miss) := ⟨cacheE_setMet hp hl h32 _, by rw [cacheE_len hp hl h32]; decide⟩
    have j3 : Get (cacheE (preC ys A c A1 c1 A2 c2) l room (clock + 1) (met + 1) miss) 8298 (.int .i64 (clock + 1)) := ⟨cacheE_tail hp hl h32 1⟩
    have o2 : SetAt (cacheE (preC ys A c A1 c1 A2 c2) l room (clock + 1) (met + 1) miss) (9 + i * 259 + 258) (.int .i64 (clock + 1)) (cacheE (preC ys A c A1 c1 A2 c2) (l.set i { l.getD i default with u := clock + 1 }) room (clock + 1) (met + 1) miss) := ⟨cacheE_setU hp hl (by omega) _, by rw [cacheE_len hp hl h32]; omega⟩
    refine z_tas
    · exact j_out1 rfl rfl (Sub.refl _) ⟨i, _, _, _, h, rfl, .inl ⟨by assumption, hj, rfl, rfl, rfl⟩, rfl⟩
    · refine c_round (i + 1) ⟨by omega, fun j hjj => ?_⟩ (by show room - (i + 1) < room - i; omega) ⟨rfl, rfl, rfl, by simp [look], trivial⟩ (Sub.refl _)
      rcases Nat.lt_or_ge j i with h1 | h1
      · exact hj j h1
      · rw [show j = i by omega]; assumption
  · obtain rfl : i = room := by omega
    have j2 := i3 (clock + 1)
    have o1 : SetAt (cacheE (preC ys A c A1 c1 A2 c2) l i (clock + 1) met miss) 8300 (.int .i64 (miss + 1)) (cacheE (preC ys A c A1 c1 A2 c2) l i (clock + 1) met (miss + 1)) := ⟨cacheE_setMiss hp hl h32 _, by rw [cacheE_len hp hl h32]; decide⟩
    refine z_tas
    refine lf rfl rfl rfl (fun w hw ho => oldest_any g (preC ys A c A1 c1 A2 c2) l i (clock + 1) met (miss + 1) w ho hp hl h32 hr) ?_
    rintro v S' ⟨k, hk, rfl, hold, rfl⟩
    have p0 : Get (cacheE (preC ys A c A1 c1 A2 c2) l i (clock + 1) met (miss + 1)) 0 (.slice A ys.length c) := ⟨rfl⟩
    have p1 : Cut (cacheE (preC ys A c A1 c1 A2 c2) l i (clock + 1) met (miss + 1)) 1 8 [.int .i64 (wY ys : Nat), .int .i64 (hY ys : Nat), .slice none 0 0, .int .i64 (cellY ys : Nat), .int .i32 (i32N (leY ys 10 4)), .int .i32 (i32N (leY ys 14 4)), .slice A1 (atL ys (nY ys)).length c1, .slice A2 (szL ys (nY ys)).length c2] := ⟨rfl, rfl⟩
    refine z_tas
    refine c_drv _ (0 :: 1 :: 2 :: 3 :: 4 :: 5 :: 6 :: 7 :: 8 :: 9 :: 10 :: 11 :: 12 :: 13 :: 14 :: []) (Sub.refl _) (by decide +kernel) (by decide) (by decide +kernel) (by decide +kernel) (by decide +kernel) ?_; intro _
    refine z_govG
    refine lf rfl rfl rfl (S := []) (fun w hw ho => ctile_any A c ys A1 A2 c1 c2 tn w ⟨Ro.row hw (Split.nil _) (by refine z_hs)⟩ ⟨Ro.row hw (Split.nil _) (by refine z_hs)⟩ ⟨Ro.row hw (Split.nil _) (by refine z_hs)⟩ hu hm hO hn) ?_
    rintro v S' ⟨zs, Az, cz, code, T, rfl, rfl, hz⟩
    refine j_perm (H' := .row (.slice Az zs.length cz) 34 1 zs.length (ints .i16 zs) :: _) (.cons (.here _ _) (Sub.appR T _)) ?_
    obtain ⟨rfl, hok⟩ : code = 0 ∧ TilOk ys tn zs := by
      rcases hz with hz | ⟨-, -, hz⟩
      · exact hz
      · obtain ⟨z, hz2⟩ := hg tn hn; exact absurd hz2 (hz z)
    have p2 : Get (cacheE (preC ys A c A1 c1 A2 c2) l i (clock + 1) met (miss + 1)) 8298 (.int .i64 (clock + 1)) := ⟨cacheE_tail hp hl h32 1⟩
    obtain ⟨sk, hsk⟩ : ∃ s, l.getD k default = s := ⟨_, rfl⟩
    have hmk : sk.z.length = 256 := by rw [← hsk]; exact hl _ (by rw [List.getD_eq_getElem?_getD, List.getElem?_eq_getElem (by omega)]; exact List.getElem_mem ..)
    have hlk : ∀ t w u : Int, Slts (l.set k ⟨t, w, sk.z, u⟩) := fun t w u => hl.set k hmk
    have h3k : ∀ s : Slt, (l.set k s).length = 32 := fun s => by rw [List.length_set]; exact h32
    have hgk := fun (s : Slt) => getD_set_self (l := l) (i := k) (s := s) (by omega)
    have o3 : SetAt (cacheE (preC ys A c A1 c1 A2 c2) l i (clock + 1) met (miss + 1)) (9 + k * 259) (.int .i64 tn) (cacheE (preC ys A c A1 c1 A2 c2) (l.set k ⟨tn, sk.w, sk.z, sk.u⟩) i (clock + 1) met (miss + 1)) := ⟨by rw [cacheE_setT hp hl (by omega), hsk], by rw [cacheE_len hp hl h32]; omega⟩
    have o4 : SetAt (cacheE (preC ys A c A1 c1 A2 c2) (l.set k ⟨tn, sk.w, sk.z, sk.u⟩) i (clock + 1) met (miss + 1)) (9 + k * 259 + 258) (.int .i64 (clock + 1)) (cacheE (preC ys A c A1 c1 A2 c2) (l.set k ⟨tn, sk.w, sk.z, clock + 1⟩) i (clock + 1) met (miss + 1)) := ⟨by rw [cacheE_setU hp (hlk _ _ _) (by rw [h3k]; omega), hgk, List.set_set], by rw [cacheE_len hp (hlk _ _ _) (h3k _)]; omega⟩
    have o5 : SetAt (cacheE (preC ys A c A1 c1 A2 c2) (l.set k ⟨tn, sk.w, sk.z, clock + 1⟩) i (clock + 1) met (miss + 1)) (9 + k * 259 + 1) (.int .i64 ((boxF (wY ys) (hY ys) (tX (wY ys) tn) (tY (wY ys) tn)).2.2.1 : Nat)) (cacheE (preC ys A c A1 c1 A2 c2) (l.set k ⟨tn, (tilW (wY ys) (hY ys) tn : Nat), sk.z, clock + 1⟩) i (clock + 1) met (miss + 1)) := ⟨by rw [cacheE_setW hp (hlk _ _ _) (by rw [h3k]; omega), hgk, List.set_set]; rfl, by rw [cacheE_len hp (hlk _ _ _) (h3k _)]; omega⟩
    refine z_govG
    refine z_tas
    have hrg := hO.rng
    unfold rangeY at hrg
    have hpg := placesTo_get (wY ys) (nT (wY ys) (hY ys)) tn hn
    have hpl := placesTo_len (wY ys) (nT (wY ys) (hY ys))
    have hn2 : tn < nT (wY ys) (hY ys) := hn
    have hbx := tile_box (W := wY ys) (H := hY ys) hn
    obtain ⟨hX, hY'⟩ := tXY_in (W := wY ys) (H := hY ys) (i := tn) (by omega) hn
    refine c_dp [38] 39 (0 :: 1 :: 2 :: 3 :: 4 :: 5 :: 6 :: 7 :: 8 :: 9 :: 10 :: 11 :: 12 :: 13 :: 14 :: 15 :: 16 :: 17 :: 18 :: 19 :: 20 :: 21 :: 22 :: 23 :: 24 :: 25 :: 26 :: 27 :: 28 :: 29 :: 30 :: 31 :: 32 :: 33 :: 34 :: 35 :: 36 :: 37 :: 38 :: []) ?_; intro _
    refine z_govG
    refine lf rfl rfl rfl (S := []) (fun w hw ho => places_any (wY ys) (hY ys) w (by omega)) ?_
    rintro v S' ⟨Ap, cp, rfl, rfl⟩
    refine z_govG
    simp only [hpg]
    refine lfv rfl rfl rfl (fun w _ => box_any (wY ys) (hY ys) (tX (wY ys) tn) (tY (wY ys) tn) w hX hY' (by omega)) ?_
    refine z_govG
    refine z_tas
    have hzl : 0 < zs.length ∧ zs.length ≤ 256 := by
      rw [hok.1]
      exact ⟨Nat.mul_pos (by omega) (by omega), Nat.mul_le_mul (show _ ≤ 16 by omega) (show _ ≤ 16 by omega)⟩
    refine lcpB rfl rfl ⟨hzl.1, hzl.2, ?_⟩ rfl ?_
    · rw [cacheE_len hp (hlk _ _ _) (h3k _)]; omega
    rw [cacheE_setZ hp (hlk _ _ _) (by rw [h3k]; omega) hzl.2, hgk, List.set_set]
    refine z_tas
    subst hsk
    refine j_out1 rfl rfl ?_ ⟨k, _, _, _, hk, rfl, .inr ⟨hj, hold, ⟨zs, hok, rfl⟩, rfl, rfl⟩, rfl⟩
    exact Sub.au
end Go.Proofs.Ytpmomimaihjmjaa
/- Package cache: Height. -/
namespace Go.Proofs.Ytpmomimaihjmjaa
open Go.RowKit
/-- A cell of a tile is the field's. -/
theorem cut_cell {W H : Nat} {f : List Int} (hf : f.length = W * H) {x y : Nat} (hx : x < W) (hy : y < H) : y / 16 * cntF W + x / 16 < nT W H ∧ (y % 16 + 1) * tilW W H (y / 16 * cntF W + x / 16) ≤ (cutN W H f (y / 16 * cntF W + x / 16)).length ∧ x % 16 < tilW W H (y / 16 * cntF W + x / 16) ∧ (cutN W H f (y / 16 * cntF W + x / 16)).getD (y % 16 * tilW W H (y / 16 * cntF W + x / 16) + x % 16) 0 = f.getD (y * W + x) 0 := by
  have hi : x / 16 < cntF W := by unfold cntF; omega
  have hk : y / 16 < cntF H := by unfold cntF; omega
  have hn : y / 16 * cntF W + x / 16 < nT W H := by
    have h5 : (y / 16 + 1) * cntF W ≤ cntF H * cntF W := Nat.mul_le_mul_right _ hk
    rw [Nat.add_mul, Nat.one_mul, Nat.mul_comm (cntF H)] at h5
    unfold nT
    omega
  have hX := (tXY (W := W) (y := y / 16) hi).1
  have hY := (tXY (W := W) (y := y / 16) hi).2
  have hb := box_at (W := W) (H := H) hi hk
  have ew : tilW W H (y / 16 * cntF W + x / 16) = min 16 (W - 16 * (x / 16)) := by unfold tilW; rw [hX, hY, hb]
  have eh : tilH W H (y / 16 * cntF W + x / 16) = min 16 (H - 16 * (y / 16)) := by unfold tilH; rw [hX, hY, hb]
  have hl := cutN_len (W := W) (H := H) (i := y / 16 * cntF W + x / 16) hf
  have hr : y % 16 < tilH W H (y / 16 * cntF W + x / 16) := by rw [eh]; omega
  refine ⟨hn, ?_, by rw [ew]; omega, ?_⟩
  · rw [hl, Nat.mul_comm (tilW ..)]
    exact Nat.mul_le_mul_right _ hr
  have hbx := boxF_in W H (x / 16 : Nat) (y / 16 : Nat)
  rw [hb] at hbx
  simp only at hbx
  have hp := cut_part (r := y % 16) hf hbx.1 hbx.2.1 (by omega) _ (by omega : y % 16 < min 16 (H - 16 * (y / 16))) (Nat.le_refl _)
  have ec : cutN W H f (y / 16 * cntF W + x / 16) = cutTo f W (16 * (x / 16)) (16 * (y / 16)) (min 16 (W - 16 * (x / 16))) (min 16 (H - 16 * (y / 16))) := by
    unfold cutN cutF
    rw [hX, hY, hb]
  rw [ec, ew]
  have hxm : x % 16 < min 16 (W - 16 * (x / 16)) := by omega
  have e1 := congrArg (fun l => l.getD (x % 16) 0) hp
  simp only [List.getD_eq_getElem?_getD, List.getElem?_take_of_lt hxm, List.getElem?_drop] at e1
  rw [List.getD_eq_getElem?_getD, e1, rowAt, List.getElem?_take_of_lt hxm, List.getElem?_drop, show 16 * (y / 16) + y % 16 = y by omega, show y * W + 16 * (x / 16) + x % 16 = y * W + x by omega, List.getD_eq_getElem?_getD]
theorem getD_takeZ {l : List Int} {m i : Nat} (h : i < m) : (l.take m).getD i 0 = l.getD i 0 := by rw [List.getD_eq_getElem?_getD, List.getD_eq_getElem?_getD, List.getElem?_take_of_lt h]
/-- What stays in a cache, and what turns. -/
structure CaT where
  g : Nat
  ys : List Int
  A : Option Addr
  c : Nat
  A1 : Option Addr
  c1 : Nat
  A2 : Option Addr
  c2 : Nat
  room : Nat
structure CaV where
  l : List Slt
  clock : Int
  met : Int
  miss : Int
@[reducible] def CaT.H (K : CaT) (s : CaV) : List HE := [.blk K.g 132 (cacheE (preC K.ys K.A K.c K.A1 K.c1 K.A2 K.c2) s.l K.room s.clock s.met s.miss), .row (.slice K.A K.ys.length K.c) 5 1 K.ys.length (ints .u8 K.ys), .row (.slice K.A1 (atL K.ys (nY K.ys)).length K.c1) 3 1 (atL K.ys (nY K.ys)).length (ints .i64 (atL K.ys (nY K.ys))), .row (.slice K.A2 (szL K.ys (nY K.ys)).length K.c2) 3 1 (szL K.ys (nY K.ys)).length (ints .i64 (szL K.ys (nY K.ys)))]
@[reducible] def CaT.HC (K : CaT) (s : CaV) (T : List HE) : List HE := .blk K.g 132 (cacheE (preC K.ys K.A K.c K.A1 K.c1 K.A2 K.c2) s.l K.room s.clock s.met s.miss) :: .row (.slice K.A K.ys.length K.c) 5 1 K.ys.length (ints .u8 K.ys) :: .row (.slice K.A1 (atL K.ys (nY K.ys)).length K.c1) 3 1 (atL K.ys (nY K.ys)).length (ints .i64 (atL K.ys (nY K.ys))) :: .row (.slice K.A2 (szL K.ys (nY K.ys)).length K.c2) 3 1 (szL K.ys (nY K.ys)).length (ints .i64 (szL K.ys (nY K.ys))) :: T
/-- A slot that holds tile n. -/
def SlIs (ys f : List Int) (n : Nat) (s : Slt) : Prop := s.t = n ∧ s.w = (tilW (wY ys) (hY ys) n : Nat) ∧ s.z.take (cutN (wY ys) (hY ys) f n).length = cutN (wY ys) (hY ys) f n
def SlOk (ys f : List Int) (s : Slt) : Prop := 0 ≤ s.t → ∃ n, n < nY ys ∧ SlIs ys f n s
/-- A map's bytes, its heights, a cache's room. -/
structure CaF (ys f : List Int) (room : Nat) : Prop where
  u8 : U8s ys
  len : ys.length < 100000000
  op : Opens ys
  good : Good9 ys f
  room : 1 ≤ room ∧ room ≤ 32
/-- A cache that may be; no counter is more than b. -/
structure CaOk (ys f : List Int) (room : Nat) (s : CaV) (b : Int) : Prop where
  len : s.l.length = 32
  slts : Slts s.l
  sl : ∀ k, k < room → SlOk ys f (s.l.getD k default)
  clock : 0 ≤ s.clock ∧ s.clock ≤ b
  met : 0 ≤ s.met ∧ s.met ≤ b
  miss : 0 ≤ s.miss ∧ s.miss ≤ b
theorem CaOk.mono {ys f : List Int} {room : Nat} {s : CaV} {b c : Int} (h : CaOk ys f room s b) (hb : b ≤ c) : CaOk ys f room s c := ⟨h.len, h.slts, h.sl, ⟨h.clock.1, by have := h.clock.2; omega⟩, ⟨h.met.1, by have := h.met.2; omega⟩, ⟨h.miss.1, by have := h.miss.2; omega⟩⟩
theorem gets_ok {ys f : List Int} {room n k : Nat} {s s' : CaV} {b : Int} (hF : CaF ys f room) (h : CaOk ys f room s b) (hn : n < nY ys) (hk : k < room) (hg : GetsC ys s.l room s.clock s.met s.miss n k s'.l s'.met s'.miss) (hc : s'.clock = s.clock + 1) : CaOk ys f room s' (b + 1) ∧ SlIs ys f n (s'.l.getD k default) := by
  have hk32 : k < s.l.length := by have := h.len; have := hF.room; omega
  obtain ⟨c1, c2⟩ := h.clock
  obtain ⟨c3, c4⟩ := h.met
  obtain ⟨c5, c6⟩ := h.miss
  have key : ∀ sl : Slt, sl.z.length = 256 → SlOk ys f sl → s'.l = s.l.set k sl → (s'.met = s.met + 1 ∧ s'.miss = s.miss ∨ s'.met = s.met ∧ s'.miss = s.miss + 1) → CaOk ys f room s' (b + 1) ∧ s'.l.getD k default = sl := by
    intro sl hz hsl e hm
    refine ⟨⟨by rw [e, List.length_set, h.len], by rw [e]; exact h.slts.set k hz, fun j hj => ?_, by omega, by omega, by omega⟩, by rw [e, getD_set_self hk32]⟩
    rw [e]
    by_cases hjk : j = k
    · subst hjk; rw [getD_set_self hk32]; exact hsl
    · have : (s.l.set k sl).getD j default = s.l.getD j default := by rw [List.getD_eq_getElem?_getD, List.getD_eq_getElem?_getD, List.getElem?_set_ne (fun e => hjk e.symm)]
      rw [this]; exact h.sl j hj
  have hz0 : (s.l.getD k default).z.length = 256 := h.slts _ (by rw [List.getD_eq_getElem?_getD, List.getElem?_eq_getElem hk32]; exact List.getElem_mem ..)
  rcases hg with ⟨h1, -, h3, h4, h5⟩ | ⟨-, -, ⟨zs, h1, h2⟩, h4, h5⟩
  · obtain ⟨m, hm, hsl⟩ := h.sl k hk (by omega)
    have hmn : m = n := by have := hsl.1; omega
    subst hmn
    have := key { s.l.getD k default with u := s.clock + 1 } hz0 (fun _ => ⟨m, hm, hsl⟩) h3 (.inl ⟨h4, h5⟩)
    exact ⟨this.1, by rw [this.2]; exact hsl⟩
  · obtain rfl := TilOk.one hn h1 (hF.good.til hn)
    have hl : (cutN (wY ys) (hY ys) f n).length ≤ 256 := cutN_le hF.good.2.1
    have his : SlIs ys f n ⟨n, (tilW (wY ys) (hY ys) n : Nat), cutN (wY ys) (hY ys) f n ++ (s.l.getD k default).z.drop (cutN (wY ys) (hY ys) f n).length, s.clock + 1⟩ := ⟨rfl, rfl, by simp⟩
    have := key _ (by simp only [List.length_append, List.length_drop]; omega) (fun _ => ⟨n, hn, his⟩) h2 (.inr ⟨h4, h5⟩)
    exact ⟨this.1, by rw [this.2]; exact his⟩
/-- What Height does to a cache. -/
def HgtS (ys : List Int) (room : Nat) (s : CaV) (x y : Int) (s' : CaV) : Prop :=
  ((x < 0 ∨ y < 0 ∨ (wY ys : Int) ≤ x ∨ (hY ys : Int) ≤ y) ∧ s' = s) ∨ (¬ (x < 0 ∨ y < 0 ∨ (wY ys : Int) ≤ x ∨ (hY ys : Int) ≤ y) ∧ ∃ k, k < room ∧ GetsC ys s.l room s.clock s.met s.miss (y.toNat / 16 * cntF (wY ys) + x.toNat / 16) k s'.l s'.met s'.miss ∧ s'.clock = s.clock + 1)
theorem HgtS.ok {ys f : List Int} {room : Nat} {s s' : CaV} {x y b : Int} (hg : HgtS ys room s x y s') (hF : CaF ys f room) (h : CaOk ys f room s b) : CaOk ys f room s' (b + 1) := by
  rcases hg with ⟨-, rfl⟩ | ⟨ho, k, hk, h1, h2⟩
  · exact h.mono (by omega)
  · exact (gets_ok hF h (cut_cell (f := f) hF.good.2.1 (by omega) (by omega)).1 hk h1 h2).1
attribute [local irreducible] OJ J HdJ Code.wpIn wpListIn Oper.wpIn bodyPost CallsIn Does
set_option maxRecDepth 4000
set_option maxHeartbeats 64000000 in
theorem height_c (K : CaT) (s : CaV) (f : List Int) (x y b : Int) (w : World) (hown : Own (K.H s) w) (hF : CaF K.ys f K.room) (h : CaOk K.ys f K.room s b) (hb : b ≤ 1000000000000000000) :
    Does Try.prog 18 [.pointer (some ⟨K.g, 0, none⟩), .int .i64 x, .int .i64 y] (K.H s) w (fun v S' => ∃ s', v = .tuple #[.int .i16 (heightF (wY K.ys) (hY K.ys) f x y).1, .int .i64 (heightF (wY K.ys) (hY K.ys) f x y).2] ∧ HgtS K.ys K.room s x y s' ∧ S' = K.H s') := by
  obtain ⟨g, ys, A, c, A1, c1, A2, c2, room⟩ := K
  obtain ⟨l, clock, met, miss⟩ := s
  have hrg := hF.op.rng
  unfold rangeY at hrg
  have hrm := hF.room
  have hp : (preC ys A c A1 c1 A2 c2).length = 9 := rfl
  obtain ⟨e1, -, -, e3, e4, e5⟩ := id h
  simp only at e1 e3 e4 e5 hrm hrg ⊢ hF h
  have q0 : Cut (cacheE (preC ys A c A1 c1 A2 c2) l room clock met miss) 1 3 [.int .i64 (wY ys : Nat), .int .i64 (hY ys : Nat), .slice none 0 0] := ⟨rfl, rfl⟩
  refine does_of Try.func18 rfl Try.ntmps18 rfl hown (fun n => ?_)
  simp only [slots]
  by_cases ho : x < 0 ∨ y < 0 ∨ (wY ys : Int) ≤ x ∨ (hY ys : Int) ≤ y
  · have e : heightF (wY ys) (hY ys) f x y = (0, 9) := if_pos ho
    rw [e]
    refine z_tas
    all_goals first
      | exact j_out2 rfl rfl rfl Sub.au ⟨_, rfl, .inl ⟨ho, rfl⟩, rfl⟩
      | (exfalso; omega)
  obtain ⟨X, rfl⟩ : ∃ X : Nat, x = X := ⟨x.toNat, by omega⟩
  obtain ⟨Y, rfl⟩ : ∃ Y : Nat, y = Y := ⟨y.toNat, by omega⟩
  have hXY : X < wY ys ∧ Y < hY ys := by omega
  obtain ⟨hn, hc1, hc2, hc3⟩ := cut_cell hF.good.2.1 hXY.1 hXY.2
  have hnt := nT_le (W := wY ys) (H := hY ys) (by omega)
  have hcm : (Y : Int) / 16 * ((cntF (wY ys) : Nat) : Int) = ((Y / 16 * cntF (wY ys) : Nat) : Int) := by push_cast; rfl
  refine z_tas
  refine lfv (v := .int .i64 (cntF (wY ys) : Nat)) rfl rfl rfl (fun w _ => cnt_any (wY ys) w (by omega)) ?_
  refine z_tas
  refine j_set 44 _ rfl (congrArg (Value.int .i64) (show (Y : Int) / 16 * (cntF (wY ys) : Nat) + (X : Int) / 16 = ((Y / 16 * cntF (wY ys) + X / 16 : Nat) : Int) by push_cast; rfl)) ?_
  refine lf rfl rfl rfl (S := CaT.H ⟨g, ys, A, c, A1, c1, A2, c2, room⟩ ⟨l, clock, met, miss⟩) (fun w hw ho => getc_any g ys A A1 A2 c c1 c2 l room (Y / 16 * cntF (wY ys) + X / 16) clock met miss w ho h.slts e1 hrm (by omega) hF.u8 hF.len hF.op hn (fun i hi => ⟨_, hF.good.til hi⟩)) ?_
  rintro v S' ⟨k, l', met', miss', hk, rfl, hg, rfl⟩
  obtain ⟨g1, g2⟩ := gets_ok (s' := ⟨l', clock + 1, met', miss'⟩) hF h hn hk hg rfl
  have hkl : k < l'.length := by have : l'.length = 32 := g1.len; omega
  have gw : (l'.getD k default).w = _ := g2.2.1
  have gz : (l'.getD k default).z.take _ = _ := g2.2.2
  have iw : Get (cacheE (preC ys A c A1 c1 A2 c2) l' room (clock + 1) met' miss') (9 + k * 259 + 1) (.int .i64 (tilW (wY ys) (hY ys) (Y / 16 * cntF (wY ys) + X / 16) : Nat)) := ⟨by rw [cacheE_w hp g1.slts hkl, gw]⟩
  have hzl := cutN_le (W := wY ys) (H := hY ys) (z := f) (i := Y / 16 * cntF (wY ys) + X / 16) hF.good.2.1
  rw [Nat.add_mul, Nat.one_mul] at hc1
  have iz : Get (cacheE (preC ys A c A1 c1 A2 c2) l' room (clock + 1) met' miss') (9 + k * 259 + 2 + (Y % 16 * tilW (wY ys) (hY ys) (Y / 16 * cntF (wY ys) + X / 16) + X % 16)) (.int .i16 (f.getD (Y * wY ys + X) 0)) := ⟨by
    rw [Nat.add_assoc (9 + k * 259) 2, cacheE_z hp g1.slts hkl (by omega), ← hc3, ← gz, getD_takeZ (by omega)]⟩
  have hcz : (Y : Int) % 16 * ((tilW (wY ys) (hY ys) (Y / 16 * cntF (wY ys) + X / 16) : Nat) : Int) = ((Y % 16 * tilW (wY ys) (hY ys) (Y / 16 * cntF (wY ys) + X / 16) : Nat) : Int) := by push_cast; rfl
  refine z_tas
  refine c_dv (0 :: 1 :: 2 :: 3 :: 4 :: 5 :: 6 :: 7 :: 8 :: 9 :: 10 :: 11 :: 12 :: 13 :: 14 :: 15 :: []) ?_; intro _
  refine z_govG
  have e : heightF (wY ys) (hY ys) f X Y = if f.getD (Y * wY ys + X) 0 = -32768 then (0, 8) else (f.getD (Y * wY ys + X) 0, 0) := by
    have e0 : ((Y : Int) * (wY ys : Int) + (X : Int)).toNat = Y * wY ys + X := by
      rw [← Int.natCast_mul, ← Int.natCast_add, Int.toNat_natCast]
    unfold heightF
    rw [if_neg ho, e0]
  rw [e]
  refine j_set 56 _ rfl (congrArg (Value.int .i64) (show (Y : Int) % 16 * ((tilW (wY ys) (hY ys) (Y / 16 * cntF (wY ys) + X / 16) : Nat) : Int) + (X : Int) % 16 = ((Y % 16 * tilW (wY ys) (hY ys) (Y / 16 * cntF (wY ys) + X / 16) + X % 16 : Nat) : Int) by push_cast; rfl)) ?_
  refine z_govG
  all_goals first
    | exact j_out2 rfl rfl rfl Sub.au ⟨⟨l', clock + 1, met', miss'⟩, by rw [if_pos (by assumption)], .inr ⟨ho, k, hk, hg, rfl⟩, rfl⟩
    | exact j_out2 rfl rfl rfl Sub.au ⟨⟨l', clock + 1, met', miss'⟩, by rw [if_neg (by assumption)], .inr ⟨ho, k, hk, hg, rfl⟩, rfl⟩
end Go.Proofs.Ytpmomimaihjmjaa
/- Package cache: Chart, New. -/
namespace Go.Proofs.Ytpmomimaihjmjaa
open Go.RowKit
def zeroS : List Slt := List.replicate 32 ⟨0, 0, List.replicate 256 0, 0⟩
@[reducible] def zpre1 : List Value := [.int .i64 0, .int .i64 0, .slice none 0 0, .int .i64 0, .int .i32 0, .int .i32 0, .slice none 0 0, .slice none 0 0]
def zC : Value := .agg (cacheE (.slice none 0 0 :: zpre1) zeroS 0 0 0 0).toArray
set_option maxRecDepth 100000 in
instance : Inf Try.prog 132 8301 17312 zC := ⟨Try.t132, by kernel_rfl, by kernel_rfl, rfl, rfl⟩
instance : ZC zC (cacheE (.slice none 0 0 :: zpre1) zeroS 0 0 0 0) := ⟨rfl⟩
set_option maxRecDepth 10000 in
theorem zeroS_ok : Slts zeroS ∧ zeroS.length = 32 := ⟨fun s hs => by rw [List.eq_of_mem_replicate hs]; exact List.length_replicate .., List.length_replicate ..⟩
instance {pre vs o : List Value} {l : List Slt} {room clock met miss : Int} {q : Nat} [h : Over pre q vs o] : Over (cacheE pre l room clock met miss) q vs (cacheE o l room clock met miss) := ⟨by
  obtain ⟨h1, h2⟩ := h.h
  unfold cacheE
  refine ⟨?_, by rw [List.length_append]; omega⟩
  rw [List.take_append_of_le_length (by omega), List.drop_append_of_le_length (by omega), ← List.append_assoc, h1]⟩
theorem getD_mem {l : List Slt} {i : Nat} (h : i < l.length) : l.getD i default ∈ l := by rw [List.getD_eq_getElem?_getD, List.getElem?_eq_getElem h]; exact List.getElem_mem ..
theorem cacheE_setRoom {pre : List Value} {l : List Slt} {room clock met miss : Int} (hp : pre.length = 9) (hl : Slts l) (h32 : l.length = 32) (x : Int) : (cacheE pre l room clock met miss).set 8297 (.int .i64 x) = cacheE pre l x clock met miss := by
  have hs := slotsE_len hl
  unfold cacheE
  rw [List.set_append_right _ _ (by omega), List.set_append_right _ _ (by omega), hp, hs, h32]
  rfl
instance (v : Value) (x : Int) : Over (cacheE (v :: zpre1) zeroS 0 0 0 0) 8297 [.int .i64 x] (cacheE (v :: zpre1) zeroS x 0 0 0) := by
  have := over_set (cs := cacheE (v :: zpre1) zeroS 0 0 0 0) (q := 8297) (.int .i64 x) (by rw [cacheE_len rfl zeroS_ok.1 zeroS_ok.2]; decide)
  rw [cacheE_setRoom rfl zeroS_ok.1 zeroS_ok.2] at this
  exact this
attribute [local irreducible] OJ J HdJ Code.wpIn wpListIn Oper.wpIn bodyPost CallsIn Does
set_option maxRecDepth 4000
set_option maxHeartbeats 64000000 in
theorem chart_c (K : CaT) (s : CaV) (w : World) (hown : Own (K.H s) w) :
    Does Try.prog 57 [.pointer (some ⟨K.g, 0, none⟩)] (K.H s) w (fun v S' => v = .agg #[.int .i64 (wY K.ys : Nat), .int .i64 (hY K.ys : Nat), .slice none 0 0, .int .i64 (cellY K.ys : Nat), .int .i32 (i32N (leY K.ys 10 4)), .int .i32 (i32N (leY K.ys 14 4))] ∧ S' = K.H s) := by
  obtain ⟨g, ys, A, c, A1, c1, A2, c2, room⟩ := K
  obtain ⟨l, clock, met, miss⟩ := s
  simp only
  have q0 : Cut (cacheE (preC ys A c A1 c1 A2 c2) l room clock met miss) 1 6 [.int .i64 (wY ys : Nat), .int .i64 (hY ys : Nat), .slice none 0 0, .int .i64 (cellY ys : Nat), .int .i32 (i32N (leY ys 10 4)), .int .i32 (i32N (leY ys 14 4))] := ⟨rfl, rfl⟩
  refine does_of Try.func57 rfl Try.ntmps57 rfl hown (fun n => ?_)
  simp only [slots]
  refine z_tas
  refine j_outK (S' := CaT.H ⟨g, ys, A, c, A1, c1, A2, c2, room⟩ ⟨l, clock, met, miss⟩) Sub.au ?_
  refine z_rk
  exact ⟨rfl, rfl⟩
/-- A cache's slots as New leaves them. -/
def newTo : Nat → List Slt
  | 0 => zeroS
  | i + 1 => (newTo i).set i { (newTo i).getD i default with t := -1 }
theorem newTo_ok : ∀ i, Slts (newTo i) ∧ (newTo i).length = 32
  | 0 => zeroS_ok
  | i + 1 => by
    obtain ⟨h1, h2⟩ := newTo_ok i
    refine ⟨?_, by rw [newTo, List.length_set, h2]⟩
    rw [newTo]
    rcases Nat.lt_or_ge i 32 with h | h
    · exact h1.set i (h1 ((newTo i).getD i default) (getD_mem (by omega)))
    · rw [List.set_eq_of_length_le (by omega)]; exact h1
theorem newTo_neg : ∀ i, i ≤ 32 → ∀ k, k < i → ((newTo i).getD k default).t = -1
  | 0, _, k, h => by omega
  | i + 1, hi, k, h => by
    have h2 := (newTo_ok i).2
    rw [newTo]
    by_cases e : k = i
    · subst e; rw [getD_set_self (by omega)]
    · have : ((newTo i).set i { (newTo i).getD i default with t := -1 }).getD k default = (newTo i).getD k default := by rw [List.getD_eq_getElem?_getD, List.getElem?_set_ne (fun x => e x.symm), List.getD_eq_getElem?_getD]
      rw [this]; exact newTo_neg i (by omega) k (by omega)
/-- A new cache. -/
def newV (room : Nat) : CaV := ⟨newTo room, 0, 0, 0⟩
theorem newV_ok {ys f : List Int} {room : Nat} (hr : room ≤ 32) : CaOk ys f room (newV room) 0 :=
  ⟨(newTo_ok room).2, (newTo_ok room).1, fun k hk h => by rw [show ((newV room).l.getD k default).t = -1 from newTo_neg room hr k hk] at h; omega, ⟨Int.le_refl _, Int.le_refl _⟩, ⟨Int.le_refl _, Int.le_refl _⟩, ⟨Int.le_refl _, Int.le_refl _⟩⟩
/-- What New comes to. -/
def NewR (ys : List Int) (room : Int) (v : Value) (S' : List HE) : Prop :=
  (∃ code : Int, code ≠ 0 ∧ v = .tuple #[.pointer none, .int .i64 code] ∧ S' = [] ∧ (((room < 4 ∨ 32 < room) ∧ code = 12) ∨ (¬ (room < 4 ∨ 32 < room) ∧ GetC ys code))) ∨
  (¬ (room < 4 ∨ 32 < room) ∧ GetC ys 0 ∧ ∃ K : CaT, K.ys = ys ∧ (K.room : Int) = room ∧ v = .tuple #[.pointer (some ⟨K.g, 0, none⟩), .int .i64 0] ∧ S' = K.H (newV K.room))
set_option maxHeartbeats 64000000 in
theorem new_c (A : Option Addr) (c : Nat) (ys : List Int) (room : Int) (w : World) (hr : RoA w (blocks []) A ys.length c 1 (ints .u8 ys)) (hu : U8s ys) (hm : ys.length < 100000000) (hrm : InR .i64 room) :
    Does Try.prog 26 [.slice A ys.length c, .int .i64 room] [] w (NewR ys room) := by
  refine does_of Try.func26 rfl Try.ntmps26 rfl ⟨by simp, .nil⟩ (fun n => ?_)
  simp only [slots]
  by_cases ho : room < 4 ∨ 32 < room
  · refine z_tas
    all_goals first
      | exact j_out2 rfl rfl rfl (.nil _) (.inl ⟨12, by decide, rfl, rfl, .inl ⟨ho, rfl⟩⟩)
      | (exfalso; omega)
  obtain ⟨R, rfl⟩ : ∃ R : Nat, room = R := ⟨room.toNat, by omega⟩
  refine z_tas
  refine lf rfl rfl rfl (S := []) (fun w hw ho => get_any9 A c ys w ⟨hr.h.go hw (Split.nil _)⟩ hu hm) ?_
  rintro v S' hget
  rcases hget with ⟨code, hne, hgc2, rfl, rfl⟩ | ⟨hgc, g, Ag, cg, hgl, hgg, rfl, rfl⟩
  · refine z_tas
    exact j_out2 rfl rfl rfl (.nil _) (.inl ⟨code, hne, rfl, rfl, .inr ⟨ho, hgc2⟩⟩)
  refine z_tas
  rename_i b0 b1 A' c' gC
  refine lf rfl rfl rfl (S := []) (fun w hw ho => open_any A' c' ys w ⟨Ro.row hw (Split.nil _) (by refine z_hs)⟩ hu hm) ?_
  have hoc : openC ys = 0 := by
    rcases hgc with ⟨h, -⟩ | ⟨h, -⟩ | ⟨h, -⟩
    · exact absurd rfl h
    · exact h
    · exact h
  rintro v S' (⟨-, A1, c1, A2, c2, rfl, rfl⟩ | ⟨h, -⟩)
  case inr => exact absurd hoc h
  refine z_tas
  refine c_loop (X := Nat) (fun i => i ≤ R) (fun i => [(8, .pointer (some ⟨gC, 0, none⟩)), (41, .int .i64 R), (42, .int .i64 i)]) (fun i => CaT.H ⟨gC, ys, A', c', A1, c1, A2, c2, R⟩ ⟨newTo i, 0, 0, 0⟩) (fun i => R - i) 0 (by omega) ⟨rfl, rfl, rfl, trivial⟩ (show Sub (CaT.H ⟨gC, ys, A', c', A1, c1, A2, c2, R⟩ ⟨zeroS, 0, 0, 0⟩) _ from Sub.au) ?_
  intro i hi
  obtain ⟨n1, n2⟩ := newTo_ok i
  rcases Nat.lt_or_ge i R with h | h
  · have o1 : SetAt (cacheE (preC ys A' c' A1 c1 A2 c2) (newTo i) R 0 0 0) (9 + i * 259) (.int .i64 (-1)) (cacheE (preC ys A' c' A1 c1 A2 c2) (newTo (i + 1)) R 0 0 0) := ⟨cacheE_setT rfl n1 (by omega) _, by rw [cacheE_len rfl n1 n2]; omega⟩
    refine z_tas
    exact c_round (i + 1) h (by show R - (i + 1) < R - i; omega) ⟨rfl, rfl, by simp [look], trivial⟩ Sub.au
  · obtain rfl : i = R := by omega
    refine z_tas
    exact j_out2 rfl rfl rfl (show Sub (CaT.H ⟨gC, ys, A', c', A1, c1, A2, c2, i⟩ ⟨newTo i, 0, 0, 0⟩) _ from Sub.au) (.inr ⟨ho, hgc, ⟨gC, ys, A', c', A1, c1, A2, c2, i⟩, rfl, rfl, rfl, rfl⟩)
end Go.Proofs.Ytpmomimaihjmjaa
/- Layer 10: a cache over a map of any heights. -/
namespace Go.Proofs.Ytpmomimaihjmjaa
open Go.RowKit
theorem caF_of {W H cell : Nat} {ox oy : Int} {f : List Int} {R : Nat} (hW : 2 ≤ W ∧ W ≤ 256 ∧ 2 ≤ H ∧ H ≤ 256 ∧ 1 ≤ cell ∧ cell ≤ 1000) (hz : f.length = W * H) (hi : In16 f) (hR : 1 ≤ R ∧ R ≤ 32) : CaF (chartB W H cell ox oy f) f R :=
  ⟨chartB_u8 W H cell ox oy f, by have := chart_big (cell := cell) (ox := ox) (oy := oy) (by omega : W ≤ 256 ∧ H ≤ 256) hz; omega, chart_opens hW hz, chart_good hW hz hi, hR⟩
attribute [local irreducible] OJ J HdJ Code.wpIn wpListIn Oper.wpIn bodyPost CallsIn Does
set_option maxRecDepth 4000
set_option maxHeartbeats 16000000 in
theorem open10 (W H cell : Nat) (Af : Option Addr) (cf : Nat) (f : List Int) (ox oy : Int) (R : Nat) (w : World) (hr : RoA w (blocks []) Af f.length cf 1 (ints .i16 f)) (hW : 2 ≤ W ∧ W ≤ 256 ∧ 2 ≤ H ∧ H ≤ 256 ∧ 1 ≤ cell ∧ cell ≤ 1000) (hz : f.length = W * H) (hi : In16 f) (hox : InR .i32 ox) (hoy : InR .i32 oy) (hR : 4 ≤ R ∧ R ≤ 32) :
    Does Try.prog 16 [.agg #[.int .i64 W, .int .i64 H, .slice Af f.length cf, .int .i64 cell, .int .i32 ox, .int .i32 oy], .int .i64 R] [] w (fun v S' => ∃ K : CaT, K.ys = chartB W H cell ox oy f ∧ K.room = R ∧ v = .pointer (some ⟨K.g, 0, none⟩) ∧ S' = K.H (newV R)) := by
  refine does_of Try.func16 rfl Try.ntmps16 rfl ⟨by simp, .nil⟩ (fun n => ?_)
  simp only [slots]
  refine z_tas
  refine lf rfl rfl rfl (S := []) (fun w hw ho => cput_ok W H cell Af cf f ox oy w ⟨hr.h.go hw (Split.nil _)⟩ hW hz hi hox hoy) ?_
  rintro v S' ⟨Ab, cb, rfl, rfl⟩
  have hF := caF_of (ox := ox) (oy := oy) hW hz hi (by omega : 1 ≤ R ∧ R ≤ 32)
  have hget := chart_get (ox := ox) (oy := oy) hW hz hi
  generalize chartB W H cell ox oy f = bb at *
  refine z_tas
  refine lf rfl rfl rfl (S := []) (fun w hw ho => new_c Ab cb bb R w ⟨Ro.row hw (Split.nil _) (by refine z_hs)⟩ hF.u8 hF.len (by omega)) ?_
  rintro v S' (⟨code, hne, rfl, rfl, ⟨h, -⟩ | ⟨-, h⟩⟩ | ⟨-, -, K, hys, hrm, rfl, rfl⟩)
  · exfalso; omega
  · exact absurd (h.one hget) hne
  have hrm : K.room = R := by omega
  rw [hrm]
  refine z_tas
  exact j_out1 rfl rfl Sub.au ⟨K, hys, hrm, rfl, rfl⟩
end Go.Proofs.Ytpmomimaihjmjaa
/- Layer 10, the plain law: which tiles are at hand. -/
namespace Go.Proofs.Ytpmomimaihjmjaa
abbrev tS (l : List Slt) (k : Nat) : Int := (l.getD k default).t
abbrev uS (l : List Slt) (k : Nat) : Int := (l.getD k default).u
/-- Slots, as they were used, the last one first. -/
structure Rel (room : Nat) (l : List Slt) (clock : Int) (ks : List Nat) : Prop where
  desc : ks.Pairwise fun a b => uS l b < uS l a
  lt : ∀ k ∈ ks, k < room ∧ 0 ≤ tS l k ∧ uS l k ≤ clock
  all : ∀ k, k < room → 0 ≤ tS l k → k ∈ ks
  dis : ∀ j k, j < room → k < room → 0 ≤ tS l j → tS l j = tS l k → j = k
theorem Rel.nodup {room : Nat} {l : List Slt} {clock : Int} {ks : List Nat} (h : Rel room l clock ks) : ks.Nodup := h.desc.imp fun h e => by subst e; omega
theorem pigeon : ∀ (n : Nat) (l : List Nat), l.Nodup → (∀ x ∈ l, x < n) → l.length ≤ n
  | 0, l, _, h => by
    cases l with
    | nil => exact Nat.le_refl _
    | cons x r => exact absurd (h x (List.mem_cons_self ..)) (by omega)
  | n + 1, l, hd, h => by
    have h1 := pigeon n (l.erase n) (hd.erase n) (fun x hx => by
      have h2 := h x (List.mem_of_mem_erase hx)
      have h3 : x ≠ n := fun e => by subst e; exact hd.not_mem_erase hx
      omega)
    have h4 : l.length ≤ (l.erase n).length + 1 := by
      rw [List.length_erase]; split <;> omega
    omega
theorem full_len {n : Nat} {l : List Nat} (h : ∀ x, x < n → x ∈ l) : n ≤ l.length := by
  have : ∀ (m : Nat) (l : List Nat), (∀ x, x < m → x ∈ l) → m ≤ l.length := by
    intro m
    induction m with
    | zero => intro l _; exact Nat.zero_le _
    | succ m ih =>
      intro l hl
      have hm := hl m (by omega)
      have h1 := ih (l.erase m) (fun x hx => (List.mem_erase_of_ne (by omega)).2 (hl x (by omega)))
      have h2 := List.length_erase_of_mem hm
      have h3 := List.length_pos_of_mem hm
      omega
  exact this n l h
theorem bestH_spec (l : List Slt) (last : Int) : ∀ i, ((∀ j, j < i → ¬ (0 ≤ tS l j ∧ uS l j < last)) ∧ bestH l last i = -1) ∨ ∃ b : Nat, bestH l last i = b ∧ b < i ∧ (0 ≤ tS l b ∧ uS l b < last) ∧ ∀ j, j < i → 0 ≤ tS l j ∧ uS l j < last → uS l j ≤ uS l b
  | 0 => .inl ⟨fun j hj => by omega, rfl⟩
  | i + 1 => by
    rw [bestH]
    rcases bestH_spec l last i with ⟨h1, h2⟩ | ⟨b, h1, h2, h3, h4⟩
    · rw [h2]
      split
      · rename_i h
        refine .inr ⟨i, rfl, by omega, ⟨h.1, h.2.1⟩, fun j hj hq => ?_⟩
        rcases Nat.lt_or_ge j i with h5 | h5
        · exact absurd hq (h1 j h5)
        · obtain rfl : j = i := by omega
          exact Int.le_refl _
      · rename_i h
        refine .inl ⟨fun j hj hq => ?_, rfl⟩
        rcases Nat.lt_or_ge j i with h5 | h5
        · exact h1 j h5 hq
        · obtain rfl : j = i := by omega
          exact h ⟨hq.1, hq.2, .inl (by omega)⟩
    · rw [h1, Int.toNat_natCast]
      split
      · rename_i h
        have hu : uS l b < uS l i := by
          rcases h.2.2 with h5 | h5
          · omega
          · exact h5
        refine .inr ⟨i, rfl, by omega, ⟨h.1, h.2.1⟩, fun j hj hq => ?_⟩
        rcases Nat.lt_or_ge j i with h5 | h5
        · have := h4 j h5 hq; omega
        · obtain rfl : j = i := by omega
          exact Int.le_refl _
      · rename_i h
        refine .inr ⟨b, rfl, by omega, h3, fun j hj hq => ?_⟩
        rcases Nat.lt_or_ge j i with h5 | h5
        · exact h4 j h5 hq
        · obtain rfl : j = i := by omega
          rcases Int.lt_or_le (uS l b) (uS l j) with h6 | h6
          · exact absurd ⟨hq.1, hq.2, .inr h6⟩ h
          · exact h6
theorem held_rel {room : Nat} {l : List Slt} {clock : Int} {ks : List Nat} (h : Rel room l clock ks) : ∀ (rest pre : List Nat) (last : Int) (m : Nat), ks = pre ++ rest → rest.length ≤ m → (∀ k ∈ pre, last ≤ uS l k) → (∀ k ∈ rest, uS l k < last) → heldN l room m last = rest.map (tS l)
  | [], pre, last, m, he, _, hp, _ => by
    cases m with
    | zero => rfl
    | succ m =>
      rcases bestH_spec l last room with ⟨-, h2⟩ | ⟨b, -, h2, h3, -⟩
      · rw [heldN, h2]; rfl
      · have hb := h.all b h2 h3.1
        rw [he, List.append_nil] at hb
        have := hp b hb
        omega
  | k :: r, pre, last, m, he, hm, hp, hr => by
    cases m with
    | zero => simp at hm
    | succ m =>
      have hk : k ∈ ks := by rw [he]; simp
      obtain ⟨hk1, hk2, -⟩ := h.lt k hk
      have hkl := hr k (List.mem_cons_self ..)
      have hd := h.desc
      rw [he] at hd
      have hd2 := List.pairwise_cons.1 (List.pairwise_append.1 hd).2.1
      rcases bestH_spec l last room with ⟨h1, -⟩ | ⟨b, h1, h2, h3, h4⟩
      · exact absurd ⟨hk2, hkl⟩ (h1 k hk1)
      · have hb := h.all b h2 h3.1
        have hub := h4 k hk1 ⟨hk2, hkl⟩
        obtain rfl : b = k := by
          rw [he] at hb
          rcases List.mem_append.1 hb with h5 | h5
          · have := hp b h5; omega
          · rcases List.mem_cons.1 h5 with h6 | h6
            · exact h6
            · have := hd2.1 b h6; omega
        rw [heldN, h1, if_neg (by omega), Int.toNat_natCast, List.map_cons]
        congr 1
        refine held_rel h r (pre ++ [b]) _ m (by rw [he]; simp) (by simp at hm; omega) (fun k hk => ?_) (fun k hk => hd2.1 k hk)
        rcases List.mem_append.1 hk with h5 | h5
        · have := hp k h5
          show uS l b ≤ uS l k
          omega
        · rw [List.mem_singleton.1 h5]; exact Int.le_refl _
theorem Rel.held {room : Nat} {l : List Slt} {clock : Int} {ks : List Nat} (h : Rel room l clock ks) : heldN l room room (clock + 1) = ks.map (tS l) :=
  held_rel h ks [] _ room rfl (pigeon room ks h.nodup fun x hx => (h.lt x hx).1) (fun k hk => (by cases hk)) (fun k hk => by have := (h.lt k hk).2.2; omega)
theorem useL_eq (L : List Int) (n : Int) : ∀ i, i ≤ L.length → useL L n i = n :: (L.take i).filter (fun x => decide (x ≠ n)) ∧ metB L n i = (L.take i).any fun x => decide (x = n)
  | 0, _ => by simp [useL, metB]
  | i + 1, hi => by
    obtain ⟨h1, h2⟩ := useL_eq L n i (by omega)
    have e : L.getD i 0 = L[i] := by simp [List.getD_eq_getElem?_getD, List.getElem?_eq_getElem (show i < L.length by omega)]
    rw [useL, metB, h1, h2, e, List.take_succ_eq_append_getElem (by omega), List.filter_append, List.any_append]
    constructor
    · split <;> rename_i h <;> simp [h]
    · simp
theorem useL_all (L : List Int) (n : Int) : useL L n L.length = n :: L.filter (fun x => decide (x ≠ n)) ∧ metB L n L.length = L.any fun x => decide (x = n) := by
  have := useL_eq L n L.length (Nat.le_refl _)
  rwa [List.take_length] at this
theorem oldTo_min (l : List Slt) : ∀ i, ∀ j, j < i → uS l (oldTo l i) ≤ uS l j
  | 0, j, h => by omega
  | i + 1, j, h => by
    rw [oldTo]
    rcases Nat.lt_or_ge j i with h1 | h1
    · have := oldTo_min l i j h1
      split
      · rename_i h2; have h3 : uS l i < uS l (oldTo l i) := h2; omega
      · exact this
    · obtain rfl : j = i := by omega
      split
      · exact Int.le_refl _
      · rename_i h2; exact Int.not_lt.1 h2
theorem set_other {l : List Slt} {k j : Nat} {s : Slt} (h : j ≠ k) : (l.set k s).getD j default = l.getD j default := by rw [List.getD_eq_getElem?_getD, List.getElem?_set_ne (fun e => h e.symm), List.getD_eq_getElem?_getD]
theorem Rel.zero {room : Nat} (hr : room ≤ 32) : Rel room (newTo room) 0 [] :=
  ⟨.nil, fun k hk => (by cases hk), fun k hk h => (by rw [show tS (newTo room) k = -1 from newTo_neg room hr k hk] at h; omega), fun j k hj _ h => by rw [show tS (newTo room) j = -1 from newTo_neg room hr j hj] at h; omega⟩
theorem Rel.next {ys : List Int} {room n k : Nat} {l l' : List Slt} {clock met miss met' miss' : Int} {ks : List Nat} (h : Rel room l clock ks) (hl : room ≤ l.length) (hk : k < room) (hg : GetsC ys l room clock met miss n k l' met' miss') :
    ∃ ks', Rel room l' (clock + 1) ks' ∧ ks'.map (tS l') = (useL (ks.map (tS l)) n (ks.map (tS l)).length).take room ∧ met' = (if metB (ks.map (tS l)) n (ks.map (tS l)).length then met + 1 else met) ∧ miss' = (if metB (ks.map (tS l)) n (ks.map (tS l)).length then miss else miss + 1) := by
  rw [(useL_all ..).1, (useL_all ..).2]
  have hks := pigeon room ks h.nodup fun x hx => (h.lt x hx).1
  -- slot k was used now, holds n; the others are as they were
  have key : ∀ (s : Slt) (ks1 : List Nat), l' = l.set k s → s.t = n → s.u = clock + 1 → (∀ j ∈ ks1, j ≠ k ∧ j ∈ ks) → ks1.Pairwise (fun a b => uS l b < uS l a) → (∀ j, j < room → j ≠ k → 0 ≤ tS l j → j ∈ ks1 ∧ tS l j ≠ n) → Rel room l' (clock + 1) (k :: ks1) ∧ (k :: ks1).map (tS l') = (n : Int) :: ks1.map (tS l) := by
    intro s ks1 e et eu h1 h2 h3
    have a1 : tS l' k = n := by show (l'.getD k default).t = n; rw [e, getD_set_self (by omega), et]
    have a2 : uS l' k = clock + 1 := by show (l'.getD k default).u = clock + 1; rw [e, getD_set_self (by omega), eu]
    have a3 : ∀ j, j ≠ k → l'.getD j default = l.getD j default := fun j hj => by rw [e]; exact set_other hj
    have a4 : ∀ j, j ≠ k → tS l' j = tS l j := fun j hj => congrArg Slt.t (a3 j hj)
    have a5 : ∀ j, j ≠ k → uS l' j = uS l j := fun j hj => congrArg Slt.u (a3 j hj)
    refine ⟨⟨List.pairwise_cons.2 ⟨fun j hj => ?_, ?_⟩, fun j hj => ?_, fun j hj ht => ?_, fun i j hi hj ht he => ?_⟩, ?_⟩
    · rw [a2, a5 j (h1 j hj).1]; have := (h.lt j (h1 j hj).2).2.2; omega
    · refine h2.imp_of_mem fun {a b} ha hb hab => ?_
      rw [a5 a (h1 a ha).1, a5 b (h1 b hb).1]; exact hab
    · rcases List.mem_cons.1 hj with rfl | hj
      · exact ⟨hk, by rw [a1]; omega, by rw [a2]; exact Int.le_refl _⟩
      · obtain ⟨b1, b2⟩ := h1 j hj
        obtain ⟨c1, c2, c3⟩ := h.lt j b2
        exact ⟨c1, by rw [a4 j b1]; exact c2, by rw [a5 j b1]; omega⟩
    · by_cases hjk : j = k
      · rw [hjk]; exact List.mem_cons_self ..
      · rw [a4 j hjk] at ht
        exact List.mem_cons_of_mem _ (h3 j hj hjk ht).1
    · by_cases hik : i = k <;> by_cases hjk : j = k
      · omega
      · subst hik
        rw [a1, a4 j hjk] at he
        exact absurd he.symm (h3 j hj hjk (by omega)).2
      · subst hjk
        rw [a1, a4 i hik] at he
        rw [a4 i hik] at ht
        exact absurd he (h3 i hi hik ht).2
      · rw [a4 i hik, a4 j hjk] at he
        rw [a4 i hik] at ht
        exact h.dis i j hi hj ht he
    · rw [List.map_cons, a1]
      congr 1
      exact List.map_congr_left fun j hj => a4 j (h1 j hj).1
  rcases hg with ⟨h1, -, h3, h4, h5⟩ | ⟨h0, hold, ⟨zs, -, h2⟩, h4, h5⟩
  · have hkm : k ∈ ks := h.all k hk (by show 0 ≤ (l.getD k default).t; omega)
    obtain ⟨r1, r2⟩ := key _ (ks.filter fun j => decide (j ≠ k)) h3 h1 rfl (fun j hj => by have := List.mem_filter.1 hj; exact ⟨by simpa using this.2, this.1⟩) (h.desc.filter _) (fun j hj hjk ht => ⟨List.mem_filter.2 ⟨h.all j hj ht, by simpa using hjk⟩, fun e => hjk (h.dis j k hj hk ht (e.trans h1.symm))⟩)
    have hany : ((ks.map (tS l)).any fun x => decide (x = (n : Int))) = true := List.any_eq_true.2 ⟨tS l k, List.mem_map_of_mem hkm, decide_eq_true h1⟩
    rw [hany, if_pos rfl, if_pos rfl]
    refine ⟨_, r1, ?_, h4, h5⟩
    have hlen : (k :: ks.filter fun j => decide (j ≠ k)).length ≤ room := pigeon room _ r1.nodup fun x hx => (r1.lt x hx).1
    have e2 : (ks.map (tS l)).filter (fun x => decide (x ≠ (n : Int))) = (ks.filter fun j => decide (j ≠ k)).map (tS l) := by
      rw [List.filter_map]
      congr 1
      refine List.filter_congr fun j hj => ?_
      have hj' := h.lt j hj
      simp only [Function.comp_apply, decide_eq_decide]
      exact not_congr ⟨fun e => h.dis j k hj'.1 hk hj'.2.1 (e.trans h1.symm), fun e => by rw [e]; exact h1⟩
    rw [r2, e2, List.take_of_length_le]
    simpa using hlen
  · have hnot : ∀ j ∈ ks, tS l j ≠ n := fun j hj => h0 j (h.lt j hj).1
    have hany : ((ks.map (tS l)).any fun x => decide (x = (n : Int))) = false := by
      rw [List.any_eq_false]
      intro x hx
      obtain ⟨j, hj, rfl⟩ := List.mem_map.1 hx
      simpa using hnot j hj
    have hfil : (ks.map (tS l)).filter (fun x => decide (x ≠ (n : Int))) = ks.map (tS l) := List.filter_eq_self.2 fun x hx => by
      obtain ⟨j, hj, rfl⟩ := List.mem_map.1 hx
      simpa using hnot j hj
    rw [hany, hfil, if_neg (by simp), if_neg (by simp)]
    rcases hold with ⟨hneg, -⟩ | ⟨hfull, rfl⟩
    · have hkn : k ∉ ks := fun hm => by have : 0 ≤ (l.getD k default).t := (h.lt k hm).2.1; omega
      obtain ⟨r1, r2⟩ := key _ ks h2 rfl rfl (fun j hj => ⟨fun e => hkn (e ▸ hj), hj⟩) h.desc (fun j hj hjk ht => ⟨h.all j hj ht, h0 j hj⟩)
      refine ⟨_, r1, ?_, h4, h5⟩
      have hlen : (k :: ks).length ≤ room := pigeon room _ r1.nodup fun x hx => (r1.lt x hx).1
      rw [r2, List.take_of_length_le]
      simpa using hlen
    · have hmin := oldTo_min l room
      have hkm : oldTo l room ∈ ks := h.all _ hk (hfull _ hk)
      have hrl := full_len (n := room) (l := ks) (fun x hx => h.all x hx (hfull x hx))
      generalize oldTo l room = k at *
      obtain ⟨r1, r2⟩ := key _ (ks.filter fun j => decide (j ≠ k)) h2 rfl rfl (fun j hj => by have := List.mem_filter.1 hj; exact ⟨by simpa using this.2, this.1⟩) (h.desc.filter _) (fun j hj hjk ht => ⟨List.mem_filter.2 ⟨h.all j hj ht, by simpa using hjk⟩, h0 j hj⟩)
      refine ⟨_, r1, ?_, h4, h5⟩
      rw [r2]
      have hne : ks ≠ [] := List.ne_nil_of_mem hkm
      have hdl := List.dropLast_concat_getLast hne
      have hd := h.desc
      rw [← hdl] at hd
      have hda := List.pairwise_append.1 hd
      have hlast : ks.getLast hne = k := by
        rw [← hdl] at hkm
        rcases List.mem_append.1 hkm with h6 | h6
        · have h7 := hda.2.2 k h6 (ks.getLast hne) (List.mem_singleton.2 rfl)
          have h8 := hmin (ks.getLast hne) (h.lt _ (List.getLast_mem hne)).1
          omega
        · exact (List.mem_singleton.1 h6).symm
      have hfl : (ks.filter fun j => decide (j ≠ k)) = ks.dropLast := by
        conv => lhs; rw [← hdl]
        rw [List.filter_append, hlast]
        have e1 : (ks.dropLast.filter fun j => decide (j ≠ k)) = ks.dropLast := List.filter_eq_self.2 fun j hj => by
          have h7 := hda.2.2 j hj k (by rw [hlast]; exact List.mem_singleton.2 rfl)
          have : j ≠ k := fun e => by subst e; omega
          simpa using this
        rw [e1]
        simp
      rw [hfl, List.dropLast_eq_take, show ks.length - 1 = room - 1 by omega]
      have hr1 : room = (room - 1) + 1 := by omega
      conv => rhs; rw [hr1]
      rw [List.take_succ_cons, List.map_take]
end Go.Proofs.Ytpmomimaihjmjaa
/- Layer 10: what the statements' own check reckons. -/
namespace Go.Proofs.Ytpmomimaihjmjaa
open Go.RowKit
/-- What Height does to what is at hand. -/
theorem HgtS.rel {ys f : List Int} {room : Nat} {s s' : CaV} {x y b : Int} {ks : List Nat} (hg : HgtS ys room s x y s') (hF : CaF ys f room) (h : CaOk ys f room s b) (hR : Rel room s.l s.clock ks) (ho : ¬ (x < 0 ∨ y < 0 ∨ (wY ys : Int) ≤ x ∨ (hY ys : Int) ≤ y)) :
    ∃ ks', Rel room s'.l s'.clock ks' ∧ ks'.map (tS s'.l) = (useL (ks.map (tS s.l)) (y.toNat / 16 * cntF (wY ys) + x.toNat / 16 : Nat) (ks.map (tS s.l)).length).take room ∧ s'.met = (if metB (ks.map (tS s.l)) (y.toNat / 16 * cntF (wY ys) + x.toNat / 16 : Nat) (ks.map (tS s.l)).length then s.met + 1 else s.met) ∧ s'.miss = (if metB (ks.map (tS s.l)) (y.toNat / 16 * cntF (wY ys) + x.toNat / 16 : Nat) (ks.map (tS s.l)).length then s.miss else s.miss + 1) := by
  rcases hg with ⟨h1, -⟩ | ⟨-, k, hk, h1, h2⟩
  · exact absurd h1 ho
  · rw [h2]
    exact hR.next (by have := h.len; have := hF.room; omega) hk h1
def zf10 : List Int := fieldF [5, 6, -32768] 160
theorem zf10_len : zf10.length = 160 := by decide +kernel
theorem zf10_in : In16 zf10 := in16_of (fun x hx => by
  have h : ∀ y ∈ zf10, -32768 ≤ y ∧ y ≤ 32767 := by decide +kernel
  exact h x hx)
theorem works10_plain {ys : List Int} {room : Nat} (hr : room = 4) (hw : wY ys = 32) (hh : hY ys = 5) (hF : CaF ys zf10 room) {s1 s2 s3 s4 : CaV} (h1 : HgtS ys room (newV 4) 1 0 s1) (h2 : HgtS ys room s1 2 0 s2) (h3 : HgtS ys room s2 32 0 s3) (h4 : HgtS ys room s3 20 0 s4) : s4.met = 1 ∧ s4.miss = 2 ∧ heldN s4.l room room (s4.clock + 1) = [1, 0] := by
  subst hr
  have k0 : CaOk ys zf10 4 (newV 4) 0 := newV_ok (by omega)
  obtain ⟨ks1, r1, e1, m1, i1⟩ := h1.rel hF k0 (Rel.zero (by omega)) (by rw [hw, hh]; decide)
  have k1 := h1.ok hF k0
  obtain ⟨ks2, r2, e2, m2, i2⟩ := h2.rel hF k1 r1 (by rw [hw, hh]; decide)
  have k2 := h2.ok hF k1
  obtain rfl : s3 = s2 := by
    rcases h3 with ⟨-, h⟩ | ⟨h, -⟩
    · exact h
    · rw [hw, hh] at h; exact absurd (by decide) h
  obtain ⟨ks4, r4, e4, m4, i4⟩ := h4.rel hF k2 r2 (by rw [hw, hh]; decide)
  rw [hw] at e1 m1 i1 e2 m2 i2 e4 m4 i4
  rw [e1] at e2 m2 i2
  rw [e2] at e4 m4 i4
  rw [r4.held, e4, m4, i4, m2, i2, m1, i1]
  exact ⟨by decide, by decide, by decide⟩
attribute [local irreducible] OJ J HdJ Code.wpIn wpListIn Oper.wpIn bodyPost CallsIn Does
set_option maxRecDepth 4000
set_option maxHeartbeats 64000000 in
theorem works_any10 (w : World) : Does Try.prog 14 [] [] w (fun v S' => v = .bool true ∧ S' = []) := by
  refine does_of Try.func14 rfl Try.ntmps14 rfl ⟨by simp, .nil⟩ (fun n => ?_)
  simp only [slots]
  have hzl := zf10_len
  have hzi := zf10_in
  refine z_tas
  rename_i b18
  refine lf rfl rfl rfl (S := []) (fun w hw ho => made_any 30 3 (by decide) (by decide) 32 5 (by decide) (by decide) (some ⟨b18, 0, none⟩) 3 [5, 6, -32768] 30 (by decide) 0 0 w ⟨Ro.row hw (Split.nil _) (.here _ _)⟩ (by decide)) ?_
  rintro v S' ⟨Af, cf, rfl, rfl⟩
  have ez : fieldF [5, 6, -32768] (32 * 5) = zf10 := rfl
  rw [ez]
  have z20 : (heightF 32 5 zf10 20 0).1 = zf10.getD 20 0 ∧ (heightF 32 5 zf10 20 0).2 = 0 := by decide +kernel
  have z1 : (heightF 32 5 zf10 1 0).1 = 6 ∧ (heightF 32 5 zf10 1 0).2 = 0 := by decide +kernel
  have z2 : (heightF 32 5 zf10 2 0).1 = 0 ∧ (heightF 32 5 zf10 2 0).2 = 8 := by decide +kernel
  have z3 : (heightF 32 5 zf10 32 0).1 = 0 ∧ (heightF 32 5 zf10 32 0).2 = 9 := by decide +kernel
  refine z_tas
  refine lf rfl rfl rfl (S := []) (fun w hw ho => open10 32 5 31 Af cf zf10 0 0 4 w ⟨Ro.row hw (Split.nil _) (by refine z_hs)⟩ (by omega) (by rw [hzl]) hzi (by decide) (by decide) (by omega)) ?_
  rintro v S' ⟨K, hys, hrm, rfl, rfl⟩
  have hF : CaF K.ys zf10 K.room := by rw [hys, hrm]; exact caF_of (by omega) (by rw [hzl]) hzi (by omega)
  have hh : wY K.ys = 32 ∧ hY K.ys = 5 := by rw [hys]; decide +kernel
  have k0 : CaOk K.ys zf10 K.room (newV 4) 0 := by rw [hrm]; exact newV_ok (by omega)
  have hpl := fun s1 s2 s3 s4 => works10_plain (s1 := s1) (s2 := s2) (s3 := s3) (s4 := s4) hrm hh.1 hh.2 hF
  generalize hzz : zf10 = f at *
  rw [← hh.1, ← hh.2] at z1 z2 z3 z20
  refine z_tas
  refine lf rfl rfl rfl (S := K.H (newV 4)) (fun w hw ho => height_c K (newV 4) f 1 0 0 w ho hF k0 (by omega)) ?_
  rintro v S' ⟨s1, rfl, g1, rfl⟩
  have k1 := g1.ok hF k0
  rw [z1.1, z1.2]
  refine z_tas
  refine lf rfl rfl rfl (S := K.H s1) (fun w hw ho => height_c K s1 f 2 0 (0 + 1) w ho hF k1 (by omega)) ?_
  rintro v S' ⟨s2, rfl, g2, rfl⟩
  have k2 := g2.ok hF k1
  rw [z2.1, z2.2]
  refine z_tas
  refine lf rfl rfl rfl (S := K.H s2) (fun w hw ho => height_c K s2 f 32 0 (0 + 1 + 1) w ho hF k2 (by omega)) ?_
  rintro v S' ⟨s3, rfl, g3, rfl⟩
  have k3 := g3.ok hF k2
  rw [z3.1, z3.2]
  refine z_tas
  refine lf rfl rfl rfl (S := K.H s3) (fun w hw ho => height_c K s3 f 20 0 (0 + 1 + 1 + 1) w ho hF k3 (by omega)) ?_
  rintro v S' ⟨s4, rfl, g4, rfl⟩
  have k4 := g4.ok hF k3
  obtain ⟨p1, p2, p3⟩ := hpl s1 s2 s3 s4 g1 g2 g3 g4
  rw [z20.1, z20.2]
  refine z_tas
  refine lk rfl rfl rfl (S := [.blk K.g 132 (cacheE (preC K.ys K.A K.c K.A1 K.c1 K.A2 K.c2) s4.l K.room s4.clock s4.met s4.miss)]) (fun w hw ho => met_any K.g (preC K.ys K.A K.c K.A1 K.c1 K.A2 K.c2) s4.l K.room s4.clock s4.met s4.miss w ho rfl k4.slts k4.len) ?_
  refine z_tas
  refine lf rfl rfl rfl (S := [.blk K.g 132 (cacheE (preC K.ys K.A K.c K.A1 K.c1 K.A2 K.c2) s4.l K.room s4.clock s4.met s4.miss)]) (fun w hw ho => held_any K.g (preC K.ys K.A K.c K.A1 K.c1 K.A2 K.c2) s4.l K.room s4.clock s4.met s4.miss w ho rfl k4.slts k4.len (by omega) (by have := k4.clock; omega)) ?_
  rintro v S' ⟨Ah, ch, rfl, rfl⟩
  rw [p1, p2, p3]
  obtain ⟨L, hL, hL0, hL2⟩ : ∃ L : List Int, [1, 0] = L ∧ L.getD (Int.toNat 0) 0 = 1 ∧ L.length = 2 := ⟨_, rfl, by decide, rfl⟩
  rw [hL]
  refine z_tas
  refine lf rfl rfl rfl (S := []) (fun w hw ho => new_c none 0 [] 4 w ⟨Ro.nil _ _ _⟩ (fun x hx => by cases hx) (by decide) (by decide)) ?_
  rintro v S' (⟨code, hne, rfl, rfl, ⟨h, -⟩ | ⟨-, h⟩⟩ | ⟨-, h, -⟩)
  · exfalso; omega
  case inr =>
    exfalso
    rcases h with ⟨h, -⟩ | ⟨h, -⟩ | ⟨h, -⟩
    · exact h rfl
    · exact absurd h (by decide)
    · exact absurd h (by decide)
  obtain rfl : code = 5 := by
    rcases h with ⟨-, h⟩ | ⟨h, -⟩ | ⟨h, -⟩
    · exact h.symm
    · exact absurd h (by decide)
    · exact absurd h (by decide)
  refine z_tas
  refine lf rfl rfl rfl (S := []) (fun w hw ho => new_c none 0 [] 3 w ⟨Ro.nil _ _ _⟩ (fun x hx => by cases hx) (by decide) (by decide)) ?_
  rintro v S' (⟨code, hne, rfl, rfl, ⟨-, rfl⟩ | ⟨h, -⟩⟩ | ⟨h, -⟩)
  rotate_left
  · exact absurd (.inl (by decide)) h
  · exact absurd (.inl (by decide)) h
  refine z_tas
  refine lk rfl rfl rfl (S := K.H ⟨s4.l, s4.clock, 1, 2⟩) (fun w hw ho => chart_c K ⟨s4.l, s4.clock, 1, 2⟩ w ho) ?_
  rw [hh.1]
  refine z_tas
  exact j_out1 rfl rfl (.nil _) ⟨rfl, rfl⟩
end Go.Proofs.Ytpmomimaihjmjaa
/- The way from a contract of a law's function to the given statement: what the arguments are, and what is left of them. -/
namespace Go.Proofs.Ytpmomimaihjmjaa
open Go.ChangeShapes Go.WideShapes Go.ChangeAt Go.RowKit Go.Deep Go.Joins

theorem below_of {P : Program} {f : FuncId} {args : List Value} {w : World} {v0 : Value} (h : Does P f args [] w (fun v _ => v = v0)) : Calls P f args.toArray w fun e w' => e = .returned v0 ∧ Below w.heap.size w w' := by
  refine h.calls.mono ?_
  rintro e w' ⟨v, S', rfl, rfl, hst⟩
  exact ⟨rfl, hst.os, hst.tape, hst.output, hst.size, fun k hk => hst.old k hk (by rintro ⟨x, hx, _⟩; cases hx)⟩

section
variable {H : Type} {enc : TypeId × Value → H} {P : Program} {w : World} {base : Nat} {spare : Nat → Bool} {held : Bool}
theorem post_below {f : Func} {s : ChangeSpec} {apart fresh handsOn again : Bool} {W W' : World} {args : Array Value} {v : Value} {ds gs : List (DataW H)} {before pa pv : List MemPlace}
    (hW : DataW.Whole enc P f.params.toList s.vars apart W args.toList ds gs before)
    (hres : ∀ (b : Nat) (sp : Nat → Bool) (hd : Bool), DataW.TrodAll enc P W' b sp hd f.resultTypes.toList (v.resultList f.resultTypes.size) (s.fn H (ds ++ gs)).results [])
    (hargs : ∀ sp : Nat → Bool, (∀ p ∈ before, sp p.block = true) → DataW.TrodAll enc P W' 0 sp true f.params.toList args.toList (s.fn H (ds ++ gs)).args pa)
    (hvars : ∀ sp : Nat → Bool, (∀ p ∈ before, sp p.block = true) → DataW.TrodVars enc P W' sp s.vars (s.fn H (ds ++ gs)).vars pv)
    (hps : before = pa ++ pv) (hb : Below W.heap.size W W')
    (hok : ∀ (j : Nat) (t : TypeId) (r : Value), f.resultTypes[j]? = some t → (v.resultList f.resultTypes.size)[j]? = some r → Value.okWide P W' .any 0 t r) :
    s.post enc P f apart fresh handsOn again W args v W' := by
  have hlt : ∀ p ∈ before, p.block < W.heap.size := fun p hp => hW.lt p hp
  have hold : ∀ p ∈ before, (fun b => decide (b < W.heap.size)) p.block = true := fun p hp => by simpa using hlt p hp
  refine ⟨ds, gs, before, [], pa, pv, hW, hres _ _ _, hargs _ hold, hvars _ hold, World.keptBut_mono (fun p hp => ⟨hp, ?_⟩) (hb.frame (· ∈ before)), fun _ => ?_⟩
  · rw [hps, List.mem_append] at hp
    exact Or.inr hp
  · obtain ⟨_, _, _, _, _, hz, hn⟩ := hW
    refine ⟨hok, _, _, ([] ++ pa) ++ pv, ⟨[] ++ pa, pv, trodAll_append (hargs _ (fun _ _ => rfl)) (hres _ _ _), hvars _ (fun _ _ => rfl), rfl, ?_, ?_⟩, ?_⟩
    · intro b off hp
      have hin : MemPlace.cell b off ∈ before := by rw [hps]; simpa using hp
      rw [hb.frozen (hlt _ hin)]
      exact hz b off hin
    · intro ha
      have := hn ha
      rw [hps] at this
      simpa using this
    · intro p hp _
      rw [hps]
      simpa using hp
theorem trodAll_stays (hl : laidOutB P = true) {W W' : World} {sp' : Nat → Bool} : ∀ (ts : List TypeId) (vs : List Value) (ds : List (DataW H)) (ps : List MemPlace), (∀ t ∈ ts, P.readableRec t = true ∧ t < P.types.size) →
    DataW.TrodAll enc P W base (fun _ => true) true ts vs ds ps → (∀ p ∈ ps, W.sameAt W' p) → (∀ p ∈ ps, sp' p.block = true) → DataW.TrodAll enc P W' base sp' true ts vs ds ps
  | [], [], [], ps, _, h, _, _ => h
  | t :: ts, v :: vs, d :: ds, ps, hr, h, hs, hsp => by
    obtain ⟨p, q, h1, h2, rfl⟩ := h
    have ht := hr t (by simp)
    exact ⟨p, q, Go.WideElems.Trod_stays hl ht.1 ht.2 h1 (fun x hx => hs x (by simp [hx])) (fun x hx => hsp x (by simp [hx])), trodAll_stays hl ts vs ds q (fun t ht => hr t (by simp [ht])) h2 (fun x hx => hs x (by simp [hx])) (fun x hx => hsp x (by simp [hx])), rfl⟩
  | [], _ :: _, _, _, _, h, _, _ => h.elim
  | [], [], _ :: _, _, _, h, _, _ => h.elim
  | _ :: _, [], _, _, _, h, _, _ => h.elim
  | _ :: _, _ :: _, [], _, _, h, _, _ => h.elim
theorem trodAll_len : ∀ (ts : List TypeId) (vs : List Value) (ds : List (DataW H)) (ps : List MemPlace), DataW.TrodAll enc P w base spare held ts vs ds ps → ds.length = ts.length
  | [], [], [], _, _ => rfl
  | t :: ts, v :: vs, d :: ds, ps, h => by
    obtain ⟨p, q, h1, h2, rfl⟩ := h
    rw [List.length_cons, List.length_cons, trodAll_len ts vs ds q h2]
  | [], _ :: _, _, _, h => h.elim
  | [], [], _ :: _, _, h => h.elim
  | _ :: _, [], _, _, h => h.elim
  | _ :: _, _ :: _, [], _, h => h.elim
/-- A law that returned true, and left all below as it was. -/
theorem gate_post {f : Func} {s : ChangeSpec} {W W' : World} {args : Array Value} {ds gs : List (DataW H)} {before : List MemPlace} {tb : TypeId} (hl : laidOutB P = true) (hub : P.underlying tb = some .bool)
    (hW : DataW.Whole enc P f.params.toList s.vars false W args.toList ds gs before) (hvars : s.vars = []) (hrt : f.resultTypes = #[tb])
    (hsp : ∀ es : List (DataW H), es.length = f.params.size → s.fn H es = { results := [.lit (.bool true)], args := es })
    (hread : ∀ t ∈ f.params.toList, P.readableRec t = true ∧ t < P.types.size) (hb : Below W.heap.size W W') : s.post enc P f false true false false W args (.bool true) W' := by
  have hW' := hW
  obtain ⟨p, q, hA, hV, hbe, hfz, hnd⟩ := hW
  rw [hvars] at hV
  obtain ⟨rfl, rfl⟩ := trodVars_none hV
  have hlen := trodAll_len _ _ _ _ hA
  have hfn := hsp ds (by rw [hlen]; simp)
  have hlt : ∀ x ∈ p, x.block < W.heap.size := fun x hx => hW'.lt x (by rw [hbe]; simp [hx])
  refine post_below (pa := p) (pv := []) hW' (fun _ _ _ => ?_) (fun sp hs => ?_) (fun _ _ => ?_) (by simpa using hbe) hb ?_
  · rw [List.append_nil, hfn, hrt]
    exact trodAll_mk1 (shut_bool hub true)
  · rw [List.append_nil, hfn]
    exact trodAll_stays hl _ _ _ _ hread hA (fun x hx => hb.same (hlt x hx)) (fun x hx => hs x (by rw [hbe]; simp [hx]))
  · rw [List.append_nil, hfn, hvars]
    rfl
  · exact ok_one hrt rfl (okWide_bool_mk hub true)

theorem wf_in {k : IntKind} {n : Int} (h : (Lit.int k n).wf = true) : InR k n := by
  cases k <;> simp [Lit.wf, IntKind.min, IntKind.max, IntKind.signed, IntKind.bits] at h <;> simp only [InR] <;> omega
theorem gate_int {r : Reach} {b0 : Nat} {t : TypeId} {k : IntKind} {v : Value} {d : DataW H} {ps : List MemPlace} (ht : P.underlying t = some (.int k)) (hval : Value.okWide P w r b0 t v) (hd : DataW.Trod enc P w base spare held t v d ps) : ∃ n, v = .int k n ∧ InR k n := by
  obtain ⟨n, h1, -, -, h4⟩ := open_int ht hval hd
  exact ⟨n, h1, wf_in h4⟩
theorem gate_bool {r : Reach} {b0 : Nat} {t : TypeId} {v : Value} {d : DataW H} {ps : List MemPlace} (ht : P.underlying t = some .bool) (hval : Value.okWide P w r b0 t v) (hd : DataW.Trod enc P w base spare held t v d ps) : ∃ b, v = .bool b := by
  obtain ⟨n, h1, -, -⟩ := open_bool ht hval hd
  exact ⟨n, h1⟩
theorem gate_ints {r : Reach} {b0 : Nat} {t e : TypeId} {k : IntKind} {v : Value} {d : DataW H} {ps : List MemPlace} (ht : P.underlying t = some (.slice e)) (he : P.underlying e = some (.int k)) (hC : P.cellsOf e = 1) (hv : Value.okWide P w r b0 t v) (h : DataW.Trod enc P w 0 (fun _ => true) true t v d ps) :
    ∃ (A : Option Addr) (c : Nat) (xs : List Int), v = .slice A xs.length c ∧ RoA w (blocks []) A xs.length c 1 (ints k xs) ∧ ∀ x ∈ xs, InR k x := by
  obtain ⟨a0, len, cap, rfl⟩ := okWide_slice ht hv
  obtain ⟨fuel, hf⟩ := h
  have hf' : DataW.trod enc P w 0 (fun _ => true) true fuel t [.slice a0 len cap] = some (d, ps) := by simpa [Value.cells] using hf
  rcases open_ints ht he hC hf' with ⟨hcs, -⟩ | ⟨a, len', cap', zs, hcs, -, hl, hm, hmm, -, hcell, hwf⟩
  · simp at hcs
    obtain ⟨rfl, rfl, rfl⟩ := hcs
    exact ⟨none, 0, [], rfl, ⟨Ro.nil _ _ _⟩, by simp⟩
  · simp at hcs hmm
    obtain ⟨rfl, rfl, rfl⟩ := hcs
    have hlen : (zs.take len).length = len := by rw [List.length_take]; omega
    refine ⟨some a, cap, zs.take len, by rw [hlen], ⟨some a, cap, rfl, by omega, hm, by simp, fun hpos => ?_⟩, fun x hx => wf_in (hwf x (List.mem_of_mem_take hx))⟩
    rw [hlen] at hpos
    have hc0 := hcell 0 (by omega)
    obtain ⟨b, off, spot⟩ := a
    have hspot : spot = none := by simpa [Addr.add] using World.cell?_spot hc0
    subst hspot
    have hblt : b < w.heap.size := by
      rcases Nat.lt_or_ge b w.heap.size with hlt | hge
      · exact hlt
      · rw [add_none] at hc0; simp [World.cell?, Array.getElem?_eq_none hge] at hc0
    refine ⟨b, off, rfl, hblt, (by rintro ⟨x, hx, _⟩; cases hx), fun j u hu => ?_⟩
    have hj : j < len := by
      have := (List.getElem?_eq_some_iff.1 hu).1
      simpa [hlen] using this
    have := hcell j (by omega)
    rw [add_none] at this
    rw [this]
    simp only [ints, List.getElem?_map, List.getElem?_take, if_pos hj] at hu
    rw [List.getElem?_eq_getElem (by omega)] at hu
    simp at hu
    rw [← hu, List.getD_eq_getElem?_getD, List.getElem?_eq_getElem (by omega)]
    rfl
end
theorem own : ownKnob Try.prog.godebug = none := by kernel_rfl
theorem laidOut : laidOutB Try.prog = true := by kernel_rfl
end Go.Proofs.Ytpmomimaihjmjaa
/- The way from a contract to the given statement: arguments that are structs, and rows of structs; up to eight arguments. -/
namespace Go.Proofs.Ytpmomimaihjmjaa
open Go.ChangeShapes Go.WideShapes Go.ChangeAt Go.RowKit Go.Deep Go.Joins
section
variable {H : Type} {enc : TypeId × Value → H} {P : Program} {w : World} {base : Nat} {spare : Nat → Bool} {held : Bool}
theorem trodAll_five {t0 t1 t2 t3 t4 : TypeId} {args : Array Value} {ds : List (DataW H)} {ps : List MemPlace} (h : DataW.TrodAll enc P w base spare held [t0, t1, t2, t3, t4] args.toList ds ps) :
    ∃ v0 v1 v2 v3 v4 d0 d1 d2 d3 d4 p0 p1 p2 p3 p4, args = #[v0, v1, v2, v3, v4] ∧ ds = [d0, d1, d2, d3, d4] ∧ ps = p0 ++ p1 ++ p2 ++ p3 ++ p4 ∧ DataW.Trod enc P w base spare held t0 v0 d0 p0 ∧ DataW.Trod enc P w base spare held t1 v1 d1 p1 ∧ DataW.Trod enc P w base spare held t2 v2 d2 p2 ∧ DataW.Trod enc P w base spare held t3 v3 d3 p3 ∧ DataW.Trod enc P w base spare held t4 v4 d4 p4 := by
  obtain ⟨v0, vs0, d0, ds0, p0, q0, hargs, rfl, rfl, k0, h0⟩ := trodAll_cons h
  obtain ⟨v1, vs1, d1, ds1, p1, q1, rfl, rfl, rfl, k1, h1⟩ := trodAll_cons h0
  obtain ⟨v2, vs2, d2, ds2, p2, q2, rfl, rfl, rfl, k2, h2⟩ := trodAll_cons h1
  obtain ⟨v3, vs3, d3, ds3, p3, q3, rfl, rfl, rfl, k3, h3⟩ := trodAll_cons h2
  obtain ⟨v4, vs4, d4, ds4, p4, q4, rfl, rfl, rfl, k4, h4⟩ := trodAll_cons h3
  obtain ⟨rfl, rfl, rfl⟩ := trodAll_nil h4
  exact ⟨v0, v1, v2, v3, v4, d0, d1, d2, d3, d4, p0, p1, p2, p3, p4, by cases args; simp_all, rfl, by simp, k0, k1, k2, k3, k4⟩
theorem trodAll_six {t0 t1 t2 t3 t4 t5 : TypeId} {args : Array Value} {ds : List (DataW H)} {ps : List MemPlace} (h : DataW.TrodAll enc P w base spare held [t0, t1, t2, t3, t4, t5] args.toList ds ps) :
    ∃ v0 v1 v2 v3 v4 v5 d0 d1 d2 d3 d4 d5 p0 p1 p2 p3 p4 p5, args = #[v0, v1, v2, v3, v4, v5] ∧ ds = [d0, d1, d2, d3, d4, d5] ∧ ps = p0 ++ p1 ++ p2 ++ p3 ++ p4 ++ p5 ∧ DataW.Trod enc P w base spare held t0 v0 d0 p0 ∧ DataW.Trod enc P w base spare held t1 v1 d1 p1 ∧ DataW.Trod enc P w base spare held t2 v2 d2 p2 ∧ DataW.Trod enc P w base spare held t3 v3 d3 p3 ∧ DataW.Trod enc P w base spare held t4 v4 d4 p4 ∧ DataW.Trod enc P w base spare held t5 v5 d5 p5 := by
  obtain ⟨v0, vs0, d0, ds0, p0, q0, hargs, rfl, rfl, k0, h0⟩ := trodAll_cons h
  obtain ⟨v1, vs1, d1, ds1, p1, q1, rfl, rfl, rfl, k1, h1⟩ := trodAll_cons h0
  obtain ⟨v2, vs2, d2, ds2, p2, q2, rfl, rfl, rfl, k2, h2⟩ := trodAll_cons h1
  obtain ⟨v3, vs3, d3, ds3, p3, q3, rfl, rfl, rfl, k3, h3⟩ := trodAll_cons h2
  obtain ⟨v4, vs4, d4, ds4, p4, q4, rfl, rfl, rfl, k4, h4⟩ := trodAll_cons h3
  obtain ⟨v5, vs5, d5, ds5, p5, q5, rfl, rfl, rfl, k5, h5⟩ := trodAll_cons h4
  obtain ⟨rfl, rfl, rfl⟩ := trodAll_nil h5
  exact ⟨v0, v1, v2, v3, v4, v5, d0, d1, d2, d3, d4, d5, p0, p1, p2, p3, p4, p5, by cases args; simp_all, rfl, by simp, k0, k1, k2, k3, k4, k5⟩
theorem trodAll_seven {t0 t1 t2 t3 t4 t5 t6 : TypeId} {args : Array Value} {ds : List (DataW H)} {ps : List MemPlace} (h : DataW.TrodAll enc P w base spare held [t0, t1, t2, t3, t4, t5, t6] args.toList ds ps) :
    ∃ v0 v1 v2 v3 v4 v5 v6 d0 d1 d2 d3 d4 d5 d6 p0 p1 p2 p3 p4 p5 p6, args = #[v0, v1, v2, v3, v4, v5, v6] ∧ ds = [d0, d1, d2, d3, d4, d5, d6] ∧ ps = p0 ++ p1 ++ p2 ++ p3 ++ p4 ++ p5 ++ p6 ∧ DataW.Trod enc P w base spare held t0 v0 d0 p0 ∧ DataW.Trod enc P w base spare held t1 v1 d1 p1 ∧ DataW.Trod enc P w base spare held t2 v2 d2 p2 ∧ DataW.Trod enc P w base spare held t3 v3 d3 p3 ∧ DataW.Trod enc P w base spare held t4 v4 d4 p4 ∧ DataW.Trod enc P w base spare held t5 v5 d5 p5 ∧ DataW.Trod enc P w base spare held t6 v6 d6 p6 := by
  obtain ⟨v0, vs0, d0, ds0, p0, q0, hargs, rfl, rfl, k0, h0⟩ := trodAll_cons h
  obtain ⟨v1, vs1, d1, ds1, p1, q1, rfl, rfl, rfl, k1, h1⟩ := trodAll_cons h0
  obtain ⟨v2, vs2, d2, ds2, p2, q2, rfl, rfl, rfl, k2, h2⟩ := trodAll_cons h1
  obtain ⟨v3, vs3, d3, ds3, p3, q3, rfl, rfl, rfl, k3, h3⟩ := trodAll_cons h2
  obtain ⟨v4, vs4, d4, ds4, p4, q4, rfl, rfl, rfl, k4, h4⟩ := trodAll_cons h3
  obtain ⟨v5, vs5, d5, ds5, p5, q5, rfl, rfl, rfl, k5, h5⟩ := trodAll_cons h4
  obtain ⟨v6, vs6, d6, ds6, p6, q6, rfl, rfl, rfl, k6, h6⟩ := trodAll_cons h5
  obtain ⟨rfl, rfl, rfl⟩ := trodAll_nil h6
  exact ⟨v0, v1, v2, v3, v4, v5, v6, d0, d1, d2, d3, d4, d5, d6, p0, p1, p2, p3, p4, p5, p6, by cases args; simp_all, rfl, by simp, k0, k1, k2, k3, k4, k5, k6⟩
theorem trodAll_eight {t0 t1 t2 t3 t4 t5 t6 t7 : TypeId} {args : Array Value} {ds : List (DataW H)} {ps : List MemPlace} (h : DataW.TrodAll enc P w base spare held [t0, t1, t2, t3, t4, t5, t6, t7] args.toList ds ps) :
    ∃ v0 v1 v2 v3 v4 v5 v6 v7 d0 d1 d2 d3 d4 d5 d6 d7 p0 p1 p2 p3 p4 p5 p6 p7, args = #[v0, v1, v2, v3, v4, v5, v6, v7] ∧ ds = [d0, d1, d2, d3, d4, d5, d6, d7] ∧ ps = p0 ++ p1 ++ p2 ++ p3 ++ p4 ++ p5 ++ p6 ++ p7 ∧ DataW.Trod enc P w base spare held t0 v0 d0 p0 ∧ DataW.Trod enc P w base spare held t1 v1 d1 p1 ∧ DataW.Trod enc P w base spare held t2 v2 d2 p2 ∧ DataW.Trod enc P w base spare held t3 v3 d3 p3 ∧ DataW.Trod enc P w base spare held t4 v4 d4 p4 ∧ DataW.Trod enc P w base spare held t5 v5 d5 p5 ∧ DataW.Trod enc P w base spare held t6 v6 d6 p6 ∧ DataW.Trod enc P w base spare held t7 v7 d7 p7 := by
  obtain ⟨v0, vs0, d0, ds0, p0, q0, hargs, rfl, rfl, k0, h0⟩ := trodAll_cons h
  obtain ⟨v1, vs1, d1, ds1, p1, q1, rfl, rfl, rfl, k1, h1⟩ := trodAll_cons h0
  obtain ⟨v2, vs2, d2, ds2, p2, q2, rfl, rfl, rfl, k2, h2⟩ := trodAll_cons h1
  obtain ⟨v3, vs3, d3, ds3, p3, q3, rfl, rfl, rfl, k3, h3⟩ := trodAll_cons h2
  obtain ⟨v4, vs4, d4, ds4, p4, q4, rfl, rfl, rfl, k4, h4⟩ := trodAll_cons h3
  obtain ⟨v5, vs5, d5, ds5, p5, q5, rfl, rfl, rfl, k5, h5⟩ := trodAll_cons h4
  obtain ⟨v6, vs6, d6, ds6, p6, q6, rfl, rfl, rfl, k6, h6⟩ := trodAll_cons h5
  obtain ⟨v7, vs7, d7, ds7, p7, q7, rfl, rfl, rfl, k7, h7⟩ := trodAll_cons h6
  obtain ⟨rfl, rfl, rfl⟩ := trodAll_nil h7
  exact ⟨v0, v1, v2, v3, v4, v5, v6, v7, d0, d1, d2, d3, d4, d5, d6, d7, p0, p1, p2, p3, p4, p5, p6, p7, by cases args; simp_all, rfl, by simp, k0, k1, k2, k3, k4, k5, k6, k7⟩
/-- Cells of numbers of these kinds. -/
def IsRow : List IntKind → List Value → Prop
  | [], cs => cs = []
  | k :: ks, cs => ∃ n r, cs = .int k n :: r ∧ InR k n ∧ IsRow ks r
theorem IsRow.len : ∀ {ks : List IntKind} {cs : List Value}, IsRow ks cs → cs.length = ks.length
  | [], _, h => by rw [show _ = [] from h]; rfl
  | k :: ks, _, ⟨n, r, e, _, h⟩ => by rw [e]; simp [h.len]
theorem IsRow.app : ∀ {ks ls : List IntKind} {cs ds : List Value}, IsRow ks cs → IsRow ls ds → IsRow (ks ++ ls) (cs ++ ds)
  | [], _, _, _, h, g => by rw [show _ = [] from h]; simpa using g
  | k :: ks, _, _, _, ⟨n, r, e, hn, h⟩, g => ⟨n, r ++ _, by rw [e]; rfl, hn, h.app g⟩
/-- A type whose cells are numbers of these kinds. -/
structure CellsT (P : Program) (t : TypeId) (ks : List IntKind) : Prop where
  len : P.cellsOf t = ks.length
  h : ∀ {H : Type} {enc : TypeId × Value → H} {w : World} {base : Nat} {spare : Nat → Bool} {held : Bool} {fuel : Nat} {cs : List Value} {x : DataW H × List MemPlace}, DataW.trod enc P w base spare held fuel t cs = some x → IsRow ks cs
theorem cells_int {t : TypeId} {k : IntKind} (ht : P.underlying t = some (.int k)) (hc : P.cellsOf t = 1) : CellsT P t [k] := ⟨hc, fun h => by
  obtain ⟨n, rfl, -, hwf⟩ := DataW.trod_int ht h
  exact ⟨n, [], rfl, wf_in hwf, rfl⟩⟩
def FieldsOk (P : Program) : List Field → Nat → List (List IntKind) → Prop
  | [], _, kss => kss = []
  | f :: fs, off, kss => ∃ ks r, kss = ks :: r ∧ f.offset = off ∧ CellsT P f.type ks ∧ FieldsOk P fs (off + ks.length) r
theorem fields_row {cs : List Value} : ∀ (fs : List Field) (off : Nat) (kss : List (List IntKind)), FieldsOk P fs off kss → off + kss.flatten.length ≤ cs.length →
    (∀ f ∈ fs, ∃ (n : Nat) (x : DataW H × List MemPlace), DataW.trod enc P w base spare held n f.type ((cs.drop f.offset).take (P.cellsOf f.type)) = some x) → IsRow kss.flatten ((cs.drop off).take kss.flatten.length)
  | [], off, kss, h, _, _ => by rw [show kss = [] from h]; simp [IsRow]
  | f :: fs, off, _, ⟨ks, r, rfl, ho, hk, hr⟩, hl, hf => by
    obtain ⟨n, x, hx⟩ := hf f (List.mem_cons_self ..)
    have h1 := hk.h hx
    rw [ho, hk.len] at h1
    rw [List.flatten_cons, List.length_append] at hl ⊢
    have h2 := fields_row fs (off + ks.length) r hr (by omega) (fun g hg => hf g (List.mem_cons_of_mem _ hg))
    have e : (cs.drop off).take (ks.length + r.flatten.length) = (cs.drop off).take ks.length ++ (cs.drop (off + ks.length)).take r.flatten.length := by
      rw [List.take_add, List.drop_drop]
    rw [e]
    exact h1.app h2
theorem cells_struct {t : TypeId} {fs : Array Field} (kss : List (List IntKind)) (ht : P.underlying t = some (.struct fs)) (hf : FieldsOk P fs.toList 0 kss) (hc : P.cellsOf t = kss.flatten.length) : CellsT P t kss.flatten := ⟨hc, fun {H enc w base spare held fuel cs x} h => by
  obtain ⟨xs, n, -, -, hl, hxl, hat⟩ := DataW.trod_struct ht h
  have := fields_row (enc := enc) (w := w) (base := base) (spare := spare) (held := held) (cs := cs) fs.toList 0 kss hf (by omega) (fun f hf => by
    obtain ⟨i, hi, rfl⟩ := List.getElem_of_mem hf
    have hi' : i < fs.size := by simpa using hi
    have h1 := hat i fs[i] (Array.getElem?_eq_getElem hi')
    rw [List.getElem?_eq_getElem (by omega : i < xs.length)] at h1
    exact ⟨n, _, by simpa using h1⟩)
  rw [List.drop_zero, List.take_of_length_le (by omega)] at this
  exact this⟩
theorem gate_row {r : Reach} {b0 : Nat} {t : TypeId} {fs : Array Field} {ks : List IntKind} {v : Value} {d : DataW H} {ps : List MemPlace} (ht : P.underlying t = some (.struct fs)) (hk : CellsT P t ks) (hv : Value.okWide P w r b0 t v) (h : DataW.Trod enc P w base spare held t v d ps) :
    ∃ cs : List Value, v = .agg cs.toArray ∧ IsRow ks cs := by
  obtain ⟨cs, rfl, hsz⟩ := okWide_struct ht hv
  obtain ⟨fuel, hf⟩ := h
  exact ⟨cs.toList, by simp, hk.h hf⟩
theorem list_ofP {α : Type} {Q : Nat → α → Prop} {n : Nat} (h : ∀ i, i < n → ∃ f, Q i f) : ∃ l : List α, l.length = n ∧ ∀ i f, l[i]? = some f → Q i f := by
  induction n with
  | zero => exact ⟨[], rfl, by simp⟩
  | succ n ih =>
    obtain ⟨l, hl, hp⟩ := ih (fun i hi => h i (by omega))
    obtain ⟨f, hf⟩ := h n (by omega)
    refine ⟨l ++ [f], by simp [hl], fun i g hg => ?_⟩
    by_cases hi : i < l.length
    · rw [List.getElem?_append_left hi] at hg; exact hp i g hg
    · have hb : i < (l ++ [f]).length := (List.getElem?_eq_some_iff.1 hg).1
      have : i = l.length := by simp at hb; omega
      subst this
      simp at hg; subst hg; rw [hl]; exact hf
theorem gate_rows {α : Type} [Inhabited α] {en : α → List Value} {s : Nat} [hR : RowE en s] {ok : α → Prop} {r : Reach} {b0 : Nat} {t e : TypeId} {ks : List IntKind} {v : Value} {d : DataW H} {ps : List MemPlace} (ht : P.underlying t = some (.slice e)) (hk : CellsT P e ks) (hs : ks.length = s)
    (hun : ∀ cs, IsRow ks cs → ∃ a, ok a ∧ en a = cs) (hv : Value.okWide P w r b0 t v) (h : DataW.Trod enc P w 0 (fun _ => true) true t v d ps) :
    ∃ (A : Option Addr) (c : Nat) (l : List α), v = .slice A l.length c ∧ RoA w (blocks []) A l.length c s (flat en l) ∧ ∀ x ∈ l, ok x := by
  obtain ⟨a0, len, cap, rfl⟩ := okWide_slice ht hv
  obtain ⟨fuel, hf⟩ := h
  have hf' : DataW.trod enc P w 0 (fun _ => true) true fuel t [.slice a0 len cap] = some (d, ps) := by simpa [Value.cells] using hf
  rcases open_slice ht hf' with ⟨hcs, -⟩ | ⟨a, len', cap', m, n, D, Pl, hcs, hb, hl, hm, hmm, hx, hi⟩
  · simp at hcs
    obtain ⟨rfl, rfl, rfl⟩ := hcs
    exact ⟨none, 0, [], rfl, ⟨Ro.nil _ _ _⟩, by simp⟩
  · simp at hcs hmm
    obtain ⟨rfl, rfl, rfl⟩ := hcs
    subst hmm
    have hel : ∀ i, i < len → ∃ f : α, ok f ∧ ∀ k u, (en f)[k]? = some u → w.cell? (a.add (i * s + k)) = some u := by
      intro i hil
      obtain ⟨cs', hc, ht'⟩ := hi i (by omega)
      obtain ⟨f, hok, he⟩ := hun cs' (hk.h ht')
      obtain ⟨-, hcl, hat⟩ := World.cells?_some hc
      rw [hk.len, hs] at hcl hat
      refine ⟨f, hok, fun k u hu => ?_⟩
      have hks : k < s := by rw [← hR.h.1 f]; exact (List.getElem?_eq_some_iff.1 hu).1
      rw [← Go.Deep.add_add, hat k hks, ← he]; exact hu
    obtain ⟨l, rfl, hp⟩ := list_ofP hel
    refine ⟨some a, _, l, rfl, ⟨some a, _, rfl, hl, hm, flat_len l, fun hn => ?_⟩, fun f hf => ?_⟩
    · obtain ⟨f0, hf0⟩ : ∃ f, l[0]? = some f := ⟨l[0], List.getElem?_eq_getElem hn⟩
      obtain ⟨u0, hu0⟩ : ∃ u, (en f0)[0]? = some u := ⟨(en f0)[0]'(by rw [hR.h.1]; exact hR.h.2), List.getElem?_eq_getElem _⟩
      have hc0 := (hp 0 f0 hf0).2 0 _ hu0
      obtain ⟨b, off, spot⟩ := a
      have hspot : spot = none := by simpa [Addr.add] using World.cell?_spot hc0
      subst hspot
      have hblt : b < w.heap.size := by
        rcases Nat.lt_or_ge b w.heap.size with hlt | hge
        · exact hlt
        · rw [add_none] at hc0; simp [World.cell?, Array.getElem?_eq_none hge] at hc0
      refine ⟨b, off, rfl, hblt, (by rintro ⟨x, hx, _⟩; cases hx), fun j u hu => ?_⟩
      have hjl : j < l.length * s := by rw [← flat_len (e := en) l]; exact (List.getElem?_eq_some_iff.1 hu).1
      have hpos := hR.h.2
      have hi2 : j / s < l.length := Nat.div_lt_of_lt_mul (by rw [Nat.mul_comm]; exact hjl)
      have hj : j / s * s + j % s = j := by rw [Nat.mul_comm]; exact Nat.div_add_mod j s
      have h1 := flat_at (e := en) l (j / s) (j % s) hi2 (Nat.mod_lt _ hpos)
      rw [hj, hu] at h1
      have hge : l[j / s]? = some (l.getD (j / s) default) := by rw [List.getD_eq_getElem?_getD, List.getElem?_eq_getElem hi2]; rfl
      have := (hp _ _ hge).2 _ u h1.symm
      rw [hj, add_none] at this
      exact this
    · obtain ⟨i, hi', rfl⟩ := List.getElem_of_mem hf
      exact (hp i _ (List.getElem?_eq_getElem hi')).1
end
theorem cells_i64 : CellsT Try.prog 2 [.i64] := cells_int Try.underlying2 (by kernel_rfl)
theorem cells_in : CellsT Try.prog 3 [.i64] := cells_int Try.underlying3 (by kernel_rfl)
theorem cells_u16 : CellsT Try.prog 30 [.u16] := cells_int Try.underlying30 (by kernel_rfl)
theorem cells_u32 : CellsT Try.prog 67 [.u32] := cells_int Try.underlying67 (by kernel_rfl)
theorem cells_i32 : CellsT Try.prog 21 [.i32] := cells_int Try.underlying21 (by kernel_rfl)
theorem cells_spot : CellsT Try.prog 61 [.i64, .i64] := cells_struct [[.i64], [.i64]] Try.underlying61 ⟨_, _, rfl, rfl, cells_i64, _, _, rfl, rfl, cells_i64, rfl⟩ (by kernel_rfl)
theorem cells_rules : CellsT Try.prog 116 [.u32, .i64, .i64, .i64] := cells_struct [[.u32], [.i64], [.i64], [.i64]] Try.underlying116 ⟨_, _, rfl, rfl, cells_u32, _, _, rfl, rfl, cells_i64, _, _, rfl, rfl, cells_in, _, _, rfl, rfl, cells_i64, rfl⟩ (by kernel_rfl)
theorem cells_frame : CellsT Try.prog 83 [.i64, .u16, .u32, .i32, .i32, .i32] := cells_struct [[.i64], [.u16], [.u32], [.i32], [.i32], [.i32]] Try.underlying83 ⟨_, _, rfl, rfl, cells_in, _, _, rfl, rfl, cells_u16, _, _, rfl, rfl, cells_u32, _, _, rfl, rfl, cells_i32, _, _, rfl, rfl, cells_i32, _, _, rfl, rfl, cells_i32, rfl⟩ (by kernel_rfl)
def Frm.ok (f : Frm) : Prop := InR .i64 f.kind ∧ InR .u16 f.seq ∧ InR .u32 f.time ∧ InR .i32 f.a ∧ InR .i32 f.b ∧ InR .i32 f.c
theorem un_spot : ∀ cs, IsRow [.i64, .i64] cs → ∃ a : Int × Int, (InR .i64 a.1 ∧ InR .i64 a.2) ∧ spotE a = cs := by
  rintro _ ⟨x, _, rfl, hx, y, _, rfl, hy, rfl⟩
  exact ⟨(x, y), ⟨hx, hy⟩, rfl⟩
theorem un_frame : ∀ cs, IsRow [.i64, .u16, .u32, .i32, .i32, .i32] cs → ∃ a : Frm, a.ok ∧ frmE a = cs := by
  rintro _ ⟨x0, _, rfl, h0, x1, _, rfl, h1, x2, _, rfl, h2, x3, _, rfl, h3, x4, _, rfl, h4, x5, _, rfl, h5, rfl⟩
  exact ⟨⟨x0, x1, x2, x3, x4, x5⟩, ⟨h0, h1, h2, h3, h4, h5⟩, rfl⟩
end Go.Proofs.Ytpmomimaihjmjaa
/- The gate for rows of columns and rows. -/
namespace Go.Proofs.Ytpmomimaihjmjaa
open Go.ChangeShapes Go.WideShapes Go.ChangeAt Go.RowKit Go.Deep Go.Joins
theorem cells_at : CellsT Try.prog 39 [.i64, .i64] := cells_struct [[.i64], [.i64]] Try.underlying39 ⟨_, _, rfl, rfl, cells_in, _, _, rfl, rfl, cells_in, rfl⟩ (by kernel_rfl)
end Go.Proofs.Ytpmomimaihjmjaa
