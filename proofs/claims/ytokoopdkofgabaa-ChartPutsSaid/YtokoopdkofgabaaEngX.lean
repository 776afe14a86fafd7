/- The engine: more steps that are found by instances: strings of bytes, pointers and nil, whole structs stored. -/
import Derived.Test.YtokoopdkofgabaaTab
import Derived.Laws.BytesArg
import Derived.Laws.Strings
import Derived.Laws.Pointers
import Derived.Laws.CopyRow
namespace Go.Proofs.Ytokoopdkofgabaa
open Go.RowKit

/-- Bytes. -/
def U8s (xs : List Int) : Prop := ∀ x ∈ xs, 0 ≤ x ∧ x < 256
theorem strOfNums_eq {xs ys : List Int} (hx : U8s xs) (hy : U8s ys) : ((strOfNums xs).toList == (strOfNums ys).toList) = (xs == ys) := by
  have key : ∀ xs ys : List Int, U8s xs → U8s ys → (xs.map fun n => UInt8.ofNat n.toNat) = (ys.map fun n => UInt8.ofNat n.toNat) → xs = ys := by
    intro xs
    induction xs with
    | nil => intro ys _ _ h; cases ys with
      | nil => rfl
      | cons y r => simp at h
    | cons x r ih =>
      intro ys hx hy h
      cases ys with
      | nil => simp at h
      | cons y s =>
        simp only [List.map_cons, List.cons.injEq] at h
        have h1 := hx x (by simp)
        have h2 := hy y (by simp)
        have h3 := congrArg UInt8.toNat h.1
        simp only [UInt8.toNat_ofNat'] at h3
        rw [ih s (fun z hz => hx z (by simp [hz])) (fun z hz => hy z (by simp [hz])) h.2, show x = y from by omega]
  have e : ∀ xs, (strOfNums xs).toList = xs.map fun n => UInt8.ofNat n.toNat := fun xs => by
    rw [← strOfNums_data]
    exact ByteArray.toList_eq _
  rw [e, e, Bool.eq_iff_iff]
  simp only [beq_iff_eq]
  exact ⟨key xs ys hx hy, fun h => by rw [h]⟩

section
variable {P : Program} {w0 : World} {W : Nat → Prop} {H : List HE}
instance (priority := 50) (s t e : TypeId) (x : Operand) (A : Option Addr) (m c : Nat) (xs : List Int) [Und P s (.slice e)] [Und P e (.int .u8)] [Und P t .string] [hs : SrcC w0 W H e 1 (.slice A m c) m (ints .u8 xs)] : MS P w0 W H (.convert s t x) [.slice A m c] (.string (strOfNums xs)) True :=
  ⟨fun _ _ _ _ _ _ _ _ _ _ _ _ _ _ h1 h2 h3 => o_val (by simp) rfl h2 (fun a w ha hw => by
    obtain ⟨A', c', e1, -, -, e2, e3⟩ := hs.h w hw
    injection e1 with q1 _ q3; subst q1 q3
    have hlen : xs.length = m := by simpa using e2
    have hx := ha.eval (opnds1 rfl h1)
    have hrun : (convert s t (.slice A m c)).run P w = .ok (.string (strOfNums xs)) w := by
      rcases Nat.eq_zero_or_pos m with h0 | h0
      · subst h0
        have hn : xs = [] := List.eq_nil_of_length_eq_zero hlen
        subst hn
        cases A with
        | none => rw [run_convert_bytes_nil w s e Und.h Und.h 0 c t Und.h]; rfl
        | some ad =>
          rw [run_convert_bytes_string w s t e _ 0 c Und.h Und.h Und.h, run_bytesToString w ad 0 c [] (by simp [loadCells, loadCellsFrom])]; rfl
      · obtain ⟨b, off, rfl, hc⟩ := e3 h0
        exact run_convert_bytes_arg w s e Und.h Und.h b off m c xs hlen (fun i hi => hc i _ (by simp [ints, List.getD_eq_getElem?_getD, show i < xs.length from by omega]) w hw) t Und.h
    simp only [execOp, hx, Sem.run_bind, hrun, Result.andThen_ok, Sem.run_pure]) h3⟩
instance (t u : TypeId) (x y : Operand) (xs ys : List Int) : MS P w0 W H (.binOp .eql t x y u) [.string (strOfNums xs), .string (strOfNums ys)] (.bool (xs == ys)) (U8s xs ∧ U8s ys) :=
  ⟨fun hc _ _ _ _ _ _ _ _ _ _ _ _ _ h1 h2 h3 => o_val (by simp) rfl h2 (fun a w ha hw => by
    obtain ⟨p, q⟩ := vals2 h1
    simp [execOp, ha.eval p, ha.eval q, eqGuard, binOp_string_eql, strOfNums_eq hc.1 hc.2]) h3⟩
theorem r_storeAgg {F : Fence} {n N : Nat} {ds : List Deferred} {σ : List (Nat × Value)} {ty : TypeId} {pos : String} {aft : Array Edge} {gd : Option (Nat × Bool)} {K : Act → World → Prop} {Q : Exit → Act → World → Prop} {R : List HE} [Wide F] {t sz bs : Nat} {z : Value} {x y : Operand} {b q tb : Nat} {cs vs cs' : List Value} [hI : Inf P t sz bs z]
    (hx : ev σ x = some (.pointer (some ⟨b, q, none⟩))) (hy : ev σ y = some (.agg vs.toArray)) (h1 : ∀ v ∈ vs, v.oneCell' = true) (hm : Has H (.blk b tb cs) R) (hl : vs.length = sz) (ho : cs.take q ++ vs ++ cs.drop (q + vs.length) = cs') (hq : q + vs.length ≤ cs.length)
    (h : J N ds w0 W σ (.blk b tb cs' :: R) K) : OJ F n P N ds w0 W σ H ⟨none, .store t x y, ty, pos, aft, gd⟩ K Q :=
  o_skip (by simp) rfl (fun a w ha hw => by
    have hb : w.heap[b]? = some (.cells cs.toArray tb (0, 0)) := hw.has hm
    obtain ⟨i, e1, -, e2, -⟩ := hI.h
    have hst := run_storeCells_at P b q tb vs 0 cs.toArray w hb (by simpa using hq) h1
    simp only [Nat.add_zero] at hst
    refine ⟨w.setRow b (cs.take q ++ vs ++ cs.drop (q + vs.length)).toArray, by
      simp only [execOp, ha.eval hx, ha.eval hy, Instr.storeAt, Instr.sureAddr, storeVar, sizeOf, typeInfo, Sem.run_bind, Sem.run_pure, Result.andThen_ok]
      simp [e1, e2, hl, Value.cells, hst], ?_⟩
    subst ho
    refine hw.turn hm ?_ rfl rfl rfl (by simp) (fun k _ hk => setRow_other _ _ _ _ (fun e => hk (by rw [e]; rfl))) (.inl rfl)
    exact setRow_heap w b _ _ tb _ hb) h
instance (priority := 100) (t tb b q sz bs : Nat) (z : Value) (x y : Operand) (cs vs cs' : List Value) (k : HE → List HE) [Inf P t sz bs z] [hl : SameLen vs sz] [h1 : OneL vs] [h : At b H tb cs k] [hs : Over cs q vs cs'] : SS P w0 W H (.store t x y) [.pointer (some ⟨b, q, none⟩), .agg vs.toArray] (k (.blk b tb cs')) True :=
  ⟨fun _ _ _ _ _ _ _ _ _ _ _ _ _ k1 k3 => let ⟨_, h4, h5⟩ := h.h; let ⟨p1, p2⟩ := vals2 k1; r_storeAgg (t := t) p1 p2 h1.h h4 hl.h hs.h.1 hs.h.2 (j_perm (h5 _) k3)⟩
end

section
variable {F : Fence} {n : Nat} {P : Program} {N : Nat} {ds : List Deferred} {w0 : World} {W : Nat → Prop} {σ : List (Nat × Value)} {H : List HE} {Q : Exit → Act → World → Prop}
variable {ops : Array Oper} {rest : List Oper} {d : Nat} {ty : TypeId} {pos : String} {aft : Array Edge} {gd : Option (Nat × Bool)} {v : Value}
/-- A pick whose condition is reckoned. -/
theorem lpT [Wide F] {c x y : Operand} (hw : wantd ops σ ⟨some d, .pick c x y, ty, pos, aft, gd⟩ = some true) (hc : ev σ c = some (.bool true)) (hx : ev σ x = some v) (hdN : Nat.blt d N = true) (h : J N ds w0 W ((d, v) :: σ) H (wpListIn F n P ops Q rest)) :
    J N ds w0 W σ H (wpListIn F n P ops Q (⟨some d, .pick c x y, ty, pos, aft, gd⟩ :: rest)) := l_run hw (r_pickT hc hx hdN h)
theorem lpF [Wide F] {c x y : Operand} (hw : wantd ops σ ⟨some d, .pick c x y, ty, pos, aft, gd⟩ = some true) (hc : ev σ c = some (.bool false)) (hx : ev σ y = some v) (hdN : Nat.blt d N = true) (h : J N ds w0 W ((d, v) :: σ) H (wpListIn F n P ops Q rest)) :
    J N ds w0 W σ H (wpListIn F n P ops Q (⟨some d, .pick c x y, ty, pos, aft, gd⟩ :: rest)) := l_run hw (r_pickF hc hx hdN h)
theorem Sub.swapIn {x : HE} {H R1 : List HE} (h : Has H x R1) : ∀ {Z : List HE}, Sub R1 Z → Sub H (x :: Z) := by
  induction h with
  | here x r => intro Z k; exact .cons (.here _ _) k
  | there y h ih =>
    intro Z k
    cases k with
    | cons hz k2 => exact .cons (.there _ hz) (ih k2)
theorem Split.back {S R : List HE} (h : Split H S R) : Sub H (S ++ R) := by
  induction h with
  | nil H => exact Sub.refl _
  | cons h _ ih => exact Sub.swapIn h ih
variable {dst : Nat} {f : FuncId} {args : Array Operand} {ts : Array TypeId} {us : List Value} {S R : List HE} {Rl : Value → List HE → Prop}
/-- Calls, the part of the heap found by instances. -/
theorem lk [Wide F] [WF F] [Cl P f]
    (hw : wantd ops σ ⟨some dst, .call ⟨.value (.func f), args, ts⟩, ty, pos, aft, gd⟩ = some true) (hv : vals σ args.toList = some us) (hdN : Nat.blt dst N = true)
    (hc : ∀ w, St w0 W H w → Own S w → Does P f us S w fun u S' => u = v ∧ S' = S) [hs : SplitC H S R] (h : J N ds w0 W ((dst, v) :: σ) H (wpListIn F n P ops Q rest)) :
    J N ds w0 W σ H (wpListIn F n P ops Q (⟨some dst, .call ⟨.value (.func f), args, ts⟩, ty, pos, aft, gd⟩ :: rest)) := lfk hw hv hs.h hs.h.back hdN hc h
theorem hk [Wide F] [WF F] [Cl P f] {T : List (Nat × Value) → Prop}
    (hw : wantd ops σ ⟨some dst, .call ⟨.value (.func f), args, ts⟩, ty, pos, aft, gd⟩ = some true) (hv : vals σ args.toList = some us) (hdN : Nat.blt dst N = true)
    (hc : ∀ w, St w0 W H w → Own S w → Does P f us S w fun u S' => u = v ∧ S' = S) [hs : SplitC H S R] (h : HdJ F n P N ds w0 W H ops rest ((dst, v) :: σ) T) :
    HdJ F n P N ds w0 W H ops (⟨some dst, .call ⟨.value (.func f), args, ts⟩, ty, pos, aft, gd⟩ :: rest) σ T := hfk hw hv hs.h hs.h.back hdN hc h
theorem lf [Wide F] [WF F] [Cl P f]
    (hw : wantd ops σ ⟨some dst, .call ⟨.value (.func f), args, ts⟩, ty, pos, aft, gd⟩ = some true) (hv : vals σ args.toList = some us) (hdN : Nat.blt dst N = true)
    (hc : ∀ w, St w0 W H w → Own S w → Does P f us S w Rl) [hs : SplitC H S R] (h : ∀ v S', Rl v S' → J N ds w0 W ((dst, v) :: σ) (S' ++ R) (wpListIn F n P ops Q rest)) :
    J N ds w0 W σ H (wpListIn F n P ops Q (⟨some dst, .call ⟨.value (.func f), args, ts⟩, ty, pos, aft, gd⟩ :: rest)) := lfn hw hv hs.h hdN hc h
end
end Go.Proofs.Ytokoopdkofgabaa
