/- The engine: what a function does, as a contract; calls by it; struct literals; fields of values. -/
import Derived.Test.YtokoopdkofgabaaEng6
namespace Go.Proofs.Ytokoopdkofgabaa
open Go.RowKit

/-- What a call comes to: a value and the heap that it was given, turned. -/
abbrev Post (S : List HE) (w : World) (Rl : Value → List HE → Prop) : Ending → World → Prop := fun e w' => ∃ v S', e = .returned v ∧ Rl v S' ∧ St w (blocks S) S' w'
/-- Function f, called at these arguments on this heap. -/
def Does (P : Program) (f : FuncId) (args : List Value) (S : List HE) (w : World) (Rl : Value → List HE → Prop) : Prop := ∀ n, CallsIn Fence.wide n P f args.toArray w (Post S w Rl)
/-- A fence in which a call goes as in the wide one. -/
class WF (F : Fence) : Prop where h : ∀ {n P f args w R}, CallsIn Fence.wide n P f args w R → CallsIn F n P f args w R
instance : WF Fence.wide := ⟨id⟩
instance (l : Nat) : WF (Fence.wide.inRound l) := ⟨id⟩

theorem Does.mono {P : Program} {f : FuncId} {args : List Value} {S : List HE} {w : World} {Rl Rl' : Value → List HE → Prop} (h : Does P f args S w Rl) (hr : ∀ v S', Rl v S' → Rl' v S') : Does P f args S w Rl' := fun n =>
  (h n).mono fun _ _ ⟨v, S', e, h1, h2⟩ => ⟨v, S', e, hr _ _ h1, h2⟩
theorem Does.calls {P : Program} {f : FuncId} {args : List Value} {S : List HE} {w : World} {Rl : Value → List HE → Prop} (h : Does P f args S w Rl) : Calls P f args.toArray w (Post S w Rl) := callsIn_wide.1 (h 0)

theorem St.sub_own {w0 w : World} {W : Nat → Prop} {H S R : List HE} (h : St w0 W H w) (hs : Split H S R) : Own S w := (h.perm hs.perm).left.own

section
variable {F : Fence} {n : Nat} {P : Program} {N : Nat} {ds : List Deferred} {w0 : World} {W : Nat → Prop} {σ : List (Nat × Value)} {H R : List HE} {Q : Exit → Act → World → Prop} {K : Act → World → Prop}
variable {d : Nat} {ty : TypeId} {pos : String} {aft : Array Edge} {gd : Option (Nat × Bool)} {o : Oper}

theorem does_of {f : FuncId} {fn : Func} {c : Code} {S : List HE} {args : List Value} {w : World} {Rl : Value → List HE → Prop} (hf : P.funcs[f]? = some fn) (hb : fn.body = some c) (hN : fn.ntmps = N) (hle : Nat.ble args.length N = true) (hown : Own S w)
    (h : ∀ n, J N [] w (blocks S) (slots 0 args) S (c.wpIn Fence.wide n P (bodyPost P fn (Post S w Rl)))) : Does P f args S w Rl := fun n => j_enter hf hb hN hle rfl hown (h n)

def vals (σ : List (Nat × Value)) : List Operand → Option (List Value)
  | [] => some []
  | x :: r => match ev σ x, vals σ r with
    | some v, some vs => some (v :: vs)
    | _, _ => none
theorem vals_map {a : Act} (ha : Tm N ds σ a) : ∀ {l : List Operand} {vs : List Value}, vals σ l = some vs → l.map a.eval = vs
  | [], vs, h => by simp [vals] at h; simp [h]
  | x :: r, vs, h => by
    simp only [vals] at h
    cases hx : ev σ x with
    | none => simp [hx] at h
    | some v =>
      cases hr : vals σ r with
      | none => simp [hx, hr] at h
      | some us =>
        simp [hx, hr] at h
        subst h
        simp [ha.eval hx, vals_map ha hr]

/-- A call of a function, or of a closure: v is what its value holds. -/
theorem o_call [hF : Wide F] [hW : WF F] {dst : Option Nat} {x : Operand} {f : FuncId} {captured : Array Value} {args : Array Operand} {ts : Array TypeId} {vs : List Value} [hcl : Cl P f] {S : List HE} {Rl : Value → List HE → Prop}
    (hx : ev σ x = some (.func (.func f) #[] captured)) (hv : vals σ args.toList = some vs) (hs : Split H S R)
    (hc : ∀ w, St w0 W H w → Own S w → Does P f (vs ++ captured.toList) S w Rl)
    (h : ∀ v S', Rl v S' → ∀ a w, Tm N ds σ a → St w0 W (S' ++ R) w → K (a.put dst v) w) :
    OJ F n P N ds w0 W σ H ⟨dst, .call ⟨.value x, args, ts⟩, ty, pos, aft, gd⟩ K Q := by
  intro a w ha hw
  have hargs : args.map a.eval = vs.toArray := by
    rw [← vals_map ha hv]
    apply Array.ext'
    simp
  refine ⟨fun f _ => hF.out.fn f, ?_⟩
  rw [Oper.semAt_plain F _ _ (by simp)]
  have e0 : (#[] ++ vs.toArray ++ captured : Array Value) = (vs ++ captured.toList).toArray := by
    apply Array.ext'; simp
  simp only [execOp, resolve, invoke, Deferred.ofValue, Sem.run_bind, Sem.run_pure, Result.andThen_ok, ha.eval hx, hargs, hcl.h, Oper.uponIn_enter, e0]
  refine ⟨fun hd => (by rw [hF.out.depth] at hd; cases hd), (hW.h (hc w hw (hw.sub_own hs) (n - 1))).mono ?_⟩
  rintro e w' ⟨v, S', rfl, hr, hst⟩
  exact h v S' hr _ _ ha (hw.call hs hst)
theorem r_fn [hF : Wide F] [hW : WF F] {f : FuncId} {args : Array Operand} {ts : Array TypeId} {vs : List Value} [hcl : Cl P f] {S : List HE} {Rl : Value → List HE → Prop}
    (hv : vals σ args.toList = some vs) (hs : Split H S R) (hdN : Nat.blt d N = true)
    (hc : ∀ w, St w0 W H w → Own S w → Does P f vs S w Rl)
    (h : ∀ v S', Rl v S' → J N ds w0 W ((d, v) :: σ) (S' ++ R) K) :
    OJ F n P N ds w0 W σ H ⟨some d, .call ⟨.value (.func f), args, ts⟩, ty, pos, aft, gd⟩ K Q :=
  o_call (captured := #[]) rfl hv hs (fun w hw ho => by simpa using hc w hw ho) fun v S' hr a w ha hw => h v S' hr _ _ (ha.put d v (by simpa using hdN)) hw
/-- A call that yields just this value and is given nothing. -/
theorem r_fnv [hF : Wide F] [hW : WF F] {f : FuncId} {args : Array Operand} {ts : Array TypeId} {vs : List Value} [hcl : Cl P f] {v : Value}
    (hv : vals σ args.toList = some vs) (hdN : Nat.blt d N = true)
    (hc : ∀ w, St w0 W H w → Does P f vs [] w fun u S' => u = v ∧ S' = [])
    (h : J N ds w0 W ((d, v) :: σ) H K) :
    OJ F n P N ds w0 W σ H ⟨some d, .call ⟨.value (.func f), args, ts⟩, ty, pos, aft, gd⟩ K Q :=
  r_fn hv (Split.nil H) hdN (fun w hw _ => hc w hw) (by rintro u S' ⟨rfl, rfl⟩; exact h)
/-- A call that yields just this value and gives back what it was given. -/
theorem r_fnk [hF : Wide F] [hW : WF F] {f : FuncId} {args : Array Operand} {ts : Array TypeId} {vs : List Value} [hcl : Cl P f] {v : Value} (S : List HE)
    (hv : vals σ args.toList = some vs) (hs : Split H S R) (hb : Sub H (S ++ R)) (hdN : Nat.blt d N = true)
    (hc : ∀ w, St w0 W H w → Own S w → Does P f vs S w fun u S' => u = v ∧ S' = S)
    (h : J N ds w0 W ((d, v) :: σ) H K) :
    OJ F n P N ds w0 W σ H ⟨some d, .call ⟨.value (.func f), args, ts⟩, ty, pos, aft, gd⟩ K Q :=
  r_fn hv hs hdN hc (by rintro u S' ⟨rfl, rfl⟩; exact j_perm hb h)

/-- Where a struct's fields lie, and how many cells each has. -/
class Pl (P : Program) (t : TypeId) (pl : outParam (List (Nat × Nat))) : Prop where h : ∃ fs, P.underlying t = some (.struct fs) ∧ ∀ w, (fs.mapM (fun f => do pure (f.offset, ← sizeOf f.type)) : Sem (Array (Nat × Nat))).run P w = .ok pl.toArray w
/-- A list with another one in its midst. -/
def splat (l : List Value) (o : Nat) (xs : List Value) : List Value := l.take o ++ xs ++ l.drop (o + xs.length)
def fillL (pl : List (Nat × Nat)) (l : List Value) : List (Nat × Value) → List Value
  | [] => l
  | (i, v) :: r => fillL pl (splat l ((pl.getD i (0, 0)).1) v.cells.toList) r
theorem r_build [Wide F] {t sz bs : Nat} {z : Value} {pl : List (Nat × Nat)} {parts : Array (Nat × Operand)} {vs : List (Nat × Value)} {cs : List Value} [hP : Pl P t pl] [hI : Inf P t sz bs z] (hv : evs σ parts.toList = some vs)
    (hcs : fillL pl z.cells.toList vs = cs) (hf : Instr.fill (pl.toArray[·]?) z.cells vs = some (fillL pl z.cells.toList vs).toArray) (hdN : Nat.blt d N = true)
    (h : J N ds w0 W ((d, .agg cs.toArray) :: σ) H K) : OJ F n P N ds w0 W σ H ⟨some d, .build t parts, ty, pos, aft, gd⟩ K Q := by
  subst hcs
  refine o_val (by simp) rfl hdN (fun a w ha _ => ?_) h
  obtain ⟨fs, h1, h2⟩ := hP.h
  obtain ⟨i, h3, h4, -⟩ := hI.h
  have e1 : (List.map (fun x : Nat × Operand => match x with | (i, x) => (i, a.eval x)) parts.toList) = vs := evs_map ha hv
  have hb : (Instr.build t (parts.map fun (i, x) => (i, a.eval x))).run P w = .ok (.agg (fillL pl z.cells.toList vs).toArray) w := by
    unfold Instr.build
    have hz : (zeroValue t).run P w = .ok z w := by simp [zeroValue, typeInfo, h3, h4]
    simp only [Sem.run_bind, hz, Result.andThen_ok, run_underlying h1, h2 w, Array.toList_map, e1, hf, Sem.run_pure]
  simp only [execOp, Sem.run_bind, hb, Result.andThen_ok, Sem.run_pure]

end
/-- A function's results. -/
class FRes (fn : Func) (rs : outParam (List ResultVar)) : Prop where h : fn.results = rs.toArray
end Go.Proofs.Ytokoopdkofgabaa
