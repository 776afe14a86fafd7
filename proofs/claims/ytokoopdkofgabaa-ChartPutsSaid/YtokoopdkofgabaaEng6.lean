/- The engine: cases in the midst of a region; slots and heap told otherwise; cutting code. -/
import Derived.Test.YtokoopdkofgabaaEng5
namespace Go.Proofs.Ytokoopdkofgabaa
open Go.RowKit

section
variable {F : Fence} {n : Nat} {P : Program} {N : Nat} {ds : List Deferred} {w0 : World} {W : Nat → Prop} {σ τ : List (Nat × Value)} {H : List HE} {Q : Exit → Act → World → Prop} {k : Act → World → Prop}

theorem Tm.ext {a : Act} (he : ∀ t, look σ t = look τ t) (h : Tm N ds σ a) : Tm N ds τ a := ⟨h.size, h.defers, fun t v hv => h.at_ t v (by rw [he]; exact hv)⟩
theorem J.ext (he : ∀ t, look σ t = look τ t) (h : J N ds w0 W σ H k) : J N ds w0 W τ H k := fun a w ha hw => h a w (ha.ext fun t => (he t).symm) hw
theorem look_ext (he : ∀ t, look σ t = look τ t) (d : Nat) (v : Value) : ∀ t, look ((d, v) :: σ) t = look ((d, v) :: τ) t := fun t => by rw [look_cons, look_cons, he]
theorem wantd_ext {ops : Array Oper} {o : Oper} (he : ∀ t, look σ t = look τ t) : wantd ops σ o = wantd ops τ o := by
  unfold wantd
  cases o.guard with
  | none => rfl
  | some g =>
    obtain ⟨j, b⟩ := g
    simp only
    cases (ops[j]?).bind (·.dst) with
    | none => rfl
    | some t => simp only [he t]
theorem HdJ.ext {ops : Array Oper} : ∀ (l : List Oper) (σ τ : List (Nat × Value)), (∀ t, look σ t = look τ t) → HdJ F n P N ds w0 W H ops l σ (fun τ => J N ds w0 W τ H k) → HdJ F n P N ds w0 W H ops l τ (fun τ => J N ds w0 W τ H k)
  | [], _, _, he, h => J.ext he h
  | o :: rest, σ, τ, he, h => by
    obtain ⟨d, v, hd, hdN, hq, hr⟩ := h
    refine ⟨d, v, hd, hdN, ?_, HdJ.ext rest _ _ (look_ext he d v) hr⟩
    rcases hq with ⟨h1, h2⟩ | ⟨h1, h2⟩
    · exact .inl ⟨by rw [← wantd_ext he]; exact h1, fun K Q hK a w ha hw => h2 K Q (J.ext (fun t => (look_ext he d v t).symm) hK) a w (ha.ext fun t => (he t).symm) hw⟩
    · exact .inr ⟨by rw [← wantd_ext he]; exact h1, h2⟩
theorem look_set {t : Nat} {v : Value} (hl : look σ t = some v) : ∀ s, look ((t, v) :: σ) s = look σ s := fun s => by
  rw [look_cons]
  split
  · rename_i e; subst e; exact hl.symm
  · rfl
/-- A slot that holds a truth value, taken both ways, in the midst of a region that draws. -/
theorem h_case {ops : Array Oper} {l : List Oper} (t : Nat) {c : Bool} (hl : look σ t = some (.bool c)) (ht : c = true → HdJ F n P N ds w0 W H ops l ((t, .bool true) :: σ) (fun τ => J N ds w0 W τ H k))
    (hf : c = false → HdJ F n P N ds w0 W H ops l ((t, .bool false) :: σ) (fun τ => J N ds w0 W τ H k)) : HdJ F n P N ds w0 W H ops l σ (fun τ => J N ds w0 W τ H k) := by
  cases c with
  | true => exact HdJ.ext l _ _ (look_set hl) (ht rfl)
  | false => exact HdJ.ext l _ _ (look_set hl) (hf rfl)
theorem h_set {ops : Array Oper} {l : List Oper} (t : Nat) (v : Value) (hl : look σ t = some v) {v' : Value} (e : v = v') (h : HdJ F n P N ds w0 W H ops l ((t, v') :: σ) (fun τ => J N ds w0 W τ H k)) : HdJ F n P N ds w0 W H ops l σ (fun τ => J N ds w0 W τ H k) := by
  subst e
  exact HdJ.ext l _ _ (look_set hl) h

/-- Code, and what comes behind it, walked apart: at the seam one of x. -/
theorem c_seam {c : Code} {X : Type} (R : X → Prop) (σI : X → List (Nat × Value)) (HI : X → List HE)
    (h1 : J N ds w0 W σ H (c.wpIn F n P (Exit.then (fun a w => ∃ x, R x ∧ Tm N ds (σI x) a ∧ St w0 W (HI x) w) Q))) (h2 : ∀ x, R x → J N ds w0 W (σI x) (HI x) (Q .normal)) : J N ds w0 W σ H (c.wpIn F n P Q) :=
  fun a w ha hw => wpIn_mono (h1 a w ha hw) fun e a w hq => by
    cases e with
    | normal => obtain ⟨x, hx, ha, hw⟩ := hq; exact h2 x hx a w ha hw
    | _ => exact hq
theorem c_at_seam {X : Type} {R : X → Prop} {σI : X → List (Nat × Value)} {HI : X → List HE} (x : X) (hR : R x) (hp : Part (σI x) σ) (hs : Sub (HI x) H) :
    J N ds w0 W σ H (fun a w => ∃ x, R x ∧ Tm N ds (σI x) a ∧ St w0 W (HI x) w) := fun _ _ ha hw => ⟨x, hR, ha.part hp, hw.sub hs⟩
end
end Go.Proofs.Ytokoopdkofgabaa
