/- The engine: a scope with labels to which nobody jumps. -/
import Derived.Test.YtokoopdkofgabaaEngW
namespace Go.Proofs.Ytokoopdkofgabaa
open Go.RowKit
theorem stepR_scope {P : Program} {b : Frame} {a : Act} {k : List Item} {cs : List Frame} {w : World} {c : Code} :
    step P (lone (b.atR a (.code (.scope c) :: k)) cs w) = .next (lone (b.atR a (.code c :: .inScope c :: k)) cs w) :=
  step_lone_go (by simp [stepG, stepG.exec, Frame.atR])
theorem stepR_inScope {P : Program} {b : Frame} {a : Act} {k : List Item} {cs : List Frame} {w : World} {c : Code} :
    step P (lone (b.atR a (.inScope c :: k)) cs w) = .next (lone (b.atR a k) cs w) :=
  step_lone_go (by simp [stepG, stepG.exec, Frame.atR])
/-- No jump leaves. -/
def sq (Q : Exit → Act → World → Prop) : Exit → Act → World → Prop
  | .goto _ => fun _ _ => False
  | e => Q e
theorem wpIn_scope {F : Fence} {n : Nat} {P : Program} {Q : Exit → Act → World → Prop} {a : Act} {w : World} {c : Code} (h : c.wpIn F n P (sq Q) a w) : (Code.scope c).wpIn F n P Q a w := by
  intro b k cs hro hb hr
  have h0 : (lone (b.atR a (.code (.scope c) :: k)) cs w).fenced P F := fenced_calm hb hr rfl
  obtain ⟨e, a₁, w₁, hq, harr⟩ := h b (.inScope c :: k) cs hro hb hr
  cases e with
  | normal => exact ⟨.normal, a₁, w₁, hq, .head h0 stepR_scope (StepsIn.trans harr (.one (fenced_calm hb hr rfl) stepR_inScope))⟩
  | exit id =>
    have hx : exitTo id (.inScope c :: k) = exitTo id k := by simp [exitTo]
    exact ⟨_, a₁, w₁, hq, fun k' hk => .head h0 stepR_scope (harr.1 k' (by rw [hx]; exact hk)),
      fun hr' hk => let ⟨k₁, h1, h2⟩ := harr.2 hr' (by rw [hx]; exact hk); ⟨k₁, h1, .head h0 stepR_scope h2⟩⟩
  | goto l => exact hq.elim
  | ret => exact ⟨_, a₁, w₁, hq, .of_steps (.one h0 stepR_scope) harr⟩
  | panic ch => exact ⟨_, a₁, w₁, hq, .of_steps (.one h0 stepR_scope) harr⟩
  | outgrown => exact ⟨_, a₁, w₁, hq, .of_steps (.one h0 stepR_scope) harr⟩
section
variable {F : Fence} {n : Nat} {P : Program} {N : Nat} {ds : List Deferred} {w0 : World} {W : Nat → Prop} {σ : List (Nat × Value)} {H : List HE} {Q : Exit → Act → World → Prop}
theorem c_scope {c : Code} (h : J N ds w0 W σ H (c.wpIn F n P (sq Q))) : J N ds w0 W σ H ((Code.scope c).wpIn F n P Q) := fun a w ha hw => wpIn_scope (h a w ha hw)
theorem c_label {l : Nat} (h : J N ds w0 W σ H (Q .normal)) : J N ds w0 W σ H ((Code.label l).wpIn F n P Q) := fun a w ha hw => wpIn_label (h a w ha hw)
end
instance {F : Fence} {n : Nat} {P : Program} {Q : Exit → Act → World → Prop} (c : Code) : CC ((Code.scope c).wpIn F n P Q) (c.wpIn F n P (sq Q)) := ⟨c_scope⟩
instance {F : Fence} {n : Nat} {P : Program} {Q : Exit → Act → World → Prop} (l : Nat) : CC ((Code.label l).wpIn F n P Q) (Q .normal) := ⟨c_label⟩
instance {Q : Exit → Act → World → Prop} : CC (sq Q .ret) (Q .ret) := ⟨fun h => h⟩
end Go.Proofs.Ytokoopdkofgabaa
