/- The engine: rules for code, and for operations that leave memory alone. -/
import Derived.Test.YtokoopdkofgabaaEng
namespace Go.Proofs.Ytokoopdkofgabaa
open Go.RowKit

/-- Whatever the activation and the world, told by these lists: Q. -/
def J (N : Nat) (ds : List Deferred) (w0 : World) (W : Nat → Prop) (σ : List (Nat × Value)) (H : List HE) (Q : Act → World → Prop) : Prop :=
  ∀ a w, Tm N ds σ a → St w0 W H w → Q a w

/-- The fence lets all in. -/
structure Wd (F : Fence) : Prop where
  fn : ∀ f, F.fn f
  depth : F.depth = none
theorem wd_wide : Wd Fence.wide := ⟨fun _ => trivial, rfl⟩
theorem Wd.round {F : Fence} (h : Wd F) (l : Nat) : Wd (F.inRound l) := ⟨h.fn, h.depth⟩

section code
variable {F : Fence} {n : Nat} {P : Program} {N : Nat} {ds : List Deferred} {w0 : World} {W : Nat → Prop} {σ : List (Nat × Value)} {H : List HE} {Q K : Exit → Act → World → Prop} {k : Act → World → Prop}

theorem c_seq {x y : Code} (h : J N ds w0 W σ H (x.wpIn F n P (Exit.then (y.wpIn F n P Q) Q))) : J N ds w0 W σ H ((Code.seq x y).wpIn F n P Q) :=
  fun a w ha hw => wpIn_seq (h a w ha hw)
theorem c_skip (h : J N ds w0 W σ H (Q .normal)) : J N ds w0 W σ H (Code.skip.wpIn F n P Q) := fun a w ha hw => wpIn_skip (h a w ha hw)
theorem c_ret (h : J N ds w0 W σ H (Q .ret)) : J N ds w0 W σ H (Code.ret.wpIn F n P Q) := fun a w ha hw => wpIn_ret (h a w ha hw)
theorem c_exit {id : Nat} (h : J N ds w0 W σ H (Q (.exit id))) : J N ds w0 W σ H ((Code.exit id).wpIn F n P Q) := fun a w ha hw => wpIn_exit (h a w ha hw)
theorem c_block {id : Nat} {c : Code} (h : J N ds w0 W σ H (c.wpIn F n P (Exit.inBlock id Q))) : J N ds w0 W σ H ((Code.block id c).wpIn F n P Q) := fun a w ha hw => wpIn_block (h a w ha hw)
theorem c_cond {c : Operand} {x y : Code} {e : Bool} (hc : ev σ c = some (.bool e)) (ht : e = true → J N ds w0 W σ H (x.wpIn F n P Q)) (hf : e = false → J N ds w0 W σ H (y.wpIn F n P Q)) :
    J N ds w0 W σ H ((Code.cond c x y).wpIn F n P Q) :=
  fun a w ha hw => wpIn_cond_split (ha.eval hc) (fun h => ht h a w ha hw) (fun h => hf h a w ha hw)
theorem c_true {c : Operand} {x y : Code} (hc : ev σ c = some (.bool true)) (ht : J N ds w0 W σ H (x.wpIn F n P Q)) : J N ds w0 W σ H ((Code.cond c x y).wpIn F n P Q) :=
  fun a w ha hw => wpIn_cond_true (ha.eval hc) (ht a w ha hw)
theorem c_false {c : Operand} {x y : Code} (hc : ev σ c = some (.bool false)) (hf : J N ds w0 W σ H (y.wpIn F n P Q)) : J N ds w0 W σ H ((Code.cond c x y).wpIn F n P Q) :=
  fun a w ha hw => wpIn_cond_false (ha.eval hc) (hf a w ha hw)
theorem c_region {id : Nat} {l : List Oper} (h : J N ds w0 W σ H (wpListIn F n P l.toArray Q l)) : J N ds w0 W σ H ((Code.region id l.toArray false).wpIn F n P Q) :=
  fun a w ha hw => wpIn_region_lit (h a w ha hw)
theorem c_then_normal (h : J N ds w0 W σ H k) : J N ds w0 W σ H (Exit.then k Q .normal) := h
theorem c_then_ret (h : J N ds w0 W σ H (Q .ret)) : J N ds w0 W σ H (Exit.then k Q .ret) := h
theorem c_then_exit {id : Nat} (h : J N ds w0 W σ H (Q (.exit id))) : J N ds w0 W σ H (Exit.then k Q (.exit id)) := h
theorem c_in_normal {id : Nat} (h : J N ds w0 W σ H (Q .normal)) : J N ds w0 W σ H (Exit.inBlock id Q .normal) := h
theorem c_in_ret {id : Nat} (h : J N ds w0 W σ H (Q .ret)) : J N ds w0 W σ H (Exit.inBlock id Q .ret) := h
theorem c_in_exit {id : Nat} (h : J N ds w0 W σ H (Q .normal)) : J N ds w0 W σ H (Exit.inBlock id Q (.exit id)) := fun a w ha hw => by
  simp only [Exit.inBlock, if_pos]; exact h a w ha hw
theorem c_in_other {id id' : Nat} (hne : Nat.beq id' id = false) (h : J N ds w0 W σ H (Q (.exit id'))) : J N ds w0 W σ H (Exit.inBlock id Q (.exit id')) := fun a w ha hw => by
  have : ¬ id' = id := fun e => by subst e; simp at hne
  simp only [Exit.inBlock, if_neg this]; exact h a w ha hw

/-- A loop: what holds at each head; a measure that each round lowers. -/
theorem c_loop {c : Code} {X : Type} (R : X → Prop) (σI : X → List (Nat × Value)) (HI : X → List HE) (μ : X → Nat) (x0 : X) (h0 : R x0) (hp : Part (σI x0) σ) (hs : Sub (HI x0) H)
    (round : ∀ x, R x → J N ds w0 W (σI x) (HI x) (c.wpIn F n P (Exit.then (fun a w => ∃ y, R y ∧ μ y < μ x ∧ Tm N ds (σI y) a ∧ St w0 W (HI y) w) Q))) :
    J N ds w0 W σ H ((Code.loop c).wpIn F n P Q) := by
  intro a w ha hw
  have key : ∀ x a w, R x → Tm N ds (σI x) a → St w0 W (HI x) w → (Code.loop c).wpIn F n P Q a w := by
      intro x a w hR ha hw
      let p : Act → World → Nat → Prop := fun a' w' k => ∃ y, μ y = k ∧ R y ∧ Tm N ds (σI y) a' ∧ St w0 W (HI y) w'
      refine wpIn_loop (fun a' w' => ∃ k, p a' w' k) (fun a' w' => leastOf (p a' w')) ⟨_, x, rfl, hR, ha, hw⟩ ?_
      rintro a1 w1 hex
      obtain ⟨⟨z, hz, hzR, hza, hzw⟩, -⟩ := leastOf_spec hex
      refine wpIn_mono (round z hzR a1 w1 hza hzw) ?_
      rintro e a2 w2 hq
      cases e with
      | normal =>
        obtain ⟨y2, h1, h2, h3, h4⟩ := hq
        have hex2 : ∃ k, p a2 w2 k := ⟨_, y2, rfl, h1, h3, h4⟩
        have := (leastOf_spec hex2).2 _ ⟨y2, rfl, h1, h3, h4⟩
        exact ⟨hex2, by omega⟩
      | _ => exact hq
  exact key x0 a w h0 (ha.part hp) (hw.sub hs)

/-- The same, the deferred calls turning from round to round. -/
theorem c_loopD {c : Code} {X : Type} (R : X → Prop) (DS : X → List Deferred) (σI : X → List (Nat × Value)) (HI : X → List HE) (μ : X → Nat) (x0 : X) (h0 : R x0) (hds : DS x0 = ds) (hp : Part (σI x0) σ) (hs : Sub (HI x0) H)
    (round : ∀ x, R x → J N (DS x) w0 W (σI x) (HI x) (c.wpIn F n P (Exit.then (fun a w => ∃ y, R y ∧ μ y < μ x ∧ Tm N (DS y) (σI y) a ∧ St w0 W (HI y) w) Q))) :
    J N ds w0 W σ H ((Code.loop c).wpIn F n P Q) := by
  subst hds
  intro a w ha hw
  have key : ∀ x a w, R x → Tm N (DS x) (σI x) a → St w0 W (HI x) w → (Code.loop c).wpIn F n P Q a w := by
      intro x a w hR ha hw
      let p : Act → World → Nat → Prop := fun a' w' k => ∃ y, μ y = k ∧ R y ∧ Tm N (DS y) (σI y) a' ∧ St w0 W (HI y) w'
      refine wpIn_loop (fun a' w' => ∃ k, p a' w' k) (fun a' w' => leastOf (p a' w')) ⟨_, x, rfl, hR, ha, hw⟩ ?_
      rintro a1 w1 hex
      obtain ⟨⟨z, hz, hzR, hza, hzw⟩, -⟩ := leastOf_spec hex
      refine wpIn_mono (round z hzR a1 w1 hza hzw) ?_
      rintro e a2 w2 hq
      cases e with
      | normal =>
        obtain ⟨y2, h1, h2, h3, h4⟩ := hq
        have hex2 : ∃ k, p a2 w2 k := ⟨_, y2, rfl, h1, h3, h4⟩
        have := (leastOf_spec hex2).2 _ ⟨y2, rfl, h1, h3, h4⟩
        exact ⟨hex2, by omega⟩
      | _ => exact hq
  exact key x0 a w h0 (ha.part hp) (hw.sub hs)
theorem c_roundD {X : Type} {R M : X → Prop} {DS : X → List Deferred} {σI : X → List (Nat × Value)} {HI : X → List HE} (y : X) (hR : R y) (hμ : M y) (hds : DS y = ds) (hp : Part (σI y) σ) (hs : Sub (HI y) H) :
    J N ds w0 W σ H (fun a w => ∃ y, R y ∧ M y ∧ Tm N (DS y) (σI y) a ∧ St w0 W (HI y) w) :=
  fun _ _ ha hw => ⟨y, hR, hμ, by rw [hds]; exact ha.part hp, hw.sub hs⟩
/-- The round's end. -/
theorem c_round {X : Type} {R M : X → Prop} {σI : X → List (Nat × Value)} {HI : X → List HE} (y : X) (hR : R y) (hμ : M y) (hp : Part (σI y) σ) (hs : Sub (HI y) H) :
    J N ds w0 W σ H (fun a w => ∃ y, R y ∧ M y ∧ Tm N ds (σI y) a ∧ St w0 W (HI y) w) :=
  fun _ _ ha hw => ⟨y, hR, hμ, ha.part hp, hw.sub hs⟩
end code
end Go.Proofs.Ytokoopdkofgabaa
