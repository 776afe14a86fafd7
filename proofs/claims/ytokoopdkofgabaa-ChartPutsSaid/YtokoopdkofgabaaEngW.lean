/- The engine: in a drawn region, an operation that only reckons may be taken first. -/
import Derived.Test.YtokoopdkofgabaaEngA
namespace Go.Proofs.Ytokoopdkofgabaa
open Go.RowKit
theorem put_comm (a : Act) (d : Nat) (v : Value) (e : Option Nat) (u : Value) (h : e ≠ some d) : (a.put e u).put (some d) v = (a.put (some d) v).put e u := by
  cases e with
  | none => rfl
  | some t =>
    simp only [Act.put]
    congr 1
    exact Array.setIfInBounds_comm _ _ (fun e => h (by rw [e]))
/-- A tree that keeps more. -/
theorem wpT_strong {F : Fence} {n : Nat} {P : Program} {w0 : World} {W : Nat → Prop} {HL : List HE} {Q : Exit → Act → World → Prop} {ops : Array Oper} {mask mask' : List Bool} (hm : ∀ i, litB ops mask' i = true → litB ops mask i = true) :
    ∀ (m : Nat) (rest : List Nat) (b : Act) (w : World), wpT F n P w0 W HL ops mask' Q m rest b w → wpT F n P w0 W HL ops mask Q m rest b w := by
  intro m
  induction m with
  | zero => intro rest b w h; exact h
  | succ m ih =>
    intro rest b w h
    refine ⟨h.1, fun j hj hr => ?_⟩
    have hwp := h.2 j hj hr
    cases hjo : ops[j]? with
    | none =>
      have hopsAt : opsAt ops [j] = [] := by simp [opsAt, hjo]
      rw [hopsAt] at hwp ⊢
      exact ⟨hwp.1.imp (hm j) id, ih _ _ _ hwp.2⟩
    | some o' =>
      have hopsAt : opsAt ops [j] = [o'] := by simp [opsAt, hjo]
      rw [hopsAt] at hwp ⊢
      have hnext : ∀ (c : Act) (w' : World), wpListIn F n P ops (nq fun _ b'' w'' => (litB ops mask' j = true ∨ St w0 W HL w'') ∧ wpT F n P w0 W HL ops mask' Q m (rest.erase j) b'' w'') [] c w' →
          wpListIn F n P ops (nq fun _ b'' w'' => (litB ops mask j = true ∨ St w0 W HL w'') ∧ wpT F n P w0 W HL ops mask Q m (rest.erase j) b'' w'') [] c w' := fun c w' hh => ⟨hh.1.imp (hm j) id, ih _ _ _ hh.2⟩
      simp only [wpListIn] at hwp ⊢
      by_cases hw : Region.wanted o' (yielded ops b.tmps) = true
      · rw [if_pos hw] at hwp ⊢
        exact ⟨hwp.1, uponIn_sim hwp.2 (fun u w' hh => hnext _ w' hh) (fun x w' hh => hnext _ w' hh)⟩
      · rw [if_neg hw] at hwp ⊢
        exact ⟨hwp.1, hnext _ w hwp.2⟩
section
variable {F : Fence} {n : Nat} {P : Program} {N : Nat} {ds : List Deferred} {w0 : World} {W : Nat → Prop} {σ : List (Nat × Value)} {H HL : List HE} {Q : Exit → Act → World → Prop} {ops : Array Oper} {mask : List Bool} {m : Nat} {rest : List Nat}
theorem lit_full {ops : Array Oper} {mask : List Bool} (k : Nat) (hk : Nat.ble ops.size k = true) (i : Nat) (h : litB ops (List.replicate k true) i = true) : litB ops mask i = true := by
  unfold litB at h ⊢
  refine List.all_eq_true.2 fun j hj => ?_
  have h1 := List.all_eq_true.1 h j hj
  have h2 : mAt (List.replicate k true) j = true := by
    unfold mAt
    have := List.mem_range.1 hj
    have := Nat.le_of_ble_eq_true hk
    rw [List.getD_eq_getElem?_getD, List.getElem?_replicate, if_pos (by omega)]
    rfl
  rw [h2] at h1
  rw [show edgeB ops i j = true by simpa using h1]
  simp
/-- What the light operations look at stays; so pure ones may be taken first. -/
theorem t_weak (k : Nat) (hk : Nat.ble ops.size k = true) (h : J N ds w0 W σ H (wpT F n P w0 W HL ops (List.replicate k true) Q m rest)) : J N ds w0 W σ H (wpT F n P w0 W HL ops mask Q m rest) :=
  fun a w ha hw => wpT_strong (fun i hi => lit_full k hk i hi) m rest a w (h a w ha hw)
end
end Go.Proofs.Ytokoopdkofgabaa
