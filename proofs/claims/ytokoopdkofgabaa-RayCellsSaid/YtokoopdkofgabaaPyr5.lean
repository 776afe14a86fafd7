/- Package pyramid: what cells are together; a row of one's own made shorter; a new base for what is only read. -/
import Derived.Test.YtokoopdkofgabaaPyr4
namespace Go.Proofs.Ytokoopdkofgabaa
open Go.RowKit
def Prp (c : Cel) : Prop := 0 ≤ c.n ∧ (c.n = 0 → c = ⟨0, 0, 0⟩)
theorem prp_zero : Prp ⟨0, 0, 0⟩ := ⟨by simp, fun _ => rfl⟩
theorem prp_cell (v : Int) : Prp (cellOf v) := by unfold cellOf; split <;> simp [Prp]
theorem prp_join {a b : Cel} (ha : Prp a) (hb : Prp b) : Prp (joinC a b) := by
  unfold joinC
  obtain ⟨ha1, ha2⟩ := ha
  obtain ⟨hb1, hb2⟩ := hb
  split
  · exact ⟨ha1, ha2⟩
  split
  · exact ⟨hb1, hb2⟩
  · exact ⟨by simp only; omega, fun h => by simp only at h; omega⟩
theorem join_zero {a : Cel} (_ : Prp a) : joinC a ⟨0, 0, 0⟩ = a := by unfold joinC; simp
theorem zero_join {a : Cel} (ha : Prp a) : joinC ⟨0, 0, 0⟩ a = a := by
  unfold joinC
  split
  · rw [ha.2 (by have := ha.1; omega)]
  · rfl
theorem join_comm {a b : Cel} (ha : Prp a) (hb : Prp b) : joinC a b = joinC b a := by
  obtain ⟨ha1, ha2⟩ := ha
  obtain ⟨hb1, hb2⟩ := hb
  unfold joinC
  by_cases h1 : b.n < 1
  · have e1 := hb2 (by omega)
    subst e1
    by_cases h2 : a.n < 1
    · have e2 := ha2 (by omega)
      subst e2; rfl
    · simp [h2]
  · by_cases h2 : a.n < 1
    · have e2 := ha2 (by omega)
      subst e2
      simp [h1]
    · rw [if_neg h1, if_neg (by omega), if_neg h2, if_neg (by omega), Int.min_comm, Int.max_comm, Int.add_comm]
theorem join_assoc {a b c : Cel} (ha : Prp a) (hb : Prp b) (hc : Prp c) : joinC (joinC a b) c = joinC a (joinC b c) := by
  by_cases h3 : c.n = 0
  · rw [hc.2 h3, join_zero (prp_join ha hb), join_zero hb]
  by_cases h2 : b.n = 0
  · rw [hb.2 h2, join_zero ha, zero_join hc]
  by_cases h1 : a.n = 0
  · rw [ha.2 h1, zero_join hb, zero_join (prp_join hb hc)]
  have e1 : joinC a b = ⟨min a.lo b.lo, max a.hi b.hi, a.n + b.n⟩ := by unfold joinC; rw [if_neg (by have := hb.1; omega), if_neg h1]
  have e2 : joinC b c = ⟨min b.lo c.lo, max b.hi c.hi, b.n + c.n⟩ := by unfold joinC; rw [if_neg (by have := hc.1; omega), if_neg h2]
  rw [e1, e2]
  unfold joinC
  have := ha.1
  have := hb.1
  have := hc.1
  simp only
  rw [if_neg (by omega), if_neg (by omega), if_neg (by omega), if_neg (by omega), Int.min_assoc, Int.max_assoc, Int.add_assoc]
/-- Some cells together. -/
def agg {α : Type} (b : α → Cel) : List α → Cel
  | [] => ⟨0, 0, 0⟩
  | x :: r => joinC (b x) (agg b r)
section
variable {α : Type} {b : α → Cel} (hb : ∀ x, Prp (b x))
include hb
theorem agg_prp : ∀ l : List α, Prp (agg b l)
  | [] => prp_zero
  | x :: r => prp_join (hb x) (agg_prp r)
theorem agg_app : ∀ l r : List α, agg b (l ++ r) = joinC (agg b l) (agg b r)
  | [], r => (zero_join (agg_prp hb r)).symm
  | x :: l, r => by
    show joinC (b x) (agg b (l ++ r)) = joinC (joinC (b x) (agg b l)) (agg b r)
    rw [agg_app l r, join_assoc (hb x) (agg_prp hb l) (agg_prp hb r)]
end
theorem subA_zero (b c s : Nat) : subA (some ⟨b, 0, none⟩) 0 c s = some ⟨b, 0, none⟩ := by
  unfold subA
  split
  · rfl
  · simp [Addr.add]
section
variable {N : Nat} {ds : List Deferred} {w0 : World} {W : Nat → Prop} {σ : List (Nat × Value)} {H R : List HE} {q : Act → World → Prop}
/-- A row's room. -/
theorem j_cap {A : Option Addr} {m c e s : Nat} {xs : List Value} (hh : Has H (.row (.slice A m c) e s m xs) R) (h : m ≤ c ∧ c ≤ maxLen → J N ds w0 W σ H q) : J N ds w0 W σ H q := by
  intro a w ha hw
  have h1 : w.ownsRow 0 e s (.slice A m c) m xs := hw.own.holds _ (hh.perm.mem_iff.2 (List.mem_cons_self ..))
  refine h ?_ a w ha hw
  obtain ⟨hx, hr⟩ := h1
  rcases hr with ⟨he, hm⟩ | ⟨g, cap, cur, he, e1, e2, e3, e4, e5, e6⟩
  · injection he with f1 f2 f3
    subst f3; exact ⟨by omega, Nat.zero_le _⟩
  · injection he with f1 f2 f3
    subst f3; exact ⟨e3, e4⟩
/-- A row of one's own, made shorter. -/
theorem j_trunc {A : Option Addr} {m c e s : Nat} {xs : List Value} (k : Nat) (hh : Has H (.row (.slice A m c) e s m xs) R) (hk : k ≤ m) (h0 : 0 < m) (h : J N ds w0 W σ (.row (.slice A k c) e s k (xs.take (k * s)) :: R) q) : J N ds w0 W σ H q := by
  intro a w ha hw
  have h1 : w.ownsRow 0 e s (.slice A m c) m xs := hw.own.holds _ (hh.perm.mem_iff.2 (List.mem_cons_self ..))
  have h2 : w.ownsRow 0 e s (.slice A k c) k (xs.take (k * s)) := by
    obtain ⟨hx, hr⟩ := h1
    have hks : k * s ≤ m * s := Nat.mul_le_mul_right s hk
    refine ⟨by rw [List.length_take, hx, Nat.min_eq_left hks], ?_⟩
    rcases hr with ⟨he, hm⟩ | ⟨g, cap, cur, he, e1, e2, e3, e4, e5, e6⟩
    · omega
    · injection he with f1 f2 f3
      subst f1 f3
      refine .inr ⟨g, _, cur, rfl, e1, e2, by omega, e4, e5, ?_⟩
      rw [← e6, List.take_take, Nat.min_eq_left hks]
  refine h a w ha (hw.turn hh (y := .row (.slice A k c) e s k (xs.take (k * s))) h2 rfl rfl rfl (Nat.le_refl _) (fun _ _ _ => rfl) (.inl ?_))
  cases A <;> rfl
end
end Go.Proofs.Ytokoopdkofgabaa
