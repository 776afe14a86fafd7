/- Words for memory: a slice that reads as a list. -/
import Derived.Test.YtokoopdkofgabaaMem2
namespace Go.Proofs.Ytokoopdkofgabaa
open Go.RowKit

/-- The slice v, of n elements of size cells each, below block B, reads as xs. -/
def Row (w : World) (B size : Nat) (v : Value) (n : Nat) (xs : List Value) : Prop :=
  ∃ A c, v = .slice A n c ∧ n ≤ c ∧ c ≤ maxLen ∧ xs.length = n * size ∧ (0 < n → ∃ b off, A = some ⟨b, off, none⟩ ∧ b < B ∧ ∀ j u, xs[j]? = some u → w.cell? ⟨b, off + j, none⟩ = some u)

section
variable {w w' : World} {B B' size n : Nat} {v : Value} {xs : List Value}
theorem Row.nil (w : World) (B size : Nat) : Row w B size (.slice none 0 0) 0 [] := ⟨none, 0, rfl, Nat.le_refl _, by simp [maxLen], by simp, fun h => absurd h (by omega)⟩
theorem Row.keep (h : Row w B size v n xs) (hk : ∀ b o, b < B → w'.cell? ⟨b, o, none⟩ = w.cell? ⟨b, o, none⟩) : Row w' B size v n xs := by
  obtain ⟨A, c, hv, h1, h2, h3, h4⟩ := h
  exact ⟨A, c, hv, h1, h2, h3, fun hn => let ⟨b, off, hA, hb, hc⟩ := h4 hn; ⟨b, off, hA, hb, fun j u hu => (hk _ _ hb).trans (hc j u hu)⟩⟩
theorem Row.more (h : Row w B size v n xs) (hB : B ≤ B') : Row w B' size v n xs := by
  obtain ⟨A, c, hv, h1, h2, h3, h4⟩ := h
  exact ⟨A, c, hv, h1, h2, h3, fun hn => let ⟨b, off, hA, hb, hc⟩ := h4 hn; ⟨b, off, hA, by omega, hc⟩⟩
theorem Row.below (h : Row w B size v n xs) (hb : Below B w w') : Row w' B size v n xs := h.keep fun b o hp => hb.cell (p := ⟨b, o, none⟩) hp
theorem Row.drew (h : Row w B size v n xs) : Row w.drew B size v n xs := h
theorem Row.drewN (h : Row w B size v n xs) (k : Nat) : Row (w.drewN k) B size v n xs := h
theorem Row.alloc (h : Row w B size v n xs) (hB : B ≤ w.heap.size) (o : Obj) : Row (w.alloc o) B size v n xs := h.keep fun b _ hp => World.cell?_alloc_lt w o _ (Nat.lt_of_lt_of_le hp hB)
theorem Row.setCell (h : Row w B size v n xs) {p : Addr} (hB : B ≤ p.block) (u : Value) : Row (w.setCell p u) B size v n xs :=
  h.keep fun b o hq => World.cell?_setCell_other w p _ u (fun e => by have := congrArg Addr.block e; simp at this; omega)
theorem Row.setRow (h : Row w B size v n xs) {g : Nat} (hB : B ≤ g) (cs : Array Value) : Row (w.setRow g cs) B size v n xs :=
  h.keep fun b o hq => World.cell?_of_block (w := w) (a := ⟨b, o, none⟩) (setRow_other cs (show b ≠ g by omega))
theorem Row.grown {row : Option Nat} (h : Row w B size v n xs) (hg : w.grownBy w' row) (hB : B ≤ w.heap.size) (hr : ∀ g, row = some g → B ≤ g) : Row w' B size v n xs :=
  h.keep fun b o hp => World.cell?_of_block (w := w) (a := ⟨b, o, none⟩) (hg.block b (by omega) (fun e => by have := hr _ e.symm; omega))
theorem Row.of_own {base : Nat} {e : TypeId} (h : w.ownsRow base e size v n xs) : Row w w.heap.size size v n xs := by
  obtain ⟨hl, h⟩ := h
  rcases h with ⟨rfl, rfl⟩ | ⟨g, cap, cur, rfl, hb, hg, hnc, hcm, hcs, hx⟩
  · exact ⟨none, 0, rfl, Nat.le_refl _, by simp [maxLen], hl, fun h => absurd h (by omega)⟩
  · refine ⟨_, _, rfl, hnc, hcm, hl, fun _ => ⟨g, 0, rfl, ?_, fun j u hu => ?_⟩⟩
    · rcases Nat.lt_or_ge g w.heap.size with hlt | hge
      · exact hlt
      · rw [Array.getElem?_eq_none hge] at hg; cases hg
    · rw [cell_of_row w g _ cur e (0, 0) hg]
      have hj : j < n * size := by rw [← hl]; exact (List.getElem?_eq_some_iff.1 hu).1
      rw [← hx, List.getElem?_take_of_lt hj] at hu
      simpa using hu
theorem Row.len (h : Row w B size v n xs) : xs.length = n * size := by obtain ⟨_, _, _, _, _, h, _⟩ := h; exact h
end
theorem below_drewN {B : Nat} {a w : World} (h : Below B a w) (n : Nat) : Below B a (w.drewN n) := ⟨h.os, h.tape, h.output, h.size, h.block⟩

end Go.Proofs.Ytokoopdkofgabaa
