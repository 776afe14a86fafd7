/- The reference's Take: the new line while it is made, slice by slice. -/
import Derived.Test.YtokoopdkofgabaaRef23F
namespace Go.Proofs.Ytokoopdkofgabaa
open Go.RowKit

def TL : TypeId := 39
def TF : TypeId := 43
def TI : TypeId := 3
def TZ : TypeId := 2

/-- Block gO holds the new line; its three rows are the call's own; below gO nothing has turned since w2. -/
structure Stg (w2 : World) (gO : Nat) (wi : World) (vL vW vZ : Value) (nL nW nZ : Nat) (xL xW xZ : List Value) : Prop where
  hO : wi.heap[gO]? = some (.cells #[vL, vW, vZ] TL (0, 0))
  old : Below gO w2 wi
  oL : wi.ownsRow (gO + 1) TF 6 vL nL xL
  oW : wi.ownsRow (gO + 1) TI 1 vW nW xW
  oZ : wi.ownsRow (gO + 1) TZ 1 vZ nZ xZ

section
variable {w2 wi w' : World} {gO : Nat} {vL vW vZ v' : Value} {nL nW nZ n' : Nat} {xL xW xZ xs' : List Value}
theorem Stg.start (w2 : World) : Stg w2 w2.heap.size (w2.alloc (.cells #[.slice none 0 0, .slice none 0 0, .slice none 0 0] TL)) (.slice none 0 0) (.slice none 0 0) (.slice none 0 0) 0 0 0 [] [] [] :=
  ⟨heap_alloc_new _ _, (Below.refl _ _).alloc (Nat.le_refl _) _, ⟨rfl, .inl ⟨rfl, rfl⟩⟩, ⟨rfl, .inl ⟨rfl, rfl⟩⟩, ⟨rfl, .inl ⟨rfl, rfl⟩⟩⟩
theorem Stg.lt (h : Stg w2 gO wi vL vW vZ nL nW nZ xL xW xZ) : gO < wi.heap.size := by
  rcases Nat.lt_or_ge gO wi.heap.size with hlt | hge
  · exact hlt
  · have := h.hO; rw [Array.getElem?_eq_none hge] at this; cases this
theorem Stg.alloc (h : Stg w2 gO wi vL vW vZ nL nW nZ xL xW xZ) (o : Obj) : Stg w2 gO (wi.alloc o) vL vW vZ nL nW nZ xL xW xZ :=
  ⟨(Below.heap_alloc _ _ _ h.lt).trans h.hO, h.old.alloc (Nat.le_of_lt h.lt) _, h.oL.alloc _, h.oW.alloc _, h.oZ.alloc _⟩
theorem Stg.cell (h : Stg w2 gO wi vL vW vZ nL nW nZ xL xW xZ) (k : Nat) : wi.cell? ⟨gO, k, none⟩ = (#[vL, vW, vZ] : Array Value)[k]? := cell_of_row _ _ _ _ _ _ h.hO
theorem Stg.frozen (h : Stg w2 gO wi vL vW vZ nL nW nZ xL xW xZ) (k : Nat) : wi.frozen? ⟨gO, k, none⟩ = false := by
  have := h.hO
  simp [World.frozen?, this]
theorem Stg.oldCell (h : Stg w2 gO wi vL vW vZ nL nW nZ xL xW xZ) {b o : Nat} (hb : b < gO) : wi.cell? ⟨b, o, none⟩ = w2.cell? ⟨b, o, none⟩ := h.old.cell (p := ⟨b, o, none⟩) hb
theorem Stg.drew (h : Stg w2 gO wi vL vW vZ nL nW nZ xL xW xZ) : Stg w2 gO wi.drew vL vW vZ nL nW nZ xL xW xZ := ⟨h.hO, h.old.drew, h.oL, h.oW, h.oZ⟩

/-- Behind an append to one of the rows: gO, and what lies below it, stand. -/
theorem Stg.mid (h : Stg w2 gO wi vL vW vZ nL nW nZ xL xW xZ) {row : Option Nat} (hg : wi.grownBy w' row) (hr : ∀ g, row = some g → gO + 1 ≤ g) :
    w'.heap[gO]? = some (.cells #[vL, vW, vZ] TL (0, 0)) ∧ Below gO w2 w' :=
  ⟨(hg.block gO h.lt (fun e => by have := hr _ e.symm; omega)).trans h.hO, h.old.grown hg (Nat.le_of_lt h.lt) (fun k hk => by have := hr k hk; omega)⟩

theorem ownBlock_not {w : World} {base : Nat} {e : TypeId} {s n : Nat} {v : Value} {xs : List Value} {g : Nat} (h : w.ownsRow base e s v n xs) (hg : g < base) : v.ownBlock = none ∨ v.ownBlock ≠ some g := by
  rcases hv : v.ownBlock with _ | k
  · exact .inl rfl
  · right; intro he; have := own_base h hv; simp at he; omega

theorem own_setCell {w : World} {base : Nat} {e : TypeId} {s n : Nat} {v : Value} {xs : List Value} {g k : Nat} (h : w.ownsRow base e s v n xs) (hg : g < base) (u : Value) : (w.setCell ⟨g, k, none⟩ u).ownsRow base e s v n xs :=
  ownsRow_setCell_below h (a := ⟨g, k, none⟩) hg u

theorem set_line {w : World} {g : Nat} {cs : Array Value} {t : TypeId} (h : w.heap[g]? = some (.cells cs t (0, 0))) (k : Nat) (u : Value) : (w.setCell ⟨g, k, none⟩ u).heap[g]? = some (.cells (cs.setIfInBounds k u) t (0, 0)) := by
  simp [World.setCell, Array.getElem?_modify, h]

theorem Stg.stepL (h : Stg w2 gO wi vL vW vZ nL nW nZ xL xW xZ) (hg : wi.grownBy w' vL.ownBlock) (ho : w'.ownsRow (gO + 1) TF 6 v' n' xs') : Stg w2 gO (w'.setCell ⟨gO, 0, none⟩ v') v' vW vZ n' nW nZ xs' xW xZ := by
  obtain ⟨m1, m2⟩ := h.mid hg (fun g e => own_base h.oL e)
  exact ⟨set_line m1 0 v', m2.setCell (p := ⟨gO, 0, none⟩) (Nat.le_refl _) _, own_setCell ho (by omega) _,
    own_setCell (h.oW.kept hg (own_ne h.oW h.oL (by decide))) (by omega) _, own_setCell (h.oZ.kept hg (own_ne h.oZ h.oL (by decide))) (by omega) _⟩
theorem Stg.stepW (h : Stg w2 gO wi vL vW vZ nL nW nZ xL xW xZ) (hg : wi.grownBy w' vW.ownBlock) (ho : w'.ownsRow (gO + 1) TI 1 v' n' xs') : Stg w2 gO (w'.setCell ⟨gO, 1, none⟩ v') vL v' vZ nL n' nZ xL xs' xZ := by
  obtain ⟨m1, m2⟩ := h.mid hg (fun g e => own_base h.oW e)
  exact ⟨set_line m1 1 v', m2.setCell (p := ⟨gO, 1, none⟩) (Nat.le_refl _) _, own_setCell (h.oL.kept hg (own_ne h.oL h.oW (by decide))) (by omega) _,
    own_setCell ho (by omega) _, own_setCell (h.oZ.kept hg (own_ne h.oZ h.oW (by decide))) (by omega) _⟩
theorem Stg.stepZ (h : Stg w2 gO wi vL vW vZ nL nW nZ xL xW xZ) (hg : wi.grownBy w' vZ.ownBlock) (ho : w'.ownsRow (gO + 1) TZ 1 v' n' xs') : Stg w2 gO (w'.setCell ⟨gO, 2, none⟩ v') vL vW v' nL nW n' xL xW xs' := by
  obtain ⟨m1, m2⟩ := h.mid hg (fun g e => own_base h.oZ e)
  exact ⟨set_line m1 2 v', m2.setCell (p := ⟨gO, 2, none⟩) (Nat.le_refl _) _, own_setCell (h.oL.kept hg (own_ne h.oL h.oZ (by decide))) (by omega) _,
    own_setCell (h.oW.kept hg (own_ne h.oW h.oZ (by decide))) (by omega) _, own_setCell ho (by omega) _⟩
end

theorem infoF : (Try.prog.info? TF).map (fun i => (i.zero, i.size, i.bytes)) = some (some (.agg #[.int .i64 0, .int .u16 0, .int .u32 0, .int .i32 0, .int .i32 0, .int .i32 0]), 6, 32) := by kernel_rfl
theorem infoI : (Try.prog.info? TI).map (fun i => (i.zero, i.size, i.bytes)) = some (some (.int .i64 0), 1, 8) := by kernel_rfl
theorem infoZ : (Try.prog.info? TZ).map (fun i => (i.zero, i.size, i.bytes)) = some (some (.int .i64 0), 1, 8) := by kernel_rfl
end Go.Proofs.Ytokoopdkofgabaa
