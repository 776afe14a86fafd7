/- The way from a contract to the given statement: arguments that are structs, and rows of structs; up to eight arguments. -/
import Derived.Test.YtokoopdkofgabaaGate
import Derived.Test.YtokoopdkofgabaaEngR
import Derived.Carry
namespace Go.Proofs.Ytokoopdkofgabaa
open Go.ChangeShapes Go.WideShapes Go.ChangeAt Go.RowKit Go.Deep Go.Joins
section
variable {H : Type} {enc : TypeId × Value → H} {P : Program} {w : World} {base : Nat} {spare : Nat → Bool} {held : Bool}
/-- Cells of numbers of these kinds. -/
def IsRow : List IntKind → List Value → Prop
  | [], cs => cs = []
  | k :: ks, cs => ∃ n r, cs = .int k n :: r ∧ InR k n ∧ IsRow ks r
theorem IsRow.app : ∀ {ks ls : List IntKind} {cs ds : List Value}, IsRow ks cs → IsRow ls ds → IsRow (ks ++ ls) (cs ++ ds)
  | [], _, _, _, h, g => by rw [show _ = [] from h]; simpa using g
  | k :: ks, _, _, _, ⟨n, r, e, hn, h⟩, g => ⟨n, r ++ _, by rw [e]; rfl, hn, h.app g⟩
/-- A type whose cells are numbers of these kinds. -/
structure CellsT (P : Program) (t : TypeId) (ks : List IntKind) : Prop where
  len : P.cellsOf t = ks.length
  h : ∀ {H : Type} {enc : TypeId × Value → H} {w : World} {base : Nat} {spare : Nat → Bool} {held : Bool} {fuel : Nat} {cs : List Value} {x : DataW H × List MemPlace}, DataW.trod enc P w base spare held fuel t cs = some x → IsRow ks cs
theorem cells_int {t : TypeId} {k : IntKind} (ht : P.underlying t = some (.int k)) (hc : P.cellsOf t = 1) : CellsT P t [k] := ⟨hc, fun h => by
  obtain ⟨n, rfl, -, hwf⟩ := DataW.trod_int ht h
  exact ⟨n, [], rfl, wf_in hwf, rfl⟩⟩
def FieldsOk (P : Program) : List Field → Nat → List (List IntKind) → Prop
  | [], _, kss => kss = []
  | f :: fs, off, kss => ∃ ks r, kss = ks :: r ∧ f.offset = off ∧ CellsT P f.type ks ∧ FieldsOk P fs (off + ks.length) r
theorem fields_row {cs : List Value} : ∀ (fs : List Field) (off : Nat) (kss : List (List IntKind)), FieldsOk P fs off kss → off + kss.flatten.length ≤ cs.length →
    (∀ f ∈ fs, ∃ (n : Nat) (x : DataW H × List MemPlace), DataW.trod enc P w base spare held n f.type ((cs.drop f.offset).take (P.cellsOf f.type)) = some x) → IsRow kss.flatten ((cs.drop off).take kss.flatten.length)
  | [], off, kss, h, _, _ => by rw [show kss = [] from h]; simp [IsRow]
  | f :: fs, off, _, ⟨ks, r, rfl, ho, hk, hr⟩, hl, hf => by
    obtain ⟨n, x, hx⟩ := hf f (List.mem_cons_self ..)
    have h1 := hk.h hx
    rw [ho, hk.len] at h1
    rw [List.flatten_cons, List.length_append] at hl ⊢
    have h2 := fields_row fs (off + ks.length) r hr (by omega) (fun g hg => hf g (List.mem_cons_of_mem _ hg))
    have e : (cs.drop off).take (ks.length + r.flatten.length) = (cs.drop off).take ks.length ++ (cs.drop (off + ks.length)).take r.flatten.length := by
      rw [List.take_add, List.drop_drop]
    rw [e]
    exact h1.app h2
theorem cells_struct {t : TypeId} {fs : Array Field} (kss : List (List IntKind)) (ht : P.underlying t = some (.struct fs)) (hf : FieldsOk P fs.toList 0 kss) (hc : P.cellsOf t = kss.flatten.length) : CellsT P t kss.flatten := ⟨hc, fun {H enc w base spare held fuel cs x} h => by
  obtain ⟨xs, n, -, -, hl, hxl, hat⟩ := DataW.trod_struct ht h
  have := fields_row (enc := enc) (w := w) (base := base) (spare := spare) (held := held) (cs := cs) fs.toList 0 kss hf (by omega) (fun f hf => by
    obtain ⟨i, hi, rfl⟩ := List.getElem_of_mem hf
    have hi' : i < fs.size := by simpa using hi
    have h1 := hat i fs[i] (Array.getElem?_eq_getElem hi')
    rw [List.getElem?_eq_getElem (by omega : i < xs.length)] at h1
    exact ⟨n, _, by simpa using h1⟩)
  rw [List.drop_zero, List.take_of_length_le (by omega)] at this
  exact this⟩
theorem gate_row {r : Reach} {b0 : Nat} {t : TypeId} {fs : Array Field} {ks : List IntKind} {v : Value} {d : DataW H} {ps : List MemPlace} (ht : P.underlying t = some (.struct fs)) (hk : CellsT P t ks) (hv : Value.okWide P w r b0 t v) (h : DataW.Trod enc P w base spare held t v d ps) :
    ∃ cs : List Value, v = .agg cs.toArray ∧ IsRow ks cs := by
  obtain ⟨cs, rfl, hsz⟩ := okWide_struct ht hv
  obtain ⟨fuel, hf⟩ := h
  exact ⟨cs.toList, by simp, hk.h hf⟩
end
theorem cells_i64 : CellsT Try.prog 2 [.i64] := cells_int Try.underlying2 (by kernel_rfl)
theorem cells_spot : CellsT Try.prog 63 [.i64, .i64] := cells_struct [[.i64], [.i64]] Try.underlying63 ⟨_, _, rfl, rfl, cells_i64, _, _, rfl, rfl, cells_i64, rfl⟩ (by kernel_rfl)
end Go.Proofs.Ytokoopdkofgabaa
