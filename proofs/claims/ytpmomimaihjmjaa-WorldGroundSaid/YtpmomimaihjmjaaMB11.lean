import Derived.Carry
import Derived.Test.YtpmomimaihjmjaaMB10
set_option linter.unusedVariables false
set_option linter.unusedSimpArgs false
/- The way from a contract to the given statement: arguments that are structs, and rows of structs; up to eight arguments. -/
namespace Go.Proofs.Ytpmomimaihjmjaa
open Go.ChangeShapes Go.WideShapes Go.ChangeAt Go.RowKit Go.Deep Go.Joins
section
variable {H : Type} {enc : TypeId × Value → H} {P : Program} {w : World} {base : Nat} {spare : Nat → Bool} {held : Bool}
theorem trodAll_five {t0 t1 t2 t3 t4 : TypeId} {args : Array Value} {ds : List (DataW H)} {ps : List MemPlace} (h : DataW.TrodAll enc P w base spare held [t0, t1, t2, t3, t4] args.toList ds ps) :
    ∃ v0 v1 v2 v3 v4 d0 d1 d2 d3 d4 p0 p1 p2 p3 p4, args = #[v0, v1, v2, v3, v4] ∧ ds = [d0, d1, d2, d3, d4] ∧ ps = p0 ++ p1 ++ p2 ++ p3 ++ p4 ∧ DataW.Trod enc P w base spare held t0 v0 d0 p0 ∧ DataW.Trod enc P w base spare held t1 v1 d1 p1 ∧ DataW.Trod enc P w base spare held t2 v2 d2 p2 ∧ DataW.Trod enc P w base spare held t3 v3 d3 p3 ∧ DataW.Trod enc P w base spare held t4 v4 d4 p4 := by
  obtain ⟨v0, vs0, d0, ds0, p0, q0, hargs, rfl, rfl, k0, h0⟩ := trodAll_cons h
  obtain ⟨v1, vs1, d1, ds1, p1, q1, rfl, rfl, rfl, k1, h1⟩ := trodAll_cons h0
  obtain ⟨v2, vs2, d2, ds2, p2, q2, rfl, rfl, rfl, k2, h2⟩ := trodAll_cons h1
  obtain ⟨v3, vs3, d3, ds3, p3, q3, rfl, rfl, rfl, k3, h3⟩ := trodAll_cons h2
  obtain ⟨v4, vs4, d4, ds4, p4, q4, rfl, rfl, rfl, k4, h4⟩ := trodAll_cons h3
  obtain ⟨rfl, rfl, rfl⟩ := trodAll_nil h4
  exact ⟨v0, v1, v2, v3, v4, d0, d1, d2, d3, d4, p0, p1, p2, p3, p4, by cases args; simp_all, rfl, by simp, k0, k1, k2, k3, k4⟩
theorem trodAll_six {t0 t1 t2 t3 t4 t5 : TypeId} {args : Array Value} {ds : List (DataW H)} {ps : List MemPlace} (h : DataW.TrodAll enc P w base spare held [t0, t1, t2, t3, t4, t5] args.toList ds ps) :
    ∃ v0 v1 v2 v3 v4 v5 d0 d1 d2 d3 d4 d5 p0 p1 p2 p3 p4 p5, args = #[v0, v1, v2, v3, v4, v5] ∧ ds = [d0, d1, d2, d3, d4, d5] ∧ ps = p0 ++ p1 ++ p2 ++ p3 ++ p4 ++ p5 ∧ DataW.Trod enc P w base spare held t0 v0 d0 p0 ∧ DataW.Trod enc P w base spare held t1 v1 d1 p1 ∧ DataW.Trod enc P w base spare held t2 v2 d2 p2 ∧ DataW.Trod enc P w base spare held t3 v3 d3 p3 ∧ DataW.Trod enc P w base spare held t4 v4 d4 p4 ∧ DataW.Trod enc P w base spare held t5 v5 d5 p5 := by
  obtain ⟨v0, vs0, d0, ds0, p0, q0, hargs, rfl, rfl, k0, h0⟩ := trodAll_cons h
  obtain ⟨v1, vs1, d1, ds1, p1, q1, rfl, rfl, rfl, k1, h1⟩ := trodAll_cons h0
  obtain ⟨v2, vs2, d2, ds2, p2, q2, rfl, rfl, rfl, k2, h2⟩ := trodAll_cons h1
  obtain ⟨v3, vs3, d3, ds3, p3, q3, rfl, rfl, rfl, k3, h3⟩ := trodAll_cons h2
  obtain ⟨v4, vs4, d4, ds4, p4, q4, rfl, rfl, rfl, k4, h4⟩ := trodAll_cons h3
  obtain ⟨v5, vs5, d5, ds5, p5, q5, rfl, rfl, rfl, k5, h5⟩ := trodAll_cons h4
  obtain ⟨rfl, rfl, rfl⟩ := trodAll_nil h5
  exact ⟨v0, v1, v2, v3, v4, v5, d0, d1, d2, d3, d4, d5, p0, p1, p2, p3, p4, p5, by cases args; simp_all, rfl, by simp, k0, k1, k2, k3, k4, k5⟩
theorem trodAll_seven {t0 t1 t2 t3 t4 t5 t6 : TypeId} {args : Array Value} {ds : List (DataW H)} {ps : List MemPlace} (h : DataW.TrodAll enc P w base spare held [t0, t1, t2, t3, t4, t5, t6] args.toList ds ps) :
    ∃ v0 v1 v2 v3 v4 v5 v6 d0 d1 d2 d3 d4 d5 d6 p0 p1 p2 p3 p4 p5 p6, args = #[v0, v1, v2, v3, v4, v5, v6] ∧ ds = [d0, d1, d2, d3, d4, d5, d6] ∧ ps = p0 ++ p1 ++ p2 ++ p3 ++ p4 ++ p5 ++ p6 ∧ DataW.Trod enc P w base spare held t0 v0 d0 p0 ∧ DataW.Trod enc P w base spare held t1 v1 d1 p1 ∧ DataW.Trod enc P w base spare held t2 v2 d2 p2 ∧ DataW.Trod enc P w base spare held t3 v3 d3 p3 ∧ DataW.Trod enc P w base spare held t4 v4 d4 p4 ∧ DataW.Trod enc P w base spare held t5 v5 d5 p5 ∧ DataW.Trod enc P w base spare held t6 v6 d6 p6 := by
  obtain ⟨v0, vs0, d0, ds0, p0, q0, hargs, rfl, rfl, k0, h0⟩ := trodAll_cons h
  obtain ⟨v1, vs1, d1, ds1, p1, q1, rfl, rfl, rfl, k1, h1⟩ := trodAll_cons h0
  obtain ⟨v2, vs2, d2, ds2, p2, q2, rfl, rfl, rfl, k2, h2⟩ := trodAll_cons h1
  obtain ⟨v3, vs3, d3, ds3, p3, q3, rfl, rfl, rfl, k3, h3⟩ := trodAll_cons h2
  obtain ⟨v4, vs4, d4, ds4, p4, q4, rfl, rfl, rfl, k4, h4⟩ := trodAll_cons h3
  obtain ⟨v5, vs5, d5, ds5, p5, q5, rfl, rfl, rfl, k5, h5⟩ := trodAll_cons h4
  obtain ⟨v6, vs6, d6, ds6, p6, q6, rfl, rfl, rfl, k6, h6⟩ := trodAll_cons h5
  obtain ⟨rfl, rfl, rfl⟩ := trodAll_nil h6
  exact ⟨v0, v1, v2, v3, v4, v5, v6, d0, d1, d2, d3, d4, d5, d6, p0, p1, p2, p3, p4, p5, p6, by cases args; simp_all, rfl, by simp, k0, k1, k2, k3, k4, k5, k6⟩
theorem trodAll_eight {t0 t1 t2 t3 t4 t5 t6 t7 : TypeId} {args : Array Value} {ds : List (DataW H)} {ps : List MemPlace} (h : DataW.TrodAll enc P w base spare held [t0, t1, t2, t3, t4, t5, t6, t7] args.toList ds ps) :
    ∃ v0 v1 v2 v3 v4 v5 v6 v7 d0 d1 d2 d3 d4 d5 d6 d7 p0 p1 p2 p3 p4 p5 p6 p7, args = #[v0, v1, v2, v3, v4, v5, v6, v7] ∧ ds = [d0, d1, d2, d3, d4, d5, d6, d7] ∧ ps = p0 ++ p1 ++ p2 ++ p3 ++ p4 ++ p5 ++ p6 ++ p7 ∧ DataW.Trod enc P w base spare held t0 v0 d0 p0 ∧ DataW.Trod enc P w base spare held t1 v1 d1 p1 ∧ DataW.Trod enc P w base spare held t2 v2 d2 p2 ∧ DataW.Trod enc P w base spare held t3 v3 d3 p3 ∧ DataW.Trod enc P w base spare held t4 v4 d4 p4 ∧ DataW.Trod enc P w base spare held t5 v5 d5 p5 ∧ DataW.Trod enc P w base spare held t6 v6 d6 p6 ∧ DataW.Trod enc P w base spare held t7 v7 d7 p7 := by
  obtain ⟨v0, vs0, d0, ds0, p0, q0, hargs, rfl, rfl, k0, h0⟩ := trodAll_cons h
  obtain ⟨v1, vs1, d1, ds1, p1, q1, rfl, rfl, rfl, k1, h1⟩ := trodAll_cons h0
  obtain ⟨v2, vs2, d2, ds2, p2, q2, rfl, rfl, rfl, k2, h2⟩ := trodAll_cons h1
  obtain ⟨v3, vs3, d3, ds3, p3, q3, rfl, rfl, rfl, k3, h3⟩ := trodAll_cons h2
  obtain ⟨v4, vs4, d4, ds4, p4, q4, rfl, rfl, rfl, k4, h4⟩ := trodAll_cons h3
  obtain ⟨v5, vs5, d5, ds5, p5, q5, rfl, rfl, rfl, k5, h5⟩ := trodAll_cons h4
  obtain ⟨v6, vs6, d6, ds6, p6, q6, rfl, rfl, rfl, k6, h6⟩ := trodAll_cons h5
  obtain ⟨v7, vs7, d7, ds7, p7, q7, rfl, rfl, rfl, k7, h7⟩ := trodAll_cons h6
  obtain ⟨rfl, rfl, rfl⟩ := trodAll_nil h7
  exact ⟨v0, v1, v2, v3, v4, v5, v6, v7, d0, d1, d2, d3, d4, d5, d6, d7, p0, p1, p2, p3, p4, p5, p6, p7, by cases args; simp_all, rfl, by simp, k0, k1, k2, k3, k4, k5, k6, k7⟩
/-- Cells of numbers of these kinds. -/
def IsRow : List IntKind → List Value → Prop
  | [], cs => cs = []
  | k :: ks, cs => ∃ n r, cs = .int k n :: r ∧ InR k n ∧ IsRow ks r
theorem IsRow.len : ∀ {ks : List IntKind} {cs : List Value}, IsRow ks cs → cs.length = ks.length
  | [], _, h => by rw [show _ = [] from h]; rfl
  | k :: ks, _, ⟨n, r, e, _, h⟩ => by rw [e]; simp [h.len]
theorem IsRow.app : ∀ {ks ls : List IntKind} {cs ds : List Value}, IsRow ks cs → IsRow ls ds → IsRow (ks ++ ls) (cs ++ ds)
  | [], _, _, _, h, g => by rw [show _ = [] from h]; simpa using g
  | k :: ks, _, _, _, ⟨n, r, e, hn, h⟩, g => ⟨n, r ++ _, by rw [e]; rfl, hn, h.app g⟩
/-- A type whose cells are numbers of these kinds. -/
structure CellsT (P : Program) (t : TypeId) (ks : List IntKind) : Prop where
  len : P.cellsOf t = ks.length
  h : ∀ {H : Type} {enc : TypeId × Value → H} {w : World} {base : Nat} {spare : Nat → Bool} {held : Bool} {fuel : Nat} {cs : List Value} {x : DataW H × List MemPlace}, DataW.trod enc P w base spare held fuel t cs = some x → IsRow ks cs
theorem cells_int {t : TypeId} {k : IntKind} (ht : P.underlying t = some (.int k)) (hc : P.cellsOf t = 1) : CellsT P t [k] := ⟨hc, fun h => by
  obtain ⟨n, rfl, -, hwf⟩ := DataW.trod_int ht h
  exact ⟨n, [], rfl, wf_in hwf, rfl⟩⟩
def FieldsOk (P : Program) : List Field → Nat → List (List IntKind) → Prop
  | [], _, kss => kss = []
  | f :: fs, off, kss => ∃ ks r, kss = ks :: r ∧ f.offset = off ∧ CellsT P f.type ks ∧ FieldsOk P fs (off + ks.length) r
theorem fields_row {cs : List Value} : ∀ (fs : List Field) (off : Nat) (kss : List (List IntKind)), FieldsOk P fs off kss → off + kss.flatten.length ≤ cs.length →
    (∀ f ∈ fs, ∃ (n : Nat) (x : DataW H × List MemPlace), DataW.trod enc P w base spare held n f.type ((cs.drop f.offset).take (P.cellsOf f.type)) = some x) → IsRow kss.flatten ((cs.drop off).take kss.flatten.length)
  | [], off, kss, h, _, _ => by rw [show kss = [] from h]; simp [IsRow]
  | f :: fs, off, _, ⟨ks, r, rfl, ho, hk, hr⟩, hl, hf => by
    obtain ⟨n, x, hx⟩ := hf f (List.mem_cons_self ..)
    have h1 := hk.h hx
    rw [ho, hk.len] at h1
    rw [List.flatten_cons, List.length_append] at hl ⊢
    have h2 := fields_row fs (off + ks.length) r hr (by omega) (fun g hg => hf g (List.mem_cons_of_mem _ hg))
    have e : (cs.drop off).take (ks.length + r.flatten.length) = (cs.drop off).take ks.length ++ (cs.drop (off + ks.length)).take r.flatten.length := by
      rw [List.take_add, List.drop_drop]
    rw [e]
    exact h1.app h2
theorem cells_struct {t : TypeId} {fs : Array Field} (kss : List (List IntKind)) (ht : P.underlying t = some (.struct fs)) (hf : FieldsOk P fs.toList 0 kss) (hc : P.cellsOf t = kss.flatten.length) : CellsT P t kss.flatten := ⟨hc, fun {H enc w base spare held fuel cs x} h => by
  obtain ⟨xs, n, -, -, hl, hxl, hat⟩ := DataW.trod_struct ht h
  have := fields_row (enc := enc) (w := w) (base := base) (spare := spare) (held := held) (cs := cs) fs.toList 0 kss hf (by omega) (fun f hf => by
    obtain ⟨i, hi, rfl⟩ := List.getElem_of_mem hf
    have hi' : i < fs.size := by simpa using hi
    have h1 := hat i fs[i] (Array.getElem?_eq_getElem hi')
    rw [List.getElem?_eq_getElem (by omega : i < xs.length)] at h1
    exact ⟨n, _, by simpa using h1⟩)
  rw [List.drop_zero, List.take_of_length_le (by omega)] at this
  exact this⟩
theorem gate_row {r : Reach} {b0 : Nat} {t : TypeId} {fs : Array Field} {ks : List IntKind} {v : Value} {d : DataW H} {ps : List MemPlace} (ht : P.underlying t = some (.struct fs)) (hk : CellsT P t ks) (hv : Value.okWide P w r b0 t v) (h : DataW.Trod enc P w base spare held t v d ps) :
    ∃ cs : List Value, v = .agg cs.toArray ∧ IsRow ks cs := by
  obtain ⟨cs, rfl, hsz⟩ := okWide_struct ht hv
  obtain ⟨fuel, hf⟩ := h
  exact ⟨cs.toList, by simp, hk.h hf⟩
theorem list_ofP {α : Type} {Q : Nat → α → Prop} {n : Nat} (h : ∀ i, i < n → ∃ f, Q i f) : ∃ l : List α, l.length = n ∧ ∀ i f, l[i]? = some f → Q i f := by
  induction n with
  | zero => exact ⟨[], rfl, by simp⟩
  | succ n ih =>
    obtain ⟨l, hl, hp⟩ := ih (fun i hi => h i (by omega))
    obtain ⟨f, hf⟩ := h n (by omega)
    refine ⟨l ++ [f], by simp [hl], fun i g hg => ?_⟩
    by_cases hi : i < l.length
    · rw [List.getElem?_append_left hi] at hg; exact hp i g hg
    · have hb : i < (l ++ [f]).length := (List.getElem?_eq_some_iff.1 hg).1
      have : i = l.length := by simp at hb; omega
      subst this
      simp at hg; subst hg; rw [hl]; exact hf
theorem gate_rows {α : Type} [Inhabited α] {en : α → List Value} {s : Nat} [hR : RowE en s] {ok : α → Prop} {r : Reach} {b0 : Nat} {t e : TypeId} {ks : List IntKind} {v : Value} {d : DataW H} {ps : List MemPlace} (ht : P.underlying t = some (.slice e)) (hk : CellsT P e ks) (hs : ks.length = s)
    (hun : ∀ cs, IsRow ks cs → ∃ a, ok a ∧ en a = cs) (hv : Value.okWide P w r b0 t v) (h : DataW.Trod enc P w 0 (fun _ => true) true t v d ps) :
    ∃ (A : Option Addr) (c : Nat) (l : List α), v = .slice A l.length c ∧ RoA w (blocks []) A l.length c s (flat en l) ∧ ∀ x ∈ l, ok x := by
  obtain ⟨a0, len, cap, rfl⟩ := okWide_slice ht hv
  obtain ⟨fuel, hf⟩ := h
  have hf' : DataW.trod enc P w 0 (fun _ => true) true fuel t [.slice a0 len cap] = some (d, ps) := by simpa [Value.cells] using hf
  rcases open_slice ht hf' with ⟨hcs, -⟩ | ⟨a, len', cap', m, n, D, Pl, hcs, hb, hl, hm, hmm, hx, hi⟩
  · simp at hcs
    obtain ⟨rfl, rfl, rfl⟩ := hcs
    exact ⟨none, 0, [], rfl, ⟨Ro.nil _ _ _⟩, by simp⟩
  · simp at hcs hmm
    obtain ⟨rfl, rfl, rfl⟩ := hcs
    subst hmm
    have hel : ∀ i, i < len → ∃ f : α, ok f ∧ ∀ k u, (en f)[k]? = some u → w.cell? (a.add (i * s + k)) = some u := by
      intro i hil
      obtain ⟨cs', hc, ht'⟩ := hi i (by omega)
      obtain ⟨f, hok, he⟩ := hun cs' (hk.h ht')
      obtain ⟨-, hcl, hat⟩ := World.cells?_some hc
      rw [hk.len, hs] at hcl hat
      refine ⟨f, hok, fun k u hu => ?_⟩
      have hks : k < s := by rw [← hR.h.1 f]; exact (List.getElem?_eq_some_iff.1 hu).1
      rw [← Go.Deep.add_add, hat k hks, ← he]; exact hu
    obtain ⟨l, rfl, hp⟩ := list_ofP hel
    refine ⟨some a, _, l, rfl, ⟨some a, _, rfl, hl, hm, flat_len l, fun hn => ?_⟩, fun f hf => ?_⟩
    · obtain ⟨f0, hf0⟩ : ∃ f, l[0]? = some f := ⟨l[0], List.getElem?_eq_getElem hn⟩
      obtain ⟨u0, hu0⟩ : ∃ u, (en f0)[0]? = some u := ⟨(en f0)[0]'(by rw [hR.h.1]; exact hR.h.2), List.getElem?_eq_getElem _⟩
      have hc0 := (hp 0 f0 hf0).2 0 _ hu0
      obtain ⟨b, off, spot⟩ := a
      have hspot : spot = none := by simpa [Addr.add] using World.cell?_spot hc0
      subst hspot
      have hblt : b < w.heap.size := by
        rcases Nat.lt_or_ge b w.heap.size with hlt | hge
        · exact hlt
        · rw [add_none] at hc0; simp [World.cell?, Array.getElem?_eq_none hge] at hc0
      refine ⟨b, off, rfl, hblt, (by rintro ⟨x, hx, _⟩; cases hx), fun j u hu => ?_⟩
      have hjl : j < l.length * s := by rw [← flat_len (e := en) l]; exact (List.getElem?_eq_some_iff.1 hu).1
      have hpos := hR.h.2
      have hi2 : j / s < l.length := Nat.div_lt_of_lt_mul (by rw [Nat.mul_comm]; exact hjl)
      have hj : j / s * s + j % s = j := by rw [Nat.mul_comm]; exact Nat.div_add_mod j s
      have h1 := flat_at (e := en) l (j / s) (j % s) hi2 (Nat.mod_lt _ hpos)
      rw [hj, hu] at h1
      have hge : l[j / s]? = some (l.getD (j / s) default) := by rw [List.getD_eq_getElem?_getD, List.getElem?_eq_getElem hi2]; rfl
      have := (hp _ _ hge).2 _ u h1.symm
      rw [hj, add_none] at this
      exact this
    · obtain ⟨i, hi', rfl⟩ := List.getElem_of_mem hf
      exact (hp i _ (List.getElem?_eq_getElem hi')).1
end
theorem cells_i64 : CellsT Try.prog 2 [.i64] := cells_int Try.underlying2 (by kernel_rfl)
theorem cells_in : CellsT Try.prog 3 [.i64] := cells_int Try.underlying3 (by kernel_rfl)
theorem cells_u16 : CellsT Try.prog 30 [.u16] := cells_int Try.underlying30 (by kernel_rfl)
theorem cells_u32 : CellsT Try.prog 67 [.u32] := cells_int Try.underlying67 (by kernel_rfl)
theorem cells_i32 : CellsT Try.prog 21 [.i32] := cells_int Try.underlying21 (by kernel_rfl)
theorem cells_spot : CellsT Try.prog 61 [.i64, .i64] := cells_struct [[.i64], [.i64]] Try.underlying61 ⟨_, _, rfl, rfl, cells_i64, _, _, rfl, rfl, cells_i64, rfl⟩ (by kernel_rfl)
theorem cells_rules : CellsT Try.prog 116 [.u32, .i64, .i64, .i64] := cells_struct [[.u32], [.i64], [.i64], [.i64]] Try.underlying116 ⟨_, _, rfl, rfl, cells_u32, _, _, rfl, rfl, cells_i64, _, _, rfl, rfl, cells_in, _, _, rfl, rfl, cells_i64, rfl⟩ (by kernel_rfl)
theorem cells_frame : CellsT Try.prog 83 [.i64, .u16, .u32, .i32, .i32, .i32] := cells_struct [[.i64], [.u16], [.u32], [.i32], [.i32], [.i32]] Try.underlying83 ⟨_, _, rfl, rfl, cells_in, _, _, rfl, rfl, cells_u16, _, _, rfl, rfl, cells_u32, _, _, rfl, rfl, cells_i32, _, _, rfl, rfl, cells_i32, _, _, rfl, rfl, cells_i32, rfl⟩ (by kernel_rfl)
def Frm.ok (f : Frm) : Prop := InR .i64 f.kind ∧ InR .u16 f.seq ∧ InR .u32 f.time ∧ InR .i32 f.a ∧ InR .i32 f.b ∧ InR .i32 f.c
theorem un_spot : ∀ cs, IsRow [.i64, .i64] cs → ∃ a : Int × Int, (InR .i64 a.1 ∧ InR .i64 a.2) ∧ spotE a = cs := by
  rintro _ ⟨x, _, rfl, hx, y, _, rfl, hy, rfl⟩
  exact ⟨(x, y), ⟨hx, hy⟩, rfl⟩
theorem un_frame : ∀ cs, IsRow [.i64, .u16, .u32, .i32, .i32, .i32] cs → ∃ a : Frm, a.ok ∧ frmE a = cs := by
  rintro _ ⟨x0, _, rfl, h0, x1, _, rfl, h1, x2, _, rfl, h2, x3, _, rfl, h3, x4, _, rfl, h4, x5, _, rfl, h5, rfl⟩
  exact ⟨⟨x0, x1, x2, x3, x4, x5⟩, ⟨h0, h1, h2, h3, h4, h5⟩, rfl⟩
end Go.Proofs.Ytpmomimaihjmjaa
