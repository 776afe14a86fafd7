/- The engine: made slices, parts of slices, copies. -/
import Derived.Test.YtokoopdkofgabaaEngX
import Derived.Laws.MakeOwn
import Derived.Laws.Slices
namespace Go.Proofs.Ytokoopdkofgabaa
open Go.RowKit
section
variable {P : Program} {w0 : World} {W : Nat → Prop} {H : List HE}
/-- Where a part of a slice begins. -/
def subA (A : Option Addr) (l c s : Nat) : Option Addr := if c = l then A else A.map (·.add (l * s))
theorem run_part {w : World} {t e sz bs : Nat} {z : Value} [Und P t (.slice e)] [hI : Inf P e sz bs z] {A : Option Addr} {m c : Nat} (lo hi : Option Value) (l h : Nat)
    (hb : (Instr.sliceBounds true m c lo hi none).run P w = .ok (l, h, c) w) : (Instr.slice t (.slice A m c) lo hi none).run P w = .ok (.slice (subA A l c sz) (h - l) (c - l)) w := by
  obtain ⟨i, e1, -, e2, -⟩ := hI.h
  have ht := Und.h (P := P) (t := t)
  simp only [Instr.slice, Sem.run_bind, run_underlying ht, Result.andThen_ok, hb, sizeOf, typeInfo]
  simp [e1, e2, subA]
theorem elem_of {t e : TypeId} [h : Und P t (.slice e)] : P.underlying t = some (.slice (P.elem t)) := by
  have := h.h
  rw [this, Program.elem, this]
theorem run_partAt {w : World} {t e sz bs : Nat} {z : Value} [Und P t (.slice e)] [hI : Inf P e sz bs z] {A : Option Addr} {m c : Nat} (lo hi : Option Value) (l h : Nat)
    (hb : (Instr.sliceBounds true m c lo hi none).run P w = .ok (l, h, c) w) : (Instr.sliceAt t (.slice A m c) lo hi none).run P w = .ok (.slice (subA A l c sz) (h - l) (c - l)) w := by
  rw [run_sliceAt_slice w t _ _ _ _ (elem_of (e := e))]
  exact run_part (z := z) (bs := bs) lo hi l h hb
theorem bnd_h {w : World} {m c h : Nat} {k' : IntKind} (h2 : h ≤ c) : (Instr.sliceBounds true m c none (some (.int k' (h : Int))) none).run P w = .ok (0, h, c) w := by
  simp [Instr.sliceBounds, run_sliceBound, (by omega : (0 : Int) ≤ (h : Int)), h2]
instance (t e sz bs m c h : Nat) (z : Value) (k' : IntKind) (x hi : Operand) (A : Option Addr) [Und P t (.slice e)] [Inf P e sz bs z] : MS P w0 W H (.slice t x none (some hi) none) [.slice A m c, .int k' (h : Int)] (.slice (subA A 0 c sz) (h - 0) (c - 0)) (h ≤ c) :=
  ⟨fun hc _ _ _ _ _ _ _ _ _ _ _ _ _ h1 h2 h3 => o_val (by simp) rfl h2 (fun a w ha hw => by
    obtain ⟨p, q⟩ := vals2 h1
    simp only [execOp, Option.map_some, Option.map_none]
    rw [ha.eval p, show a.eval hi = _ from ha.eval q]
    simp only [Sem.run_bind, run_partAt (P := P) (t := t) (z := z) (bs := bs) _ _ 0 h (bnd_h hc), Result.andThen_ok, Sem.run_pure]) h3⟩

end
section
variable {F : Fence} {n : Nat} {P : Program} {N : Nat} {ds : List Deferred} {w0 : World} {W : Nat → Prop} {σ : List (Nat × Value)} {H : List HE} {Q : Exit → Act → World → Prop}
variable {ops : Array Oper} {rest : List Oper} {d : Nat} {ty : TypeId} {pos : String} {aft : Array Edge} {gd : Option (Nat × Bool)} {q : Act → World → Prop}
end
section
variable {n : Nat} {P : Program} {N : Nat} {w0 : World} {W : Nat → Prop} {σ : List (Nat × Value)} {H : List HE}
theorem j_out3 {fn : Func} {t u y : Tmp} {v x z : Value} {S' : List HE} {Rl : Value → List HE → Prop} (hres : fn.results = #[.tmp t, .tmp u, .tmp y]) (hv : look σ t = some v) (hx : look σ u = some x) (hz : look σ y = some z) (hs : Sub S' H) (hR : Rl (.tuple #[v, x, z]) S') : J N [] w0 W σ H (bodyPost P fn (fun e w' => ∃ v S', e = .returned v ∧ Rl v S' ∧ St w0 W S' w') .ret) :=
  fun a w ha hw => ⟨ha.defers, _, Go.results_tmp3 hres _ _ _, _, S', by rw [getD_of ha hv, getD_of ha hx, getD_of ha hz], hR, hw.sub hs⟩
end
end Go.Proofs.Ytokoopdkofgabaa
