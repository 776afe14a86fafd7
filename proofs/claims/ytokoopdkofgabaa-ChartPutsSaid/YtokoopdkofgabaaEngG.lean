/- The engine: a guard that is known, in a drawn region. -/
import Derived.Test.YtokoopdkofgabaaEngV
namespace Go.Proofs.Ytokoopdkofgabaa
open Go.RowKit
/-- Asks whether a guard is known already (t_lit of EngV has an argument too many: it never holds). -/
theorem t_litG {F : Fence} {n : Nat} {P : Program} {N : Nat} {ds : List Deferred} {w0 : World} {W : Nat → Prop} {σ : List (Nat × Value)} {H HL : List HE} {Q : Exit → Act → World → Prop} {ops : Array Oper} {m : Nat} {rest : List Nat} {mask : List Bool} (b0 : Bool) {i j t : Nat} {o : Oper} {b : Bool} {r : List Nat} (hk : rest = i :: r) (hio : ops.toList[i]? = some o) (hg : o.guard = some (j, b)) (ht : (ops[j]?).bind (·.dst) = some t) (hv : look σ t = some (.bool b0)) (h : J N ds w0 W σ H (wpT F n P w0 W HL ops mask Q m rest)) : J N ds w0 W σ H (wpT F n P w0 W HL ops mask Q m rest) := h
end Go.Proofs.Ytokoopdkofgabaa
