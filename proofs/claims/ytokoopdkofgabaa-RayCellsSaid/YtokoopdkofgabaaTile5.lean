/- Package tile: cutting and laying. -/
import Derived.Test.YtokoopdkofgabaaTile4
namespace Go.Proofs.Ytokoopdkofgabaa
open Go.RowKit
instance : YesAgg (Try.t49.desc) := ⟨by kernel_rfl⟩
attribute [local irreducible] OJ J HdJ Code.wpIn wpListIn Oper.wpIn bodyPost CallsIn Does
set_option maxRecDepth 4000
end Go.Proofs.Ytokoopdkofgabaa
