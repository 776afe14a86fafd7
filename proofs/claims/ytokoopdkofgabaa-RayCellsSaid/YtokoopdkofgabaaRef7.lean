/- The reference's layer 7: codes and rows, by definition. -/
import Derived.Test.YtokoopdkofgabaaBits
import Derived.Test.YtokoopdkofgabaaEng8
namespace Go.Proofs.Ytokoopdkofgabaa
open Go.RowKit
attribute [local irreducible] OJ J HdJ Code.wpIn wpListIn Oper.wpIn bodyPost CallsIn Does
set_option maxRecDepth 4000
/-- A power of two. -/
def p2 (k : Nat) : Nat := 2 ^ k
end Go.Proofs.Ytokoopdkofgabaa
