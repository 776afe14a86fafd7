import Derived.Test.YtbhchphfmhmabaaGreatP48
import Derived.Test.YtbhchphfmhmabaaGreatP49
set_option maxHeartbeats 512000000
set_option maxRecDepth 4000
set_option linter.unusedVariables false
set_option linter.unusedSimpArgs false
namespace Go.Proofs.YtbhchphfmhmabaaGreat
open Go.RowKit _root_.Go.Proofs.Tryz
attribute [local irreducible] OJ J bM Code.wpIn wpListIn Oper.wpIn bodyPost CallsIn aF
theorem aU0(g:Nat)(s:aK)(a:bQ)(w:World)(hown:aZ [.blk g 133 (aH s a)] w)(hL:kD s):
  aF prog 77 [.pointer (some ⟨g,0,none⟩)] [.blk g 133 (aH s a)] w
   (fun v S'=>v=.tuple #[.agg (if fG s.mode=true then aQ s.g a.Ag a.cg else jY).toArray,.bool (fG s.mode)]∧S'=[.blk g 133 (aH s a)]):=by
 have i1:=gZ hL;have i2:=kO hL;have i3:=holds_cv s.mode;unfold fG;refine aJ func77 rfl ntmps77 rfl hown (fun _=>?_);simp only[aG];by_cases hd:s.mode=2∨s.mode=3
 ·rw[decide_eq_true hd]at i3 ⊢;refine aB;refine eC (S':=[.blk g 133 (aH s a)]) aA.au ?_;refine cZ;exact⟨rfl,rfl⟩
 ·rw[decide_eq_false hd]at i3 ⊢;refine aB;refine eC (S':=[.blk g 133 (aH s a)]) aA.au ?_;refine cZ;exact⟨rfl,rfl⟩
