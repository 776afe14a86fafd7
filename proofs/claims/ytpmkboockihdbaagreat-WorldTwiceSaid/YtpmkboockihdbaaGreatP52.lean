import Derived.Test.YtpmkboockihdbaaGreatP48
import Derived.Test.YtpmkboockihdbaaGreatP49
set_option maxHeartbeats 512000000
set_option maxRecDepth 4000
set_option linter.unusedVariables false
set_option linter.unusedSimpArgs false
namespace Go.Proofs.YtpmkboockihdbaaGreat
open Go.RowKit _root_.Go.Proofs.Tryz
attribute [local irreducible] OJ J bO Code.wpIn wpListIn Oper.wpIn bodyPost CallsIn aF
theorem aV6(g:Nat)(s:aL)(a:bR)(w:World)(hown:aZ [.blk g 173 (aI s a)] w)(hL:jS s)(hi:bF w (aV [.blk g 173 (aI s a)]) a.Ai s.ins.length a.ci 9 (aR lK s.ins))(hm:bF w (aV [.blk g 173 (aI s a)]) a.Am s.modes.length a.cm 1 (aC .i64 s.modes))(hb:s.ins.length≤100000000∧s.modes.length≤100000000):
  aF prog 32 [.pointer (some ⟨g,0,none⟩)] [.blk g 173 (aI s a)] w
   (fun v S'=>∃A1 c1 A2 c2,v=.tuple #[.slice A1 s.ins.length c1,.slice A2 s.modes.length c2]∧S'=[eC A1 c1 s.ins,eG A2 c2 s.modes,.blk g 173 (aI s a)]):=by
 have i1:=gT hL;have i2:=jU hL;refine aJ func32 rfl ntmps32 rfl hown (fun _=>?_);simp only[aG];refine aB;refine dL [.blk g 173 (aI s a)] [false,true,true,true,true,false,false,true,true,true,true,false,false,false] [0,5,6,11,12,13] aA.au rfl od bD ?_;repeat' (first|refine gB rfl rfl rfl ?_|(refine fZ rfl rfl rfl ?_ ?_;(next=>first|exact trivial|omega))|refine fO ?_)
 refine gH ?_;intro _;refine cF;all_goals first|(rename_i A1 c1 A2 c2;exact cM (S':=[eC A1 c1 s.ins,eG A2 c2 s.modes,.blk g 173 (aI s a)]) rfl rfl rfl aA.au ⟨A1,c1,A2,c2,rfl,rfl⟩)|(rename_i A2 c2 A1 c1;exact cM (S':=[eC A1 c1 s.ins,eG A2 c2 s.modes,.blk g 173 (aI s a)]) rfl rfl rfl aA.au ⟨A1,c1,A2,c2,rfl,rfl⟩)|(rename_i A1 c1 bb A2 c2;exact cM (S':=[eC A1 c1 s.ins,eG A2 c2 s.modes,.blk g 173 (aI s a)]) rfl rfl rfl aA.au ⟨A1,c1,A2,c2,rfl,rfl⟩)|(rename_i A2 c2 bb A1 c1;exact cM (S':=[eC A1 c1 s.ins,eG A2 c2 s.modes,.blk g 173 (aI s a)]) rfl rfl rfl aA.au ⟨A1,c1,A2,c2,rfl,rfl⟩)
theorem aL4(g:Nat)(s:aL)(a:bR)(w:World)(hown:aZ [.blk g 173 (aI s a)] w)(hL:jS s):
  aF prog 44 [.pointer (some ⟨g,0,none⟩)] [.blk g 173 (aI s a)] w
   (fun v S'=>v=.tuple #[.agg (if fM s.mode=true then aQ s.g a.Ag a.cg else kD).toArray,.bool (fM s.mode)]∧S'=[.blk g 173 (aI s a)]):=by
 have i1:=gT hL;have i2:=jU hL;have i3:=holds_cv s.mode;unfold fM;refine aJ func44 rfl ntmps44 rfl hown (fun _=>?_);simp only[aG];by_cases hd:s.mode=2∨s.mode=3
 ·rw[decide_eq_true hd]at i3 ⊢;refine aB;refine eD (S':=[.blk g 173 (aI s a)]) aA.au ?_;refine cY;exact⟨rfl,rfl⟩
 ·rw[decide_eq_false hd]at i3 ⊢;refine aB;refine eD (S':=[.blk g 173 (aI s a)]) aA.au ?_;refine cY;exact⟨rfl,rfl⟩
