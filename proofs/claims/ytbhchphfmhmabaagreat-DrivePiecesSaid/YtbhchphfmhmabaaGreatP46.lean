import Derived.Test.YtbhchphfmhmabaaGreatP43
import Derived.Test.YtbhchphfmhmabaaGreatP44
set_option maxHeartbeats 512000000
set_option maxRecDepth 4000
set_option linter.unusedVariables false
set_option linter.unusedSimpArgs false
namespace Go.Proofs.YtbhchphfmhmabaaGreat
open Go.RowKit _root_.Go.Proofs.Tryz
structure jT where
 kind:Int
 gw:Int
 gh:Int
 gx:Int
 gy:Int
 gs:Int
 gA:Option Addr
 gn:Nat
 gc:Nat
 dx:Int
 dy:Int
 q:Int
 lA:Option Addr
 ln:Nat
 lc:Nat
 sk:Int
 sx:Int
 sy:Int
 sw:Int
 sh:Int
deriving Inhabited
abbrev mT:jT→List Value:=fun d=>[.int .i64 d.kind,.int .i64 d.gw,.int .i64 d.gh,.int .i64 d.gx,.int .i64 d.gy,.int .i64 d.gs,.slice d.gA d.gn d.gc,.int .i64 d.dx,.int .i64 d.dy,.int .i64 d.q,.slice d.lA d.ln d.lc,.int .i64 d.sk,.int .i64 d.sx,.int .i64 d.sy,.int .i64 d.sw,.int .i64 d.sh]
instance:oN mT 16:=⟨fun _=>rfl,od⟩
@[reducible] def bH(A:Option Addr)(c:Nat)(ds:List jT):HE:=.row (.slice A ds.length c) 212 16 ds.length (aO mT ds)
attribute [local irreducible] OJ J bM Code.wpIn wpListIn Oper.wpIn bodyPost CallsIn aF
theorem bB0(g k:Nat)(s:aK)(a:bQ)(ds:List jT)(dx dy:Int)(w:World)(hown:aZ [.blk g 133 (aH s a),bH a.Ad a.cd ds] w)(hN:cS s k)(hk:k≤16777217)(hh:fG s.mode=true)(hd:ds.length=s.deeds.length)(hr:bP w (bB [.blk g 133 (aH s a),bH a.Ad a.cd ds]) a.Ag s.g.p.length a.cg 1 (aD .i64 s.g.p)):
  aF prog 119 [.pointer (some ⟨g,0,none⟩),.int .i64 dx,.int .i64 dy] [.blk g 133 (aH s a),bH a.Ad a.cd ds] w
   (fun v S'=>v=.tuple #[]∧∃A1 c1 A2 c2 ds2,ds2.length=(qD s dx dy).deeds.length∧S'=[.row (.slice A1 (qD s dx dy).g.p.length c1) 2 1 (qD s dx dy).g.p.length (aD .i64 (qD s dx dy).g.p),.blk g 133 (aH (qD s dx dy) { a with Ag:=A1,cg:=c1,Ad:=A2,cd:=c2 }),bH A2 c2 ds2]):=by
 have i1:=gZ hN.nvl;have i2:=kO hN.nvl;have hg:=(hN.g hh).1;have hq:0≤s.cf.spread∧s.cf.spread≤85:=by have:=(qP hN.cf).2.2.2.2;omega
 obtain⟨hp1,hs1,hok⟩:=aNu hg hq dx dy;have hgm:cH (jQ s.g dx dy):=hg;have hl1:(lC (jQ s.g dx dy) s.cf.spread).p.length=(bX (lC (jQ s.g dx dy) s.cf.spread)).p.length:=by unfold bX;exact(aCz _).symm
 have hl2:=hok.len;have hl3:=hok.2.1;have hS:=fun (w:World) (hw:bP w (bB []) a.Ag s.g.p.length a.cg 1 (aD .i64 s.g.p))=>bAz (jQ s.g dx dy) a.Ag a.cg s.cf.spread w hw hgm hq;have hn1:0<(lC (jQ s.g dx dy) s.cf.spread).p.length∧(lC (jQ s.g dx dy) s.cf.spread).p.length≤4096:=oo;have hn:=fun A c w hw=>aLx (lC (jQ s.g dx dy) s.cf.spread) A c w hw hp1 hn1 hs1;have hdl:ds.length≤6*k:=by rw[hd];exact hN.dl
 have hb:=hN.b;have hbn:=hN.bn;have im:=gmove_cv s.g a.Ag a.cg dx dy;unfold qD;dsimp only;have hw1:(bX (lC (jQ s.g dx dy) s.cf.spread)).w=s.g.w:=rfl;have hw2:(bX (lC (jQ s.g dx dy) s.cf.spread)).h=s.g.h:=rfl;generalize bX (lC (jQ s.g dx dy) s.cf.spread)=ng at *;generalize lC (jQ s.g dx dy) s.cf.spread=sg at *;generalize jQ s.g dx dy=mg at *;have is:=bspread_cv s.bk (ng.w*ng.h);refine aJ func119 rfl ntmps119 rfl hown (fun _=>?_);simp only[aG];refine aB;refine lO (X:=Nat×Option Addr×Nat) (fun _=>True) (fun q=>[(0,.pointer (some ⟨g,0,none⟩)),(1,.int .i64 dx),(2,.int .i64 dy),(6,.pointer (some ⟨q.1,0,none⟩)),(7,.int .i64 0)])
  (fun q=>[.blk q.1 126 (aQ sg q.2.1 q.2.2),.row (.slice q.2.1 sg.p.length q.2.2) 2 1 sg.p.length (aD .i64 sg.p),.blk g 133 (aH s a),bH a.Ad a.cd ds]) ?_ ?_
 ·refine dM [.blk g 133 (aH s a)] [true,true,true,true,true,true,false,true,true,true,true,true,false,false,false,false,false,false,false] [6,12,13,14,15,16,17,18] aA.au rfl od bD ?_;repeat' (first|refine fN rfl rfl rfl ?_|(refine fM rfl rfl rfl ?_ ?_;(next=>first|exact trivial|omega))|refine fC ?_)
  refine fX ?_;intro _;refine cE;all_goals refine lf rfl rfl rfl (S:=[]) (fun w hw ho=>hS w ⟨hr.h.go hw (aC.nil _)⟩) ?_
  all_goals rintro v S' ⟨u,rfl,A1,c1,rfl,rfl⟩
  all_goals refine cE
  all_goals (rename_i b6;exact aR (b6,A1,c1) trivial trivial ⟨rfl,rfl,rfl,rfl,rfl,trivial⟩ (by first|exact(aA.cons (.here _ _) (aA.cons (.here _ _) (aA.cons (.here _ _) (aA.cons (.here _ _) (aA.nil _)))))|exact(aA.cons (.there _ (.here _ _)) (aA.cons (.here _ _) (aA.cons (.here _ _) (aA.cons (.here _ _) (aA.nil _)))))))
 ·rintro⟨b6,A1,c1⟩ -;obtain⟨sw,sh,sx,sy,ss,sp⟩:=sg;dsimp only[aQ]at *;refine aB;refine lf rfl rfl rfl (S:=[]) (fun w hw ho=>hn A1 c1 w ⟨Ro.row hw (aC.nil _) (by refine cF)⟩) ?_;rintro v S' ⟨u,rfl,A2,c2,rfl,rfl⟩;obtain⟨nw,nh,nx,ny,ns,np⟩:=ng;dsimp only[aQ]at *;refine aB;refine lO (X:=Unit) (fun _=>True) (fun _=>[(0,.pointer (some ⟨g,0,none⟩)),(1,.int .i64 dx),(2,.int .i64 dy)])
   (fun _=>[.row (.slice A2 np.length c2) 2 1 np.length (aD .i64 np),.blk g 133 (aH { s with g:=⟨nw,nh,nx,ny,ns,np⟩,bk:=dC s.bk s.bk.b (3*cM (nw*nh)) } { a with Ag:=A2,cg:=c2 }),bH a.Ad a.cd ds]) ?_ ?_
  ·refine dM [.blk b6 126 [.int .i64 nw,.int .i64 nh,.int .i64 nx,.int .i64 ny,.int .i64 ns,.slice A2 np.length c2]] [true,true,true,true,true,true,false,true,false,false,false,false,false,false,false,false] [6,8,9,10,11,12,13,14,15] aA.au rfl od bD ?_;repeat' (first|refine fN rfl rfl rfl ?_|(refine fM rfl rfl rfl ?_ ?_;(next=>first|exact trivial|omega))|refine fC ?_)
   refine fX ?_;intro _;refine cE;all_goals exact aR () trivial trivial ⟨rfl,rfl,rfl,trivial⟩ (aA.cons (.here _ _) (aA.cons (.there _ (.there _ (.here _ _))) (aA.cons (.there _ (.there _ (.here _ _))) (aA.nil _))))
  ·rintro _ -;have iU:tD mT [.int .i64 2,.int .i64 0,.int .i64 0,.int .i64 0,.int .i64 0,.int .i64 0,.slice none 0 0,.int .i64 dx,.int .i64 dy,.int .i64 s.cf.spread,.slice none 0 0,.int .i64 0,.int .i64 0,.int .i64 0,.int .i64 0,.int .i64 0] ⟨2,0,0,0,0,0,none,0,0,dx,dy,s.cf.spread,none,0,0,0,0,0,0,0⟩:=⟨rfl⟩;have ed:bH a.Ad a.cd ds=.row (.slice a.Ad s.deeds.length a.cd) 212 16 s.deeds.length (aO mT ds):=by rw[bH,hd]
   rw[ed];have e:(ds++[(⟨2,0,0,0,0,0,none,0,0,dx,dy,s.cf.spread,none,0,0,0,0,0,0,0⟩:jT)]).length=(s.deeds++[(⟨2,bW,dx,dy,s.cf.spread,[],⟨0,0,0,0,0⟩⟩:mM)]).length:=by rw[List.length_append,List.length_append,hd];rfl
   dsimp only[aH,vK];refine dM [] [true,true,true,true,false,true,true,true,true,true,true,false,false,false,false,false,false,false] [4,11,12,13,14,15,16,17] (.nil _) rfl od bD ?_;repeat' (first|refine fN rfl rfl rfl ?_|(refine fM rfl rfl rfl ?_ ?_;(next=>first|exact trivial|omega))|refine fC ?_)
   refine fX ?_;intro _;refine cE;all_goals rename_i A3 c3
   all_goals rw[e]
   all_goals exact nN (S':=[.row (.slice A2 np.length c2) 2 1 np.length (aD .i64 np),.blk g 133 (aH { s with g:=⟨nw,nh,nx,ny,ns,np⟩,bk:=dC s.bk s.bk.b (3*cM (nw*nh)),deeds:=s.deeds++[⟨2,bW,dx,dy,s.cf.spread,[],⟨0,0,0,0,0⟩⟩] } { a with Ag:=A2,cg:=c2,Ad:=A3,cd:=c3 }),.row (.slice A3 (s.deeds++[(⟨2,bW,dx,dy,s.cf.spread,[],⟨0,0,0,0,0⟩⟩:mM)]).length c3) 212 16 (s.deeds++[(⟨2,bW,dx,dy,s.cf.spread,[],⟨0,0,0,0,0⟩⟩:mM)]).length (aO mT (ds++[(⟨2,0,0,0,0,0,none,0,0,dx,dy,s.cf.spread,none,0,0,0,0,0,0,0⟩:jT)]))]) rfl (aA.cons (.there _ (.here _ _)) (aA.cons (.there _ (.here _ _)) (aA.cons (.there _ (.here _ _)) (aA.nil _)))) ⟨rfl,A2,c2,A3,c3,_,e,by rw[bH,e]⟩
