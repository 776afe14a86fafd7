import Derived.Test.YtbhchphfmhmabaaGreatP33
import Derived.Test.YtbhchphfmhmabaaGreatP35
set_option maxHeartbeats 512000000
set_option maxRecDepth 4000
set_option linter.unusedVariables false
set_option linter.unusedSimpArgs false
namespace Go.Proofs.YtbhchphfmhmabaaGreat
open Go.RowKit _root_.Go.Proofs.Tryz
attribute [local irreducible] OJ J bM Code.wpIn wpListIn Oper.wpIn bodyPost CallsIn aF
instance many_cv(a n b:Int):CV prog 270 [.agg (cA a).toArray,.int .i64 n,.agg (cA b).toArray] (.bool (decide (a*n≤b))) ((0≤a∧a≤4722366482869645213696)∧(1≤n∧n≤4096)):=⟨fun ⟨ha,hn⟩ w=>by
 obtain⟨T,hT⟩:∃T,T=a*n:=⟨_,rfl⟩;have hTn:=cT (a:=a) (b:=n) (A:=4722366482869645213696) (B:=4096) ha oo;have haT:a≤T:=by rw[hT];have:=Int.mul_le_mul_of_nonneg_left hn.1 ha.1;omega
 rw[← hT]at hTn ⊢;refine aJ func270 rfl ntmps270 rfl ⟨aE,.nil⟩ (fun _=>?_);simp only[aG];refine aB;rename_i b3 b5 b7;refine cG (X:=Int×Int×Int) (fun q=>q.2.1+q.1*q.2.2=T∧(0≤q.2.1∧q.2.1≤T)∧(0≤q.1∧q.1≤2*T)∧(0≤q.2.2∧q.2.2≤4096))
  (fun q=>[(1,.int .i64 q.2.2),(3,.pointer (some ⟨b3,0,none⟩)),(5,.pointer (some ⟨b5,0,none⟩)),(7,.pointer (some ⟨b7,0,none⟩))])
  (fun q=>[.blk b3 266 (cA q.1),.blk b5 266 (cA b),.blk b7 266 (cA q.2.1)]) (fun q=>q.2.2.toNat) (a,0,n) ⟨by dsimp only;omega,by dsimp only;omega,by dsimp only;omega,by dsimp only;omega⟩ ⟨rfl,rfl,rfl,rfl,trivial⟩ (by show aA [.blk b3 266 (cA a),.blk b5 266 (cA b),.blk b7 266 [.int .i64 0,.int .u64 0]] _;exact aA.au) ?_
 rintro⟨a1,s1,n1⟩ ⟨h1,h2,h3,h4⟩;dsimp only at h1 h2 h3 h4 ⊢;rcases Int.lt_or_le 0 n1 with h|h
 ·have iA:∀w0 W H t u x y,MS prog w0 W H (.binOp .and t x y u) [.int .i64 n1,.int .i64 1] (.int .i64 (n1%2)) True:=fun _ _ _ _ _ _ _=>cD inferInstance trivial (congrArg (Value.int .i64) (aIh _ oo));have ha1:a1≤T:=by have:=Int.mul_le_mul_of_nonneg_left (show 1≤n1 by omega) h3.1;omega
  obtain⟨m,hm⟩:∃m,n1/2=m:=⟨_,rfl⟩;rcases Int.emod_two_eq n1 with hr|hr
  ·have hnm:n1=2*m:=oo;have he:a1*n1=(a1+a1)*m:=by rw[hnm,Int.add_mul,← Int.mul_assoc,Int.mul_comm a1 2,Int.mul_assoc];omega
   refine aB;all_goals first
    | (exfalso;omega)
    | exact aR (a1+a1,s1,n1/2) ⟨by dsimp only;rw[hm];omega,h2,by dsimp only;omega,by dsimp only;omega⟩ (by show (n1/2).toNat<n1.toNat;omega) ⟨rfl,rfl,rfl,rfl,trivial⟩ aA.au
  ·have hnm:n1=2*m+1:=oo;have he:a1*n1=(a1+a1)*m+a1:=by rw[hnm,Int.add_mul,Int.mul_add,← Int.mul_assoc,Int.mul_comm a1 2,Int.mul_assoc];omega
   have hp:=Int.mul_nonneg (show 0≤a1+a1 by omega) (show 0≤m by omega);refine aB;all_goals first
    | (exfalso;omega)
    | exact aR (a1+a1,s1+a1,n1/2) ⟨by dsimp only;rw[hm];omega,by dsimp only;omega,by dsimp only;omega,by dsimp only;omega⟩ (by show (n1/2).toNat<n1.toNat;omega) ⟨rfl,rfl,rfl,rfl,trivial⟩ aA.au
 ·obtain rfl:n1=0:=oo;obtain rfl:s1=T:=by rw[Int.mul_zero]at h1;omega
  refine aB;refine bK;refine⟨congrArg Value.bool ?_,rfl⟩;have:=aC4 s1 b;rw[Bool.eq_iff_iff];simp only[decide_eq_true_eq];omega⟩
theorem aT1(g:bE)(A:Option Addr)(c:Nat)(w:World)(hr:bP w (bB []) A g.p.length c 1 (aD .i64 g.p))(hg:cH g):
  aF prog 251 [.agg (aQ g A c).toArray] [] w (fun v S'=>v=.int .i64 (aCe g)∧S'=[]):=by
 have hm4:=hg.len;obtain⟨⟨⟨a1,a2⟩,⟨a3,a4⟩,a5,a6⟩,hl,hp,hs1,hs2⟩:=id hg;have hsq:=bB1 hp;have hev:aCe g=uT (fun n=>decide (bO g.p (fun i=>g.p.getD i 0) g.p.length*n≤aL g.p g.p.length*aL g.p g.p.length)) (g.p.length+1) 0 1 g.p.length:=if_neg oo;rw[hev];have hG:=aAl g A c;obtain⟨gw,gh,gx,gy,gs,p⟩:=g;dsimp only at hr a1 a2 a3 a4 a5 a6 hl hp hs1 hs2 hsq hm4 hG ⊢;dsimp only[aQ]at *;clear hg hev;refine uR func251 rfl ntmps251 rfl ⟨aE,.nil⟩ (fun n=>?_);simp only[aG];refine aB;refine bU rfl rfl rfl (fun w hw=>hG w ⟨hr.h.go hw (aC.nil _)⟩ hp oo) ?_;refine aB;rename_i b1 b4;refine lf rfl rfl rfl (S:=[]) (fun w hw ho=>aD6 ⟨gw,gh,gx,gy,gs,p⟩ A c w) ?_;rintro v S' ⟨gb,rfl,rfl⟩;refine aB;refine aBv (g:=⟨gw,gh,gx,gy,gs,p⟩) (A:=A) (c:=c) (S:=[.blk b4 266 [.int .i64 0,.int .u64 0]]) (fun i S=>S=[.blk b4 266 (cA (bO p (fun i=>p.getD i 0) i))]) rfl aC.au hr.h a1 (by dsimp only;omega) rfl ?_ ?_ ?_
 ·rintro i S1 hi hp0 rfl;have h0:p.getD i 0=0:=by have:=(hp i hi).1;dsimp only at hp0;omega
  rw[show bO p (fun i=>p.getD i 0) (i+1)=bO p (fun i=>p.getD i 0) i+p.getD i 0*p.getD i 0 from rfl,h0,Int.zero_mul,Int.add_zero]
 ·rintro lp i S1 hi hp0 rfl w1 ho;dsimp only at hi hp0;have e1:bO p (fun i=>p.getD i 0) (i+1)=bO p (fun i=>p.getD i 0) i+p.getD i 0*p.getD i 0:=rfl;have k1:=hsq i oo;have k6:=hp i hi;rw[e1];dsimp only;generalize bO p (fun i=>p.getD i 0) i=sq at *;generalize p.getD i 0=pi at *;have q1:=cT (a:=pi) (b:=pi) (A:=1073741824) (B:=1073741824) oo oo;have iM:=mulW_any pi pi;generalize pi*pi=pp at *;clear hsq hp hs1 hs2 e1 hl hG;refine uB (N:=50) ho rfl aE (fun n=>?_);simp only[over];refine aB;refine tG ?_;refine aB;refine fJ [] (0::1::2::3::4::5::6::7::8::[]) (.nil _) ?_;intro _;refine jR;all_goals (refine qO (S':=[_,.blk b4 266 (cA (sq+pp))]) aA.au ⟨rfl,_,rfl,rfl⟩)
 ·rintro d S1 rfl;dsimp only;have hQ:=hsq _ (Nat.le_refl _);have mS:=cT (a:=aL p p.length) (b:=aL p p.length) (A:=1073741824) (B:=1073741824) oo oo;generalize bO p (fun i=>p.getD i 0) p.length=sq at *;generalize aL p p.length=ss at *;obtain⟨N,hN⟩:∃N:Nat,p.length=N:=⟨_,rfl⟩;rw[hN]at hm4 hs1 ⊢;have iM:=mulW_any ss ss;generalize ss*ss=s2 at *;have hNb:(N:Int)≤4096:=oo;clear hsq hp hG;obtain⟨f,hf⟩:∃f:Int→Bool,(fun n=>decide (sq*n≤s2))=f:=⟨_,rfl⟩;have hfm:∀m,f m=decide (sq*m≤s2):=fun m=>by rw[← hf]
  have iY:=fun m=>many_cv sq m s2;rw[hf];refine aB;refine cG (X:=Nat×Int×Int×Int) (fun q=>uT f q.1 q.2.1 q.2.2.1 q.2.2.2=uT f (N+1) 0 1 N∧(q.2.2.2-q.2.2.1+1≤q.1)∧1≤q.2.2.1∧q.2.2.2≤N∧0≤q.2.2.2)
   (fun q=>[(3,.int .i64 ss),(4,.pointer (some ⟨b4,0,none⟩)),(7,.int .i64 q.2.1),(8,.int .i64 q.2.2.1),(9,.int .i64 q.2.2.2)])
   (fun _=>[.blk b4 266 (cA sq),.obj d (.deferred (some []))]) (fun q=>q.1) (N+1,0,1,(N:Int)) ⟨rfl,by dsimp only;omega,by dsimp only;omega,by dsimp only;omega,by dsimp only;omega⟩ ⟨rfl,rfl,rfl,rfl,rfl,trivial⟩ aA.au ?_
  rintro⟨k,nn,lo,hi⟩ ⟨e1,e2,e3,e4,e5⟩;dsimp only at e1 e2 e3 e4 e5 ⊢;rcases Int.lt_or_le hi lo with h|h
  ·have e6:uT f k nn lo hi=nn:=by
    cases k with
    | zero=>rfl
    | succ k=>rw[uT,if_neg oo]
   rw[← e1,e6];refine aB;refine qW (Ds:=[d]) (S':=[]) (S2:=[]) (by show aA [.obj d (.deferred (some []))] _;exact aA.au) aA.au ?_;refine cZ;exact⟨rfl,rfl⟩
  ·obtain⟨k,rfl⟩:∃k',k=k'+1:=⟨k-1,oo⟩;have e7:=hfm ((lo+hi)/2);rw[uT,if_pos h]at e1;obtain⟨m,hm⟩:∃m,(lo+hi)/2=m:=⟨_,rfl⟩;rw[hm]at e1 e7;have iY2:=iY m;rw[← e7]at iY2;have hmb:lo≤m∧m≤hi:=oo;cases hb:f m
   ·rw[hb]at iY2 e1;rw[if_neg od]at e1;refine aB;rw[hm];refine kG (0::1::2::3::4::5::[]) ?_;intro _;refine jR;all_goals exact aR (k,nn,lo,m-1) ⟨e1,by dsimp only;omega,by dsimp only;omega,by dsimp only;omega,by dsimp only;omega⟩ (by show k<k+1;omega) ⟨rfl,rfl,rfl,rfl,rfl,trivial⟩ aA.au
   ·rw[hb]at iY2 e1;rw[if_pos rfl]at e1;refine aB;rw[hm];refine kG (0::1::2::3::4::5::[]) ?_;intro _;refine jR;all_goals exact aR (k,m,m+1,hi) ⟨e1,by dsimp only;omega,by dsimp only;omega,by dsimp only;omega,by dsimp only;omega⟩ (by show k<k+1;omega) ⟨rfl,rfl,rfl,rfl,rfl,trivial⟩ aA.au
