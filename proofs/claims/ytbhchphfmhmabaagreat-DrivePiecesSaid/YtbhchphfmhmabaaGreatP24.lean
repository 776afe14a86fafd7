import Derived.Test.YtbhchphfmhmabaaGreatP21
set_option maxHeartbeats 512000000
set_option maxRecDepth 4000
set_option linter.unusedVariables false
set_option linter.unusedSimpArgs false
namespace Go.Proofs.YtbhchphfmhmabaaGreat
open Go.RowKit _root_.Go.Proofs.Tryz
theorem wJ{F:Fence}{n:Nat}{P:Program}{N:Nat}{ds:List Deferred}{w0:World}{W:Nat→Prop}{σ:List (Nat×Value)}{H:List HE}{Q:Exit→Act→World→Prop}{ops:Array Oper}{rest:List Oper}{d:Nat}{ty:TypeId}{pos:String}{aft:Array Edge}{gd:Option (Nat×Bool)}[aU F]{x y:Operand}{t:TypeId}{s:ByteArray}{k:IntKind}{i:Nat}[hu:aN P t .string]
  (hw:bT ops σ ⟨some d,.index t x y,ty,pos,aft,gd⟩=some true) (hx:ev σ x=some (.string s)) (hy:ev σ y=some (.int k (i:Int))) (hs:Nat.ble 256 s.size=true) (hi:i<256) (hT:∀i:Fin 256,(i:Nat)<2^(s.data.getD i 0).toNat∧(s.data.getD i 0).toNat≤8∧((i:Nat)≠0→2^(s.data.getD i 0).toNat≤2*(i:Nat))) (hdN:Nat.blt d N=true)
  (h:∀t:Nat,i<2^t→t≤8→(i≠0→2^t≤2*i)→J N ds w0 W ((d,.int .u8 (t:Nat))::σ) H (wpListIn F n P ops Q rest)):J N ds w0 W σ H (wpListIn F n P ops Q (⟨some d,.index t x y,ty,pos,aft,gd⟩::rest)) :=
 jZ hw (dW aE rfl hdN (fun a w ha _=>by
  have hc:i<s.size:=Nat.lt_of_lt_of_le hi (Nat.le_of_ble_eq_true hs);have e:s[i]? = some (s.data.getD i 0):=by
   have h1:s[i]? = some s[i]:=by simp[getElem?_pos,hc]
   have hc':i<s.data.size:=hc;rw[h1];congr 1;show s.data[i]=_;rw[Array.getD_eq_getD_getElem?,Array.getElem?_eq_getElem hc'];rfl
  simp[execOp,ha.eval hx,ha.eval hy,Instr.index,run_underlying hu.h,asIntOf,e]) (h _ (hT ⟨i,hi⟩).1 (hT ⟨i,hi⟩).2.1 (hT ⟨i,hi⟩).2.2))
attribute [local irreducible] OJ J bM Code.wpIn wpListIn Oper.wpIn bodyPost CallsIn aF
theorem wL{x v b t:Nat}{n:Int}(h1:v<2^t)(h2:t≤8)(h3:v≠0→2^t≤2*v)(hv:v≠0)(hn:n=(b:Int)+(t:Nat))(e:v=x/2^b)(hb:b≤56):0≤n∧n≤64∧x<2^n.toNat∧2^n.toNat≤2*x:=by obtain⟨g1,g2,g3⟩:=uY h1 h2 hn e hb;refine⟨g1,g2,g3,?_⟩;have en:n.toNat=b+t:=oo;have h4:=Nat.mul_le_mul_left (2^b) (h3 hv);have h5:=Nat.mul_div_le x (2^b);rw[← e]at h5;rw[en,Nat.pow_add];have h6:2^b*(2*v)=2*(2^b*v):=Nat.mul_left_comm ..;omega
theorem aVm(x:Nat)(w:World)(hx:x<18446744073709551616)(h0:0<x):aF prog 274 [.int .u64 x] [] w (fun v S'=>∃n:Int,v=.int .i64 n∧(0≤n∧n≤64∧x<2^n.toNat∧2^n.toNat≤2*x)∧S'=[]):=by
 refine aJ func274 rfl ntmps274 rfl ⟨aE,.nil⟩ (fun n=>?_);simp only[aG];refine aB;all_goals first
  | (refine eY 21 _ rfl (v':=.int .u8 ((x/4294967296/65536/256:Nat):Int)) (congrArg (Value.int .u8) oo) ?_;refine aB;refine wJ rfl rfl rfl bD oo bD rfl fun t h1 h2 h3=>?_;refine aB;refine aM rfl rfl (.nil _) ?_;refine⟨_,rfl,?_,rfl⟩;exact wL (b:=56) h1 h2 h3 oo oo oo oo)
  | (refine eY 21 _ rfl (v':=.int .u8 ((x/4294967296/65536:Nat):Int)) (congrArg (Value.int .u8) oo) ?_;refine aB;refine wJ rfl rfl rfl bD oo bD rfl fun t h1 h2 h3=>?_;refine aB;refine aM rfl rfl (.nil _) ?_;refine⟨_,rfl,?_,rfl⟩;exact wL (b:=48) h1 h2 h3 oo oo oo oo)
  | (refine eY 21 _ rfl (v':=.int .u8 ((x/4294967296/256:Nat):Int)) (congrArg (Value.int .u8) oo) ?_;refine aB;refine wJ rfl rfl rfl bD oo bD rfl fun t h1 h2 h3=>?_;refine aB;refine aM rfl rfl (.nil _) ?_;refine⟨_,rfl,?_,rfl⟩;exact wL (b:=40) h1 h2 h3 oo oo oo oo)
  | (refine eY 21 _ rfl (v':=.int .u8 ((x/4294967296:Nat):Int)) (congrArg (Value.int .u8) oo) ?_;refine aB;refine wJ rfl rfl rfl bD oo bD rfl fun t h1 h2 h3=>?_;refine aB;refine aM rfl rfl (.nil _) ?_;refine⟨_,rfl,?_,rfl⟩;exact wL (b:=32) h1 h2 h3 oo oo oo oo)
  | (refine eY 21 _ rfl (v':=.int .u8 ((x/65536/256:Nat):Int)) (congrArg (Value.int .u8) oo) ?_;refine aB;refine wJ rfl rfl rfl bD oo bD rfl fun t h1 h2 h3=>?_;refine aB;refine aM rfl rfl (.nil _) ?_;refine⟨_,rfl,?_,rfl⟩;exact wL (b:=24) h1 h2 h3 oo oo oo oo)
  | (refine eY 21 _ rfl (v':=.int .u8 ((x/65536:Nat):Int)) (congrArg (Value.int .u8) oo) ?_;refine aB;refine wJ rfl rfl rfl bD oo bD rfl fun t h1 h2 h3=>?_;refine aB;refine aM rfl rfl (.nil _) ?_;refine⟨_,rfl,?_,rfl⟩;exact wL (b:=16) h1 h2 h3 oo oo oo oo)
  | (refine eY 21 _ rfl (v':=.int .u8 ((x/256:Nat):Int)) (congrArg (Value.int .u8) oo) ?_;refine aB;refine wJ rfl rfl rfl bD oo bD rfl fun t h1 h2 h3=>?_;refine aB;refine aM rfl rfl (.nil _) ?_;refine⟨_,rfl,?_,rfl⟩;exact wL (b:=8) h1 h2 h3 oo oo oo oo)
  | (refine eY 21 _ rfl (v':=.int .u8 ((x:Nat):Int)) (congrArg (Value.int .u8) oo) ?_;refine aB;refine wJ rfl rfl rfl bD oo bD rfl fun t h1 h2 h3=>?_;refine aB;refine aM rfl rfl (.nil _) ?_;refine⟨_,rfl,?_,rfl⟩;exact wL (b:=0) h1 h2 h3 oo oo oo oo)
  | (exfalso;omega)
theorem aVy(x:Nat)(w:World)(hx:x<18446744073709551616)(h0:0<x):aF prog 273 [.int .u64 x] [] w (fun v S'=>∃s:Nat,v=.int .i64 s∧(s≤63∧9223372036854775808≤x*2^s∧x*2^s<18446744073709551616)∧S'=[]):=by
 refine aJ func273 rfl ntmps273 rfl ⟨aE,.nil⟩ (fun n=>?_);simp only[aG];refine aB;refine lf rfl rfl rfl (S:=[]) (fun w _ ho=>aVm x w hx h0) ?_;rintro v S' ⟨m,rfl,⟨h1,h2,h3,h4⟩,rfl⟩;obtain⟨n,rfl⟩:∃n:Nat,m=n:=⟨m.toNat,oo⟩;rw[Int.toNat_natCast]at h3 h4;refine aB;have hn0:n≠0:=by rintro rfl;rw[Nat.pow_zero]at h3;omega
 refine aM rfl rfl (.nil _) ⟨64-n,congrArg (Value.int .i64) oo,⟨oo,?_,?_⟩,rfl⟩
 ·have h5:=Nat.mul_le_mul_right (2^(64-n)) h4;rw[← Nat.pow_add,show n+(64-n)=64 by omega,show (2:Nat)^64=18446744073709551616 from rfl,Nat.mul_assoc]at h5;omega
 ·have h5:=Nat.mul_lt_mul_of_pos_right h3 (Nat.two_pow_pos (64-n))
  rwa [← Nat.pow_add,show n+(64-n)=64 by omega,show (2:Nat)^64=18446744073709551616 from rfl]at h5
theorem bBz{A B A' B':Int}(h1:A=A')(h2:B=B'):sU [.int .u64 A,.int .u64 B]=Value.tuple #[.int .u64 A',.int .u64 B']:=by subst h1 h2;rfl
theorem aXc{a b s:Nat}(hb:b<2^s)(ha:a*2^s+b<18446744073709551616):bits .or .u64 ((a*2^s:Nat):Int) (b:Nat)=((a*2^s+b:Nat):Int):=by rw[bits_or_u64_nat _ _ oo oo,Nat.mul_comm];rw[Nat.two_pow_add_eq_or_of_lt hb]
theorem aHc{a s:Nat}(hs:s≤63):IntKind.u64.wrap ((a:Int)*2^(min ((s:Nat):Int).toNat IntKind.u64.bits))=((a*2^s%18446744073709551616:Nat):Int):=by rw[Int.toNat_natCast,Nat.min_eq_left (show s≤IntKind.u64.bits from (by omega:s≤64)),IntKind.wrap_u64,Int.natCast_emod,Int.natCast_mul,Int.natCast_pow];rfl
theorem aKz{u y1 y0 d Y:Nat}(hY:Y=y1*4294967296+y0)(hy1:2147483648≤y1)(hy0:y0<4294967296)(hu:u<Y)(hd:d<4294967296):
  (u*4294967296+d)/Y≤u/y1∧u=u/y1*y1+u%y1∧u%y1<y1∧(u*4294967296+d)/Y<4294967296 ∧
  (∀q r,u=q*y1+r→(u*4294967296+d)/Y≤q→4294967296≤q∨r*4294967296+d<q*y0→(u*4294967296+d)/Y≤q-1∧1≤q∧u=(q-1)*y1+(r+y1)) ∧
  (∀q r,u=q*y1+r→(u*4294967296+d)/Y≤q→4294967296≤r→(u*4294967296+d)/Y=q) ∧
  (∀q r,u=q*y1+r→(u*4294967296+d)/Y≤q→q*y0≤r*4294967296+d→(u*4294967296+d)/Y=q):=by
 subst hY;have hp:0<y1*4294967296+y0:=oo;refine⟨aV5 oo hd,?_,Nat.mod_lt _ oo,aV8 hu hd,fun q r h1 h2 h3=>?_,fun q r h1 h2 h3=>?_,fun q r h1 h2 h3=>?_⟩
 ·rw[Nat.mul_comm];exact(Nat.div_add_mod u y1).symm
 ·obtain⟨g1,g2⟩:=aV9 hp h2 (aV3 h1 hu hd h3);refine⟨g1,g2,?_⟩;rw[Nat.sub_mul,Nat.one_mul];have:=Nat.mul_le_mul_right y1 g2;rw[Nat.one_mul]at this;omega
 ·exact aL0 h2 (aL1 h1 (aV4 d h1 hu hy0 h3)) hp
 ·exact aL0 h2 (aL1 h1 h3) hp
theorem aSt(hi lo y:Nat)(w:World)(h1:0<hi)(h2:hi<y)(h3:y<18446744073709551616)(h4:lo<18446744073709551616):
  aF prog 259 [.int .u64 hi,.int .u64 lo,.int .u64 y] [] w (fun v S'=>v=.tuple #[.int .u64 (((hi*18446744073709551616+lo)/y:Nat):Int),.int .u64 (((hi*18446744073709551616+lo)%y:Nat):Int)]∧S'=[]):=by
 refine aJ func259 rfl ntmps259 rfl ⟨aE,.nil⟩ (fun n=>?_);simp only[aG];refine aB;refine lf rfl rfl rfl (S:=[]) (fun w _ ho=>aVy y w h3 oo) ?_;rintro v S' ⟨s,rfl,⟨s1,s2,s3⟩,rfl⟩;have hP:0<2^s:=Nat.two_pow_pos s;obtain⟨t1,t2⟩:=aVa (hi:=hi) (lo:=lo) s1 h4;have t3:=aV7 (hi:=hi) (lo:=lo) (s:=s);have t4:=aV6 h2 hP h4;have ktwo:=fun q1 r1=>aVb (N:=hi*18446744073709551616+lo) (y:=y) (P:=2^s) oo hP (U:=(hi*18446744073709551616+lo)*2^s/18446744073709551616) (L:=(hi*18446744073709551616+lo)*2^s%18446744073709551616) (q1:=q1) (r1:=r1) rfl rfl;obtain⟨U,hU⟩:∃U,(hi*18446744073709551616+lo)*2^s/18446744073709551616=U:=⟨_,rfl⟩;obtain⟨L,hL⟩:∃L,(hi*18446744073709551616+lo)*2^s%18446744073709551616=L:=⟨_,rfl⟩;have hL2:L<18446744073709551616:=by rw[← hL];exact Nat.mod_lt _ od
 obtain⟨Q,hQ⟩:∃Q,(hi*18446744073709551616+lo)/y=Q:=⟨_,rfl⟩;obtain⟨R,hR⟩:∃R,(hi*18446744073709551616+lo)%y=R:=⟨_,rfl⟩;rw[hU,hL,hQ,hR]at ktwo;rw[hU]at t1 t4;rw[hL]at t3;rw[hQ,hR];obtain⟨Y,hY⟩:∃Y,y*2^s=Y:=⟨_,rfl⟩;rw[hY]at s2 s3 t4 ktwo;have y1d:Y=Y/4294967296*4294967296+Y%4294967296:=oo;have hk1:=aKz (d:=L/4294967296) y1d oo oo t4 oo;obtain⟨y1,hy1⟩:∃y1,Y/4294967296=y1:=⟨_,rfl⟩;obtain⟨y0,hy0⟩:∃y0,Y%4294967296=y0:=⟨_,rfl⟩;obtain⟨u1,hu1⟩:∃u1,L/4294967296=u1:=⟨_,rfl⟩;obtain⟨u0,hu0⟩:∃u0,L%4294967296=u0:=⟨_,rfl⟩;have y1b:2147483648≤y1∧y1<4294967296:=oo;have y0b:y0<4294967296:=oo;have u1b:u1<4294967296:=oo;have u0b:u0<4294967296:=oo;have hYe:=y1d;rw[hy1,hy0]at hYe;rw[hy1,hy0,hu1]at hk1;rw[hu1,hu0]at ktwo;have hUd:=Nat.mod_lt (U*4294967296+u1) (show 0<Y by omega);have hUm:=Nat.div_add_mod (U*4294967296+u1) Y;obtain⟨Q1,hQ1⟩:∃Q1,(U*4294967296+u1)/Y=Q1:=⟨_,rfl⟩;obtain⟨R1,hR1⟩:∃R1,(U*4294967296+u1)%Y=R1:=⟨_,rfl⟩;have ktwo:=ktwo Q1 R1 hQ1.symm hR1.symm;rw[hQ1]at hk1 hUm;rw[hR1]at hUd hUm;obtain⟨k1,k2,k3,k4,k5,k6,k7⟩:=hk1;have hk2:=aKz (d:=u0) hYe y1b.1 y0b hUd u0b;have hVm:=Nat.div_add_mod (R1*4294967296+u0) Y;have hVd:=Nat.mod_lt (R1*4294967296+u0) (show 0<Y by omega);obtain⟨Q0,hQ0⟩:∃Q0,(R1*4294967296+u0)/Y=Q0:=⟨_,rfl⟩;obtain⟨R0,hR0⟩:∃R0,(R1*4294967296+u0)%Y=R0:=⟨_,rfl⟩;rw[hQ0]at hk2 hVm ktwo;rw[hR0]at hVd hVm ktwo;obtain⟨l1,l2,l3,l4,l5,l6,l7⟩:=hk2;obtain⟨B1,hB1⟩:∃B1,hi*2^s=B1:=⟨_,rfl⟩;have hB2:B1<18446744073709551616:=by
  have h0:B1≤U:=by rw[t1,hB1];exact Nat.le_add_right _ _
  omega
 have i1:∀w0 W H t u a b,MS prog w0 W H (.binOp .shl t a b u) [.int .u64 (y:Int),.int .u64 (s:Int)] (.int .u64 (Y:Int)) True:=fun _ _ _ _ _ _ _=>mI inferInstance oo (by rw[aHc s1,hY,Nat.mod_eq_of_lt s3]);have i2:∀w0 W H t u a b,MS prog w0 W H (.binOp .shl t a b u) [.int .u64 (hi:Int),.int .u64 (s:Int)] (.int .u64 (B1:Int)) True:=fun _ _ _ _ _ _ _=>mI inferInstance oo (by rw[aHc s1,hB1,Nat.mod_eq_of_lt hB2]);have i3:∀w0 W H t u a b,MS prog w0 W H (.binOp .shl t a b u) [.int .u64 (lo:Int),.int .u64 (s:Int)] (.int .u64 (L:Int)) True:=fun _ _ _ _ _ _ _=>mI inferInstance oo (by rw[aHc s1,t3]);have i4:∀w0 W H t u a b,MS prog w0 W H (.binOp .sub t a b u) [.int .u64 64,.int .u64 (s:Int)] (.int .u64 ((64-s:Nat):Int)) True:=fun _ _ _ _ _ _ _=>cD inferInstance (by show (0:Int)≤_∧_≤(18446744073709551615:Int);omega) (congrArg _ oo);have i5:∀w0 W H t u a b,MS prog w0 W H (.binOp .or t a b u) [.int .u64 (B1:Int),.int .u64 ((fL lo (64-s):Nat):Int)] (.int .u64 (U:Int)) True:=fun _ _ _ _ _ _ _=>cD inferInstance trivial (by rw[← hB1,show fL lo (64-s)=lo/2^(64-s)from rfl,aXc t2 (by rw[← t1];omega),t1]);have i6:∀w0 W H t u a b,MS prog w0 W H (.binOp .shr t a b u) [.int .u64 (Y:Int),.int .u64 32] (.int .u64 (y1:Int)) True:=fun _ _ _ _ _ _ _=>cD inferInstance od (by rw[← hy1];rfl);have i7:∀w0 W H t u a b,MS prog w0 W H (.binOp .shr t a b u) [.int .u64 (L:Int),.int .u64 32] (.int .u64 (u1:Int)) True:=fun _ _ _ _ _ _ _=>cD inferInstance od (by rw[← hu1];rfl);have i8:∀w0 W H t u a b,MS prog w0 W H (.binOp .and t a b u) [.int .u64 (Y:Int),.int .u64 4294967295] (.int .u64 (y0:Int)) True:=fun _ _ _ _ _ _ _=>cD inferInstance trivial (by rw[aA5 oo,← hy0];rfl);have i9:∀w0 W H t u a b,MS prog w0 W H (.binOp .and t a b u) [.int .u64 (L:Int),.int .u64 4294967295] (.int .u64 (u0:Int)) True:=fun _ _ _ _ _ _ _=>cD inferInstance trivial (by rw[aA5 oo,← hu0];rfl);have i10:∀w0 W H t u a b,MS prog w0 W H (.binOp .quo t a b u) [.int .u64 (U:Int),.int .u64 (y1:Int)] (.int .u64 ((U/y1:Nat):Int)) True:=fun _ _ _ _ _ _ _=>cD inferInstance ⟨oo,by show (0:Int)≤_∧_≤(18446744073709551615:Int);omega⟩ rfl;have i11:∀w0 W H t u a b,MS prog w0 W H (.binOp .quo t a b u) [.int .u64 (R1:Int),.int .u64 (y1:Int)] (.int .u64 ((R1/y1:Nat):Int)) True:=fun _ _ _ _ _ _ _=>cD inferInstance ⟨oo,by show (0:Int)≤_∧_≤(18446744073709551615:Int);omega⟩ rfl;clear hY hU hL hQ hR hQ1 hR1 hQ0 hR0 hy1 hy0 hu1 hu0 y1d t1 t2 t3;obtain⟨m1,hm1⟩:∃m1,U/y1*y1=m1:=⟨_,rfl⟩;obtain⟨m2,hm2⟩:∃m2,R1/y1*y1=m2:=⟨_,rfl⟩;have i12:∀w0 W H t u a b,MS prog w0 W H (.binOp .mul t a b u) [.int .u64 ((U/y1:Nat):Int),.int .u64 (y1:Int)] (.int .u64 (m1:Int)) True:=fun _ _ _ _ _ _ _=>cD inferInstance (by rw[← Int.natCast_mul,hm1];show (0:Int)≤_∧_≤(18446744073709551615:Int);omega) (by rw[← Int.natCast_mul,hm1]);have i13:∀w0 W H t u a b,MS prog w0 W H (.binOp .mul t a b u) [.int .u64 ((R1/y1:Nat):Int),.int .u64 (y1:Int)] (.int .u64 (m2:Int)) True:=fun _ _ _ _ _ _ _=>cD inferInstance (by rw[← Int.natCast_mul,hm2];show (0:Int)≤_∧_≤(18446744073709551615:Int);omega) (by rw[← Int.natCast_mul,hm2]);have hyy:∀q:Nat,q<4294967296→q*y0≤18446744065119617025:=fun q hq=>by have:=Nat.mul_le_mul (show q≤4294967295 by omega) (show y0≤4294967295 by omega);omega
 rw[hm1]at k2;rw[hm2]at l2;obtain⟨q1,hq1⟩:∃q1,U/y1=q1:=⟨_,rfl⟩;obtain⟨r1,hr1⟩:∃r1,U%y1=r1:=⟨_,rfl⟩;obtain⟨q2,hq2⟩:∃q2,R1/y1=q2:=⟨_,rfl⟩;obtain⟨r2,hr2⟩:∃r2,R1%y1=r2:=⟨_,rfl⟩;rw[hq1]at hm1 i10 i12 k1;rw[hq2]at hm2 i11 i13 l1;rw[hr1]at k2 k3;rw[hr2]at l2 l3;clear hq1 hr1 hq2 hr2;refine aB;refine aEm (X:=Unit) (fun _=>True) (fun _=>[(2,.int .u64 Y),(8,.int .u64 s),(9,.int .u64 y1),(10,.int .u64 y0),(11,.int .u64 U),(13,.int .u64 u1),(14,.int .u64 u0),(15,.int .u64 Q1)]) (fun _=>[]) ?_ ?_
 ·refine cG (X:=Nat×Nat) (fun q=>Q1≤q.1∧U=q.1*y1+q.2∧q.2<4294967296) (fun q=>[(2,.int .u64 Y),(8,.int .u64 s),(9,.int .u64 y1),(10,.int .u64 y0),(11,.int .u64 U),(13,.int .u64 u1),(14,.int .u64 u0),(15,.int .u64 q.1),(16,.int .u64 q.2)]) (fun _=>[]) (fun q=>q.1) (q1,r1) ⟨k1,by rw[hm1];exact k2,by show r1<_;omega⟩ ⟨rfl,rfl,rfl,rfl,rfl,rfl,rfl,rfl,congrArg (fun z=>some (Value.int .u64 z)) (show (U:Int)-(m1:Int)=(r1:Int) by omega),trivial⟩ (.nil _) ?_;rintro⟨q,r⟩ ⟨g1,g2,g3⟩;dsimp only at g1 g2 g3 ⊢;have hqU:q≤U:=by have:=Nat.mul_le_mul_left q (show 1≤y1 by omega);rw[Nat.mul_one]at this;omega
  have k5:=k5 q r g2 g1;have k7:=k7 q r g2 g1;have hpb:=hyy q;obtain⟨p,hp⟩:∃p,q*y0=p:=⟨_,rfl⟩;rw[hp]at k5 k7 hpb;rcases Nat.lt_or_ge q 4294967296 with hq|hq
  ·have hpb:=hpb hq;have ip:∀w0 W H t u a b,MS prog w0 W H (.binOp .mul t a b u) [.int .u64 (q:Int),.int .u64 (y0:Int)] (.int .u64 (p:Int)) True:=fun _ _ _ _ _ _ _=>cD inferInstance (by rw[← Int.natCast_mul,hp];show (0:Int)≤_∧_≤(18446744073709551615:Int);omega) (by rw[← Int.natCast_mul,hp]);refine aB
   ·obtain⟨e1,e2,e3⟩:=k5 (.inr oo);have e4:=k6 (q-1) (r+y1) e3 e1 oo;refine aR () trivial trivial ⟨rfl,rfl,rfl,rfl,rfl,rfl,rfl,?_,trivial⟩ (.nil _);simp[aI];omega
   ·obtain⟨e1,e2,e3⟩:=k5 (.inr oo);refine aR (q-1,r+y1) ⟨e1,e3,by show r+y1<_;omega⟩ (by show q-1<q;omega) ⟨rfl,rfl,rfl,rfl,rfl,rfl,rfl,?_,?_,trivial⟩ (.nil _)
    ·simp[aI];omega
    ·simp[aI]
   ·have e4:=k7 oo;subst e4;exact aR () trivial trivial ⟨rfl,rfl,rfl,rfl,rfl,rfl,rfl,rfl,trivial⟩ (.nil _)
  ·obtain⟨e1,e2,e3⟩:=k5 (.inl hq);have e4:=k6 (q-1) (r+y1) e3 e1;refine aB
   ·have e4:=e4 oo;refine aR () trivial trivial ⟨rfl,rfl,rfl,rfl,rfl,rfl,rfl,?_,trivial⟩ (.nil _);simp[aI];omega
   ·refine aR (q-1,r+y1) ⟨e1,e3,by show r+y1<_;omega⟩ (by show q-1<q;omega) ⟨rfl,rfl,rfl,rfl,rfl,rfl,rfl,?_,?_,trivial⟩ (.nil _)
    ·simp[aI];omega
    ·simp[aI]
 ·rintro - -;obtain⟨n1,hn1⟩:∃n1,Q1*Y=n1:=⟨_,rfl⟩;obtain⟨n0,hn0⟩:∃n0,Q0*Y=n0:=⟨_,rfl⟩;rw[Nat.mul_comm,hn1]at hUm;rw[Nat.mul_comm,hn0]at hVm;have j1:∀w0 W H t u a b,MS prog w0 W H (.binOp .mul t a b u) [.int .u64 (U:Int),.int .u64 4294967296] (.int .u64 ((U*4294967296%18446744073709551616:Nat):Int)) True:=fun _ _ _ _ _ _ _=>mI inferInstance trivial (by rw[IntKind.wrap_u64];congr 1);have j2:∀w0 W H t u a b,MS prog w0 W H (.binOp .add t a b u) [.int .u64 ((U*4294967296%18446744073709551616:Nat):Int),.int .u64 (u1:Int)] (.int .u64 (((U*4294967296+u1)%18446744073709551616:Nat):Int)) True:=fun _ _ _ _ _ _ _=>mI inferInstance trivial (by rw[IntKind.wrap_u64];congr 1;omega);have j3:∀w0 W H t u a b,MS prog w0 W H (.binOp .mul t a b u) [.int .u64 (Q1:Int),.int .u64 (Y:Int)] (.int .u64 ((n1%18446744073709551616:Nat):Int)) True:=fun _ _ _ _ _ _ _=>mI inferInstance trivial (by rw[IntKind.wrap_u64,← Int.natCast_mul,hn1];rfl);have j4:∀w0 W H t u a b,MS prog w0 W H (.binOp .sub t a b u) [.int .u64 (((U*4294967296+u1)%18446744073709551616:Nat):Int),.int .u64 ((n1%18446744073709551616:Nat):Int)] (.int .u64 (R1:Int)) True:=fun _ _ _ _ _ _ _=>mI inferInstance trivial (by rw[IntKind.wrap_u64];congr 1;omega);refine aB;refine aEm (X:=Unit) (fun _=>True) (fun _=>[(2,.int .u64 Y),(8,.int .u64 s),(14,.int .u64 u0),(15,.int .u64 Q1),(17,.int .u64 R1),(18,.int .u64 Q0)]) (fun _=>[]) ?_ ?_
  ·refine cG (X:=Nat×Nat) (fun q=>Q0≤q.1∧R1=q.1*y1+q.2∧q.2<4294967296) (fun q=>[(2,.int .u64 Y),(8,.int .u64 s),(9,.int .u64 y1),(10,.int .u64 y0),(14,.int .u64 u0),(15,.int .u64 Q1),(17,.int .u64 R1),(18,.int .u64 q.1),(16,.int .u64 q.2)]) (fun _=>[]) (fun q=>q.1) (q2,r2) ⟨l1,by rw[hm2];exact l2,by show r2<_;omega⟩ ⟨rfl,rfl,rfl,rfl,rfl,rfl,rfl,rfl,congrArg (fun z=>some (Value.int .u64 z)) (show (R1:Int)-(m2:Int)=(r2:Int) by omega),trivial⟩ (.nil _) ?_;rintro⟨q,r⟩ ⟨g1,g2,g3⟩;dsimp only at g1 g2 g3 ⊢;have hqU:q≤R1:=by have:=Nat.mul_le_mul_left q (show 1≤y1 by omega);rw[Nat.mul_one]at this;omega
   have k5:=l5 q r g2 g1;have k7:=l7 q r g2 g1;have hpb:=hyy q;obtain⟨p,hp⟩:∃p,q*y0=p:=⟨_,rfl⟩;rw[hp]at k5 k7 hpb;rcases Nat.lt_or_ge q 4294967296 with hq|hq
   ·have hpb:=hpb hq;have ip:∀w0 W H t u a b,MS prog w0 W H (.binOp .mul t a b u) [.int .u64 (q:Int),.int .u64 (y0:Int)] (.int .u64 (p:Int)) True:=fun _ _ _ _ _ _ _=>cD inferInstance (by rw[← Int.natCast_mul,hp];show (0:Int)≤_∧_≤(18446744073709551615:Int);omega) (by rw[← Int.natCast_mul,hp]);refine aB
    ·obtain⟨e1,e2,e3⟩:=k5 (.inr oo);have e4:=l6 (q-1) (r+y1) e3 e1 oo;refine aR () trivial trivial ⟨rfl,rfl,rfl,rfl,rfl,?_,trivial⟩ (.nil _);simp[aI];omega
    ·obtain⟨e1,e2,e3⟩:=k5 (.inr oo);refine aR (q-1,r+y1) ⟨e1,e3,by show r+y1<_;omega⟩ (by show q-1<q;omega) ⟨rfl,rfl,rfl,rfl,rfl,rfl,rfl,?_,?_,trivial⟩ (.nil _)
     ·simp[aI];omega
     ·simp[aI]
    ·have e4:=k7 oo;subst e4;exact aR () trivial trivial ⟨rfl,rfl,rfl,rfl,rfl,rfl,trivial⟩ (.nil _)
   ·obtain⟨e1,e2,e3⟩:=k5 (.inl hq);have e4:=l6 (q-1) (r+y1) e3 e1;refine aB
    ·have e4:=e4 oo;refine aR () trivial trivial ⟨rfl,rfl,rfl,rfl,rfl,?_,trivial⟩ (.nil _);simp[aI];omega
    ·refine aR (q-1,r+y1) ⟨e1,e3,by show r+y1<_;omega⟩ (by show q-1<q;omega) ⟨rfl,rfl,rfl,rfl,rfl,rfl,rfl,?_,?_,trivial⟩ (.nil _)
     ·simp[aI];omega
     ·simp[aI]
  ·rintro - -;have j5:∀w0 W H t u a b,MS prog w0 W H (.binOp .mul t a b u) [.int .u64 (R1:Int),.int .u64 4294967296] (.int .u64 ((R1*4294967296%18446744073709551616:Nat):Int)) True:=fun _ _ _ _ _ _ _=>mI inferInstance trivial (by rw[IntKind.wrap_u64];congr 1);have j6:∀w0 W H t u a b,MS prog w0 W H (.binOp .add t a b u) [.int .u64 ((R1*4294967296%18446744073709551616:Nat):Int),.int .u64 (u0:Int)] (.int .u64 (((R1*4294967296+u0)%18446744073709551616:Nat):Int)) True:=fun _ _ _ _ _ _ _=>mI inferInstance trivial (by rw[IntKind.wrap_u64];congr 1;omega);have j7:∀w0 W H t u a b,MS prog w0 W H (.binOp .mul t a b u) [.int .u64 (Q0:Int),.int .u64 (Y:Int)] (.int .u64 ((n0%18446744073709551616:Nat):Int)) True:=fun _ _ _ _ _ _ _=>mI inferInstance trivial (by rw[IntKind.wrap_u64,← Int.natCast_mul,hn0];rfl);have j8:∀w0 W H t u a b,MS prog w0 W H (.binOp .sub t a b u) [.int .u64 (((R1*4294967296+u0)%18446744073709551616:Nat):Int),.int .u64 ((n0%18446744073709551616:Nat):Int)] (.int .u64 (R0:Int)) True:=fun _ _ _ _ _ _ _=>mI inferInstance trivial (by rw[IntKind.wrap_u64];congr 1;omega);refine aB;refine cY rfl rfl rfl (.nil _) ⟨?_,rfl⟩;obtain⟨c1,c2⟩:=ktwo;rw[← c1,← c2];exact bBz oo rfl
instance (priority:=500) div64_cv(hi lo y:Int):CV prog 259 [.int .u64 hi,.int .u64 lo,.int .u64 y] (.tuple #[.int .u64 ((hi*18446744073709551616+lo)/y),.int .u64 ((hi*18446744073709551616+lo)%y)]) ((0≤hi∧hi<y)∧(0≤lo∧lo<18446744073709551616)∧y<18446744073709551616):=⟨fun hc w=>by
 obtain⟨⟨h1,h2⟩,⟨h3,h4⟩,h5⟩:=hc;by_cases h0:hi=0
 ·subst h0;rw[Int.zero_mul,Int.zero_add];exact(div64_0 lo y).h ⟨⟨h3,h4⟩,h2,h5⟩ w
 ·obtain⟨a,rfl⟩:∃n:Nat,hi=n:=⟨hi.toNat,oo⟩;obtain⟨b,rfl⟩:∃n:Nat,lo=n:=⟨lo.toNat,oo⟩;obtain⟨c,rfl⟩:∃n:Nat,y=n:=⟨y.toNat,oo⟩;exact aSt a b c w oo oo oo oo⟩
theorem aOe{A A':Int}{c d:Bool}(h1:A=A')(h2:c=d):sU [.int .i64 A,.bool c]=Value.tuple #[.int .i64 A',.bool d]:=by subst h1 h2;rfl
instance (priority:=900) signedX(m:Int)(minus:Bool):CV prog 261 [.int .u64 m,.bool minus] (.tuple #[.int .i64 (IntKind.i64.wrap (bif minus then -m else m)),.bool (bif minus then decide (m≤9223372036854775808)else decide (m<9223372036854775808))]) (0≤m∧m<18446744073709551616):=⟨fun hc w=>by
 refine aJ func261 rfl ntmps261 rfl ⟨aE,.nil⟩ (fun n=>?_);simp only[aG];cases minus;all_goals refine gR
 all_goals refine bK
 ·exact⟨aOe (by show IntKind.i64.wrap _=IntKind.i64.wrap _;rfl) rfl,rfl⟩
 ·exact⟨aOe (by show IntKind.i64.wrap (IntKind.u64.wrap (0-m))=IntKind.i64.wrap (-m);rw[IntKind.wrap_u64,IntKind.wrap_i64,IntKind.wrap_i64];omega) rfl,rfl⟩⟩
def qT(z b mode:Int):Int:=bJ z/b+if tZ mode (bJ z%b) b (decide (z<0))then 1 else 0
def kW(z b mode:Int):Bool:=bif decide (z<0)then decide (qT z b mode≤9223372036854775808)else decide (qT z b mode<9223372036854775808)
theorem aF0(z b mode:Int):cP z b mode=bif decide (z<0)then -(qT z b mode)else qT z b mode:=rfl
theorem aSw(z:Int){b:Int}(mode:Int)(hb:0<b):0≤qT z b mode:=by have:0≤bJ z/b:=Int.ediv_nonneg (by unfold bJ;split<;>omega) oo;unfold qT;split<;>omega
theorem aEz{z b mode:Int}(h : -9223372036854775808≤cP z b mode∧cP z b mode≤9223372036854775807):kW z b mode=true:=by rw[aF0]at h;unfold kW;cases hz:decide (z<0)<;>rw[hz]at h<;>simp only[cond_true,cond_false]at h ⊢<;>exact decide_eq_true oo
theorem aSv{z b mode:Int}(hb:0<b)(h:kW z b mode=true): -9223372036854775808≤cP z b mode∧cP z b mode≤9223372036854775807:=by have h0:=aSw z mode hb;rw[aF0];unfold kW at h;cases hz:decide (z<0)<;>rw[hz]at h<;>simp only[cond_true,cond_false]at h ⊢<;>have h:=of_decide_eq_true h<;>omega
theorem aSu{z b mode:Int}(hb:0<b)(h:b≤bJ z/18446744073709551616):kW z b mode=false:=by
 have h1:b*18446744073709551616≤bJ z:=oo;have h2:18446744073709551616≤bJ z/b:=(Int.le_ediv_iff_mul_le hb).2 oo;have h3:18446744073709551616≤qT z b mode:=by unfold qT;split<;>omega
 unfold kW;cases decide (z<0)<;>simp only[cond_true,cond_false]<;>exact decide_eq_false oo
theorem aJs(z b mode:Int)(w:World)(hz : -85070591730234615865843651857942052864≤z∧z≤85070591730234615865843651857942052864)(hb:0<b∧b≤9223372036854775807)(hm:0≤mode∧mode≤3):
  aF prog 229 [.agg (cA z).toArray,.int .i64 b,.int .i64 mode] [] w (fun v S'=>v=.tuple #[.int .i64 (bif kW z b mode then cP z b mode else 0),.int .i64 (bif kW z b mode then 0 else 10)]∧S'=[]):=by
 obtain⟨c3,c4⟩:=hb;obtain⟨c5,c6⟩:=hm;have hab:bJ b=b:=by unfold bJ;rw[if_neg oo]
 have h0:0≤bJ z∧bJ z≤85070591730234615865843651857942052864:=by unfold bJ;split<;>omega
 have hhi:=aSu (z:=z) (mode:=mode) c3;have hr:0≤bJ z%b∧bJ z%b<b:=⟨Int.emod_nonneg _ oo,Int.emod_lt_of_pos _ c3⟩;have hq0:0≤bJ z/b:=Int.ediv_nonneg h0.1 oo;have hq1:bJ z/18446744073709551616<b→bJ z/b<18446744073709551616:=fun h=>Int.ediv_lt_of_lt_mul c3 oo;have hdm:bJ z/18446744073709551616*18446744073709551616+bJ z%18446744073709551616=bJ z:=oo;have iS:=fun m minus=>signedX m minus;have iN:=negW_any z;have eV:=aF0 z b mode;have eO:kW z b mode=bif decide (z<0)then decide (qT z b mode≤9223372036854775808)else decide (qT z b mode<9223372036854775808):=rfl;have eQ:qT z b mode=bJ z/b+if tZ mode (bJ z%b) b (decide (z<0))then 1 else 0:=rfl;have iM:CV prog 236 [.int .i64 b] (.int .u64 b) True:=⟨fun _ w=>by have:=(magnitude_any b).h ⟨oo,c4⟩ w;rwa [hab]at this⟩;have iD:=(div64_cv (bJ z/18446744073709551616) (bJ z%18446744073709551616) b);rw[hdm]at iD;have iU:=up_any mode (bJ z%b) b (decide (z<0));have iB:∀w0 W H t u x y,MS prog w0 W H (.binOp .lss t x y u) [.int .i64 b,.int .i64 0] (.bool false) True:=fun _ _ _ _ _ _ _=>cD inferInstance trivial (congrArg _ (decide_eq_false oo));generalize tZ mode (bJ z%b) b (decide (z<0))=up at *;generalize kW z b mode=ok at *;generalize cP z b mode=V at *;generalize qT z b mode=Q at *;refine aJ func229 rfl ntmps229 rfl ⟨aE,.nil⟩ (fun n=>?_);simp only[aG];rcases Int.lt_or_le z 0 with hz0|hz0
 ·have ez:bJ z = -z:=by unfold bJ;rw[if_pos hz0]
  have hz1:z/18446744073709551616<0:=oo;have iL:∀w0 W H t u a b,MS prog w0 W H (.binOp .lss t a b u) [.int .i64 (z/18446744073709551616),.int .i64 0] (.bool true) True:=fun _ _ _ _ _ _ _=>cD inferInstance trivial (congrArg _ (decide_eq_true hz1));have iE:∀w0 W H u a b,MS prog w0 W H (.binOp .neq 4 a b u) [.bool true,.bool false] (.bool true) True:=fun _ _ _ _ _ _=>cD inferInstance trivial rfl;rw[decide_eq_true hz0]at eV eO iU;simp only[cond_true]at eV eO;have e3 : -z/18446744073709551616=bJ z/18446744073709551616:=by rw[ez]
  have e4 : -z%18446744073709551616=bJ z%18446744073709551616:=by rw[ez]
  simp only[cA]at iN ⊢;rw[e3,e4]at iN;clear hab ez e3 e4 hdm;generalize bJ z=a at *;generalize a/b=q at *;generalize a%b=r at *;rcases Int.lt_or_le (a/18446744073709551616) b with hlt|hge
  ·have hq1:=hq1 hlt;cases up
   ·simp only[Bool.false_eq_true,if_false,Int.add_zero]at eQ;refine aB;all_goals refine bK
    all_goals (rename_i h;simp only[cond_true,cond_false,decide_eq_true_eq,Classical.not_not]at h)
    ·have e:ok=false:=by rw[eO];exact decide_eq_false oo
     subst e;exact⟨rfl,rfl⟩
    ·have e:ok=true:=by rw[eO];exact decide_eq_true oo
     subst e;exact⟨aDs (by show IntKind.i64.wrap _=V;rw[IntKind.wrap_i64];simp only[cond_true,cond_false];omega) rfl,rfl⟩
   ·simp only[if_true]at eQ;by_cases hqm:q=18446744073709551615
    ·have i1:∀w0 W H t u a b,MS prog w0 W H (.binOp .add t a b u) [.int .u64 q,.int .u64 1] (.int .u64 0) True:=fun _ _ _ _ _ _ _=>mI inferInstance trivial (by rw[hqm];rfl);have e:ok=false:=by rw[eO];exact decide_eq_false oo
     subst e;refine aB;refine bK;exact⟨rfl,rfl⟩
    ·refine aB;all_goals refine bK
     all_goals (rename_i h;simp only[cond_true,cond_false,decide_eq_true_eq,Classical.not_not]at h)
     ·have e:ok=false:=by rw[eO];exact decide_eq_false oo
      subst e;exact⟨rfl,rfl⟩
     ·have e:ok=true:=by rw[eO];exact decide_eq_true oo
      subst e;exact⟨aDs (by show IntKind.i64.wrap _=V;rw[IntKind.wrap_i64];simp only[cond_true,cond_false];omega) rfl,rfl⟩
  ·have hok:=hhi hge;subst hok;refine aB;refine bK;exact⟨rfl,rfl⟩
 ·have ez:bJ z=z:=by unfold bJ;rw[if_neg oo]
  have hz1:¬z/18446744073709551616<0:=oo;have iL:∀w0 W H t u a b,MS prog w0 W H (.binOp .lss t a b u) [.int .i64 (z/18446744073709551616),.int .i64 0] (.bool false) True:=fun _ _ _ _ _ _ _=>cD inferInstance trivial (congrArg _ (decide_eq_false hz1));have iE:∀w0 W H u a b,MS prog w0 W H (.binOp .neq 4 a b u) [.bool false,.bool false] (.bool false) True:=fun _ _ _ _ _ _=>cD inferInstance trivial rfl;rw[decide_eq_false (by omega:¬z<0)]at eV eO iU;simp only[cond_false]at eV eO;have e3:z/18446744073709551616=bJ z/18446744073709551616:=by rw[ez]
  have e4:z%18446744073709551616=bJ z%18446744073709551616:=by rw[ez]
  simp only[cA];clear iN;rw[e3]at iL;rw[e3,e4];clear hab ez e3 e4 hdm;generalize bJ z=a at *;generalize a/b=q at *;generalize a%b=r at *;rcases Int.lt_or_le (a/18446744073709551616) b with hlt|hge
  ·have hq1:=hq1 hlt;cases up
   ·simp only[Bool.false_eq_true,if_false,Int.add_zero]at eQ;refine aB;all_goals refine bK
    all_goals (rename_i h;simp only[cond_true,cond_false,decide_eq_true_eq,Classical.not_not]at h)
    ·have e:ok=false:=by rw[eO];exact decide_eq_false oo
     subst e;exact⟨rfl,rfl⟩
    ·have e:ok=true:=by rw[eO];exact decide_eq_true oo
     subst e;exact⟨aDs (by show IntKind.i64.wrap _=V;rw[IntKind.wrap_i64];simp only[cond_true,cond_false];omega) rfl,rfl⟩
   ·simp only[if_true]at eQ;by_cases hqm:q=18446744073709551615
    ·have i1:∀w0 W H t u a b,MS prog w0 W H (.binOp .add t a b u) [.int .u64 q,.int .u64 1] (.int .u64 0) True:=fun _ _ _ _ _ _ _=>mI inferInstance trivial (by rw[hqm];rfl);have e:ok=false:=by rw[eO];exact decide_eq_false oo
     subst e;refine aB;refine bK;exact⟨rfl,rfl⟩
    ·refine aB;all_goals refine bK
     all_goals (rename_i h;simp only[cond_true,cond_false,decide_eq_true_eq,Classical.not_not]at h)
     ·have e:ok=false:=by rw[eO];exact decide_eq_false oo
      subst e;exact⟨rfl,rfl⟩
     ·have e:ok=true:=by rw[eO];exact decide_eq_true oo
      subst e;exact⟨aDs (by show IntKind.i64.wrap _=V;rw[IntKind.wrap_i64];simp only[cond_true,cond_false];omega) rfl,rfl⟩
  ·have hok:=hhi hge;subst hok;refine aB;refine bK;exact⟨rfl,rfl⟩
theorem aLp(a b c mode:Int)(w:World)(ha:bG .i64 a)(hb:bG .i64 b)(hc:0<c∧c≤9223372036854775807)(hm:0≤mode∧mode≤3):
  aF prog 185 [.int .i64 a,.int .i64 b,.int .i64 c,.int .i64 mode] [] w (fun v S'=>v=.tuple #[.int .i64 (bif kW (a*b) c mode then cP (a*b) c mode else 0),.int .i64 (bif kW (a*b) c mode then 0 else 10)]∧S'=[]):=by
 have ha1 : -9223372036854775808≤a∧a≤9223372036854775807:=ha;have hb1 : -9223372036854775808≤b∧b≤9223372036854775807:=hb;have h1:=gY 9223372036854775808 9223372036854775808 (a:=a) (b:=b) oo oo;have iD:CV prog 229 [.agg (cA (a*b)).toArray,.int .i64 c,.int .i64 mode] (.tuple #[.int .i64 (bif kW (a*b) c mode then cP (a*b) c mode else 0),.int .i64 (bif kW (a*b) c mode then 0 else 10)]) True:=⟨fun _ w=>aJs (a*b) c mode w oo hc hm⟩;have iM:=mulW_any a b;generalize a*b=z at *;generalize kW z c mode=ok at *;generalize cP z c mode=V at *;refine aJ func185 rfl ntmps185 rfl ⟨aE,.nil⟩ (fun n=>?_);simp only[aG];refine aB;refine bK;exact⟨rfl,rfl⟩
theorem aAv(a b c mode:Int):CV prog 185 [.int .i64 a,.int .i64 b,.int .i64 c,.int .i64 mode] (.tuple #[.int .i64 (cP (a*b) c mode),.int .i64 0]) ((bG .i64 a∧bG .i64 b)∧(0<c∧c≤9223372036854775807)∧(0≤mode∧mode≤3)∧-9223372036854775808≤cP (a*b) c mode∧cP (a*b) c mode≤9223372036854775807):=⟨fun ⟨h1,h2,h3,h4⟩ w=>by have:=aLp a b c mode w h1.1 h1.2 h2 h3;rw[aEz h4]at this;exact this⟩
