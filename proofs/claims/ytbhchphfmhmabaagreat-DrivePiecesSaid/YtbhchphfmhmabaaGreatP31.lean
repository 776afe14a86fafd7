import Derived.Test.YtbhchphfmhmabaaGreatP27
set_option maxHeartbeats 512000000
set_option maxRecDepth 4000
set_option linter.unusedVariables false
set_option linter.unusedSimpArgs false
namespace Go.Proofs.YtbhchphfmhmabaaGreat
open Go.RowKit _root_.Go.Proofs.Tryz
def jX(z:Int):Nat→Int
 | 0=>z
 | k+1=>jX z k+jX z k
theorem xP(z:Int):∀k,jX z k=z*2^k
 | 0=>by simp[jX]
 | k+1=>by rw[jX,xP z k,Int.pow_succ];generalize (2:Int)^k=p;rw[← Int.mul_assoc];omega
theorem or4{a b:Int}(ha:0≤a∧a<4611686018427387904)(hb:0≤b∧b<4):bits .or .u64 (a*4) b=a*4+b:=by obtain⟨m,rfl⟩:∃m:Nat,a=m:=⟨a.toNat,oo⟩;obtain⟨k,rfl⟩:∃k:Nat,b=k:=⟨b.toNat,oo⟩;rw[show ((m:Int)*4)=((m*4:Nat):Int) by omega,bits_or_u64_nat _ _ oo oo];have h2:=Nat.two_pow_add_eq_or_of_lt (i:=2) (b:=k) oo m;rw[show 2^2*m=m*4 by omega]at h2;rw[← h2];omega
theorem aW4{p:Int}(h:0≤p∧p≤21267647932558653966460912964485513216):bits .or .u64 (p/18446744073709551616*4) (p%18446744073709551616/4611686018427387904)=p/4611686018427387904:=by rw[or4 oo oo];omega
theorem aIh(x:Int)(h:0≤x∧x<9223372036854775808):bits .and .i64 x 1=x%2:=by
 obtain⟨n,rfl⟩:∃n:Nat,x=n:=⟨x.toNat,oo⟩;show IntKind.i64.wrap ((BitVec.ofInt 64 (n:Int) &&& BitVec.ofInt 64 1).toNat:Int)=_;have e:(BitVec.ofInt 64 (n:Int) &&& BitVec.ofInt 64 1).toNat=n%2:=by rw[BitVec.toNat_and,BitVec.ofInt_natCast,BitVec.toNat_ofNat,Nat.mod_eq_of_lt oo];exact Nat.and_one_is_mod n
 rw[e,mJ (k:=.i64) (c:=((n%2:Nat):Int)) ⟨oo,oo⟩];omega
attribute [local irreducible] OJ J bM Code.wpIn wpListIn Oper.wpIn bodyPost CallsIn aF
theorem aNj(z:Int)(k:Nat)(hk:k≤63)(hb:∀i,i<k→-42535295865117307932921825928971026432≤jX z i∧jX z i≤42535295865117307932921825928971026432)(w:World):
  aF prog 262 [.agg (cA z).toArray,.int .i64 k] [] w (fun v S'=>v=.tuple #[.agg (cA (jX z k)).toArray,.bool true]∧S'=[]):=by
 refine aJ func262 rfl ntmps262 rfl ⟨aE,.nil⟩ (fun n=>?_);simp only[aG];refine aB;rename_i b2 b4;refine cG (X:=Nat) (fun i=>i≤k) (fun i=>[(1,.int .i64 k),(2,.pointer (some ⟨b2,0,none⟩)),(4,.pointer (some ⟨b4,0,none⟩)),(6,.bool true),(17,.int .i64 (min (max (k:Int) 0) 63)),(18,.int .i64 i)]) (fun i=>[.blk b2 266 (cA (jX z i)),.blk b4 266 [.int .i64 0,.int .u64 0]]) (fun i=>k-i) 0 (Nat.zero_le _) ⟨rfl,rfl,rfl,by simp[aI];omega,rfl,rfl,trivial⟩ (by show aA [.blk b2 266 (cA z),_] _;exact aA.au) ?_;intro i hi;rcases Nat.lt_or_ge i k with h|h
 ·have h1:=hb i h;have e:jX z (i+1)=jX z i+jX z i:=rfl;generalize jX z i=x at *;refine aB;refine aR (i+1) h (by show k-(i+1)<k-i;omega) ⟨rfl,rfl,rfl,rfl,rfl,by simp[aI],trivial⟩ ?_;rw[e];exact aA.au
 ·obtain rfl:i=k:=oo;refine aB;refine bK;exact⟨rfl,rfl⟩
theorem bAq(z:Int)(w:World)(hz:0≤z∧z≤4611686018427387904):aF prog 262 [.agg (cA z).toArray,.int .i64 62] [] w (fun v S'=>v=.tuple #[.agg (cA (z*4611686018427387904)).toArray,.bool true]∧S'=[]):=by
 have h:=aNj z 62 oo (fun i hi=>by
  rw[xP];have e:((2:Int)^i)=((2^i:Nat):Int):=by rw[Int.natCast_pow];rfl
  have h5:=Nat.pow_le_pow_right (show 0<2 by decide) (show i≤61 by omega);have h2:(2:Int)^i≤2305843009213693952:=by rw[e];omega
  have h3:(0:Int)<2^i:=Int.pow_pos od;have h4:=cT (a:=z) (b:=2^i) hz ⟨oo,h2⟩;omega) w
 rw[xP]at h;exact h
instance shl62_cv(z:Int):CV prog 262 [.agg (cA z).toArray,.int .i64 62] (.tuple #[.agg (cA (z*4611686018427387904)).toArray,.bool true]) (0≤z∧z≤4611686018427387904):=⟨fun hc w=>bAq z w hc⟩
instance shl16_cv(z:Int):CV prog 262 [.agg (cA z).toArray,.int .i64 16] (.tuple #[.agg (cA (z*65536)).toArray,.bool true]) (-1267650600228229401496703205376≤z∧z≤1267650600228229401496703205376):=⟨fun hz w=>by
 have h:=aNj z 16 oo (fun i hi=>by
  rw[xP];have e:((2:Int)^i)=((2^i:Nat):Int):=by rw[Int.natCast_pow];rfl
  have h5:=Nat.pow_le_pow_right (show 0<2 by decide) (show i≤15 by omega);have h2:(2:Int)^i≤32768:=by rw[e];omega
  have h3:(0:Int)<2^i:=Int.pow_pos od;have h4:=gY 1267650600228229401496703205376 32768 (a:=z) (b:=2^i) oo oo;omega) w
 rw[xP]at h;exact h⟩
instance (priority:=2000) rootG_cv(s:Int):CV prog 277 [.agg (cA s).toArray] (.int .u64 (oZ s 64)) (0≤s∧s<170141183460469231731687303715884105728):=⟨fun hc w=>by
 obtain⟨A,hA⟩:∃A,s/18446744073709551616=A:=⟨_,rfl⟩;obtain⟨B,hB⟩:∃B,s%18446744073709551616=B:=⟨_,rfl⟩;have hAB:s=A*18446744073709551616+B∧(0≤A∧A<9223372036854775808)∧0≤B∧B<18446744073709551616:=oo;refine aJ func277 rfl ntmps277 rfl ⟨aE,.nil⟩ (fun n=>?_);simp only[aG,cA];rw[hA,hB];clear hA hB;obtain⟨hs,hA,hB⟩:=hAB;refine aB;rename_i b1 _;refine cG (X:=Nat) (fun k=>k≤64) (fun k=>[(1,.pointer (some ⟨b1,0,none⟩)),(3,.int .u64 (oZ s k)),(4,.int .i64 (63-k))]) (fun _=>[.blk b1 266 [.int .i64 A,.int .u64 B]]) (fun k=>64-k) 0 aE ⟨rfl,rfl,rfl,trivial⟩ aA.au ?_;intro k hk;have h1:=aN2 s k;have h2:=aM9 (oZ s k) (IntKind.u64.wrap (1*2^(min ((63:Int)-k).toNat IntKind.u64.bits)));have e:=oZ.eq_2 s k;unfold orB at e;refine aB;all_goals first
  | (obtain rfl : k = 64 := by omega
     refine bK;exact ⟨rfl, rfl⟩)
  | (generalize bits .or .u64 (oZ s k) (IntKind.u64.wrap (1 * 2 ^ (min ((63 : Int) - k).toNat IntKind.u64.bits))) = p at *
     generalize p * p = pp at *;first
     | (rw [if_pos oo] at e
        exact aR (k + 1) (by show k + 1 ≤ 64; omega) (by show 64 - (k + 1) < 64 - k; omega) ⟨rfl, by rw [e]; rfl, by simp [aI]; omega, trivial⟩ aA.au)
     | (rw [if_neg oo] at e
        exact aR (k + 1) (by show k + 1 ≤ 64; omega) (by show 64 - (k + 1) < 64 - k; omega) ⟨rfl, by rw [e]; rfl, by simp [aI]; omega, trivial⟩ aA.au))⟩
theorem aU8(gh i:Nat)(hi:i<16)(w:World)(hown:aZ [.blk gh 76 [.int .u64 (hL.getD i 0)]] w):
  aF prog 276 [.pointer (some ⟨gh,0,none⟩)] [.blk gh 76 [.int .u64 (hL.getD i 0)]] w (fun v S'=>v=.int .u64 (hL.getD (i+1) 0)∧S'=[.blk gh 76 [.int .u64 (hL.getD (i+1) 0)]]):=by
 have e:=aU4 i hi;have h1:=aFi i oo;generalize hL.getD i 0=h at *;rw[← e];refine aJ func276 rfl ntmps276 rfl hown (fun n=>?_);simp only[aG];refine aB;exact aM rfl rfl aA.au ⟨rfl,rfl⟩
theorem aU9(w:World):aF prog 268 [] [] w (fun v S'=>∃gh,v=.func (.func 276) #[] #[.pointer (some ⟨gh,0,none⟩)]∧S'=[.blk gh 76 [.int .u64 2305843009213693952]]):=by refine aJ func268 rfl ntmps268 rfl ⟨aE,.nil⟩ (fun n=>?_);simp only[aG];refine aB;exact aM rfl rfl aA.au ⟨_,rfl,rfl⟩
instance exp_cv(x:Int):CV prog 245 [.int .i64 x] (.tuple #[.int .u64 (wF x),.int .i64 0]) (0≤x∧x≤1152921504606846976):=⟨fun hc w=>by
 have hN:wF x=if 40<x/65536 then 0 else nK x 16/1073741824/2^(x/65536).toNat:=if_neg oo;have h16:=aCh x 16 oo;refine aJ func245 rfl ntmps245 rfl ⟨aE,.nil⟩ (fun n=>?_);simp only[aG];refine aB
 ·rw[if_pos oo]at hN;rw[hN];refine bK;exact⟨rfl,rfl⟩
 ·rw[if_neg oo]at hN;rw[hN];refine lf rfl rfl rfl (S:=[]) (fun w hw ho=>aU9 w) ?_;rintro v S' ⟨gh,rfl,rfl⟩;refine aB;refine cG (X:=Nat) (fun i=>i≤16) (fun i=>[(0,.int .i64 x),(4,.int .i64 (x/65536)),(5,.int .u64 (nK x i)),(6,.func (.func 276) #[] #[.pointer (some ⟨gh,0,none⟩)]),(18,.int .i64 i)]) (fun i=>[.blk gh 76 [.int .u64 (hL.getD i 0)]]) (fun i=>16-i) 0 (Nat.zero_le _) ⟨rfl,rfl,rfl,rfl,rfl,trivial⟩ (by show aA [.blk gh 76 [.int .u64 2305843009213693952]] _;exact aA.au) ?_;intro i hi;rcases Nat.lt_or_ge i 16 with h|h
  ·have hm:=aCh x i oo;have hh:=aFi (i+1) oo;have e:nK x (i+1)=if x/2^(15-i)%2=1 then nK x i*hL.getD (i+1) 0/4611686018427387904 else nK x i:=rfl;have ht:=fun w ho=>aU8 gh i h w ho;have hP:=cT hm hh;obtain⟨q,hq0⟩:∃q,hL.getD (i+1) 0=q:=⟨_,rfl⟩;rw[hq0]at hh ht e hP;generalize nK x i=m at *;have hx:0≤x/2^(15-i)∧x/2^(15-i)<9223372036854775808:=⟨Int.ediv_nonneg hc.1 (Int.le_of_lt (Int.pow_pos od)),Int.lt_of_le_of_lt (Int.ediv_le_self _ hc.1) oo⟩;have iA:∀w0 W H t u a b,MS prog w0 W H (.binOp .and t a b u) [.int .i64 (x/2^((15:Int)-(i:Int)).toNat),.int .i64 1] (.int .i64 (x/2^(15-i)%2)) True:=fun _ _ _ _ _ _ _=>cD inferInstance trivial (congrArg (Value.int .i64) (by rw[show ((15:Int)-(i:Int)).toNat=15-i by omega,aIh _ hx]));have iO:∀w0 W H t u a b,MS prog w0 W H (.binOp .or t a b u) [.int .u64 (m*q/18446744073709551616*2^(OfNat.ofNat 2:Nat)),.int .u64 (m*q%18446744073709551616/2^(OfNat.ofNat 62:Nat))] (.int .u64 (m*q/4611686018427387904)) True:=fun _ _ _ _ _ _ _=>cD inferInstance trivial (congrArg (Value.int .u64) (aW4 ⟨hP.1,oo⟩));generalize x/2^(15-i)=y at *;refine aB;refine lb rfl rfl rfl rfl (S:=[.blk gh 76 [.int .u64 (hL.getD i 0)]]) (fun w hw ho=>ht w ho) ?_;rintro v S' ⟨rfl,rfl⟩;refine aB;all_goals
    refine aR (i+1) h (by show 16-(i+1)<16-i;omega) ⟨rfl,rfl,?_,rfl,by simp[aI],trivial⟩ (by show aA [.blk gh 76 [.int .u64 (hL.getD (i+1) 0)]] _;rw[hq0];exact aA.au);first
    | (rw[e,if_pos (by simp_all)];rfl)
    | (rw[e,if_neg (by simp_all)];rfl)
  ·obtain rfl:i=16:=oo;refine aB;refine bK;exact⟨rfl,rfl⟩⟩
end Go.Proofs.YtbhchphfmhmabaaGreat
namespace Go.Proofs.YtbhchphfmhmabaaGreat
open Go.RowKit _root_.Go.Proofs.Tryz
theorem aY8{H S R:List HE}(y:HE)(h:aC H S R):aC (y::H) S (y::R):=by
 induction h with
 | nil H=>exact .nil _
 | cons h _ ih=>exact .cons (.there y h) ih
theorem aMm(x b:HE)(S:List HE):(x::b::S).Perm (b::x::S):=List.Perm.swap _ _ _
theorem aC6{W:Int}(h:1≤W)(i:Nat):0≤aY W i∧aY W i<W:=⟨Int.emod_nonneg _ oo,Int.emod_lt_of_pos _ oo⟩
theorem aN4{W:Int}(h:1≤W)(i:Nat):0≤aV W i∧aV W i≤i:=⟨Int.ediv_nonneg oo oo,Int.ediv_le_self _ oo⟩
theorem lO{F:Fence}{n:Nat}{P:Program}{N:Nat}{ds:List Deferred}{w0:World}{W:Nat→Prop}{σ:List (Nat×Value)}{H:List HE}{K:Act→World→Prop}{Q:Exit→Act→World→Prop}{x:Code}{X:Type}(R:X→Prop)(σI:X→List (Nat×Value))(HI:X→List HE)
  (hx:J N ds w0 W σ H (x.wpIn F n P (Exit.then (fun a w=>∃z,R z∧True∧Tm N ds (σI z) a∧St w0 W (HI z) w) Q))) (hy:∀z,R z→J N ds w0 W (σI z) (HI z) K):J N ds w0 W σ H (x.wpIn F n P (Exit.then K Q)) :=
 hx.mono fun a w h=>wpIn_mono h (by
  rintro e a w h;cases e with
  | normal=>obtain⟨z,h1,-,h2,h3⟩:=h;exact hy z h1 a w h2 h3
  | _=>exact h)
attribute [local irreducible] OJ J bM Code.wpIn wpListIn Oper.wpIn bodyPost CallsIn aF
section
variable {P:Program} {w0:World} {W:Nat→Prop} {H:List HE}
theorem aWb{gw:Int}(hw:1≤gw)(i:Nat)(t u:TypeId)(x y:Operand):MS P w0 W H (.binOp .rem t x y u) [.int .i64 (i:Int),.int .i64 gw] (.int .i64 (aY gw i)) True:=cD inferInstance oo rfl
theorem aWc{gw:Int}(hw:1≤gw){i:Nat}(hi:i<1000000)(t u:TypeId)(x y:Operand):MS P w0 W H (.binOp .quo t x y u) [.int .i64 (i:Int),.int .i64 gw] (.int .i64 (aV gw i)) True:=cD inferInstance (by refine⟨oo,oo,oo,oo⟩) rfl
end
theorem aD6(g:bE)(A:Option Addr)(c:Nat)(w:World):aF prog 184 [.agg (aQ g A c).toArray] [] w
  (fun v S'=>∃gb,v=.func (.func 228) #[] #[.pointer (some ⟨gb,0,none⟩)]∧S'=[.blk gb 126 (aQ g A c)]):=by
 refine aJ func184 rfl ntmps184 rfl ⟨aE,.nil⟩ (fun _=>?_);simp only[aG];refine aB;exact aM rfl rfl aA.au ⟨_,rfl,rfl⟩
theorem aYb(lp gb:Nat)(g:bE)(A:Option Addr)(c:Nat)(w:World)(S:List HE)(I:Nat→List HE→Prop)
  (hown:aZ (.blk gb 126 (aQ g A c)::S) w) (hr:bP w (bB (.blk gb 126 (aQ g A c)::S)) A g.p.length c 1 (aD .i64 g.p)) (hw:1≤g.w) (hm:g.p.length≤100000) (h0:I 0 S)
  (hz:∀i S',i<g.p.length→g.p.getD i 0≤0→I i S'→I (i+1) S')
  (hy:∀i S',i<g.p.length→0<g.p.getD i 0→I i S'→∀w',aZ S' w'→qK prog lp [.agg #[.int .i64 (aY g.w i),.int .i64 (aV g.w i)],.int .i64 (g.p.getD i 0)] S' w' (fun v S''=>v=.bool true∧I (i+1) S'')) :
  aF prog 228 [.func (.yield lp) #[] #[],.pointer (some ⟨gb,0,none⟩)] (.blk gb 126 (aQ g A c)::S) w
   (fun v S'=>v=.tuple #[]∧∃S1,S'=.blk gb 126 (aQ g A c)::S1∧I g.p.length S1):=by
 obtain⟨gw,gh,gx,gy,gs,p⟩:=g;dsimp only at hr hw hm hz hy ⊢;dsimp only[aQ]at *;refine aJ func228 rfl ntmps228 rfl hown (fun n=>?_);simp only[aG];refine aB;refine cG (X:=Nat×List HE) (fun q=>q.1≤p.length∧I q.1 q.2)
  (fun q=>[(0,.func (.yield lp) #[] #[]),(1,.pointer (some ⟨gb,0,none⟩)),(6,.slice A p.length c),(7,.int .i64 p.length),(8,.int .i64 q.1)])
  (fun q=>.blk gb 126 [.int .i64 gw,.int .i64 gh,.int .i64 gx,.int .i64 gy,.int .i64 gs,.slice A p.length c]::q.2) (fun q=>p.length-q.1) (0,S) ⟨oo,h0⟩ ⟨rfl,rfl,rfl,rfl,rfl,trivial⟩ (aA.refl _) ?_
 rintro⟨i,S1⟩ ⟨hi,hI⟩;dsimp only at hi hI ⊢;rcases Nat.lt_or_ge i p.length with hlt|hge
 ·obtain⟨bA,oA,rfl,hRA⟩:=hr.at_ (by omega:0<p.length);have hz1:=hz i S1 hlt;have hy1:=hy i S1 hlt;have iR:∀w0 W H t u a b,MS prog w0 W H (.binOp .rem t a b u) [.int .i64 (i:Int),.int .i64 gw] (.int .i64 (aY gw i)) True:=fun _ _ _ t u a b=>aWb hw i t u a b;have iQ:∀w0 W H t u a b,MS prog w0 W H (.binOp .quo t a b u) [.int .i64 (i:Int),.int .i64 gw] (.int .i64 (aV gw i)) True:=fun _ _ _ t u a b=>aWc hw oo t u a b;rcases Int.lt_or_le 0 (p.getD i 0) with hp|hp
  ·have iG:∀w0 W H t u a b,MS prog w0 W H (.binOp .gtr t a b u) [.int .i64 (p.getD i 0),.int .i64 0] (.bool true) True:=fun _ _ _ _ _ _ _=>cD inferInstance trivial (congrArg Value.bool (decide_eq_true hp));have hy2:=hy1 hp hI;refine aB;refine fJ [.blk gb 126 [.int .i64 gw,.int .i64 gh,.int .i64 gx,.int .i64 gy,.int .i64 gs,.slice (some ⟨bA,oA,none⟩) p.length c]] (0::1::2::3::4::5::6::7::8::9::10::11::12::13::14::15::16::[]) aA.au ?_;intro _;refine gO;all_goals refine lyl rfl rfl rfl (aC.preT S1 [.blk gb 126 [.int .i64 gw,.int .i64 gh,.int .i64 gx,.int .i64 gy,.int .i64 gs,.slice (some ⟨bA,oA,none⟩) p.length c]]) rfl (fun w hw ho=>hy2 w ho) ?_
   all_goals rintro v S3 ⟨rfl,hI3⟩
   all_goals refine aCr ?_
   all_goals show J _ _ _ _ _ (.blk gb 126 [.int .i64 gw,.int .i64 gh,.int .i64 gx,.int .i64 gy,.int .i64 gs,.slice (some ⟨bA,oA,none⟩) p.length c]::S3) _
   all_goals refine gO
   all_goals exact aR (i+1,S3) ⟨hlt,hI3⟩ (by show p.length-(i+1)<p.length-i;omega) ⟨rfl,rfl,rfl,rfl,by simp[aI],trivial⟩ (aA.refl _)
  ·have iG:∀w0 W H t u a b,MS prog w0 W H (.binOp .gtr t a b u) [.int .i64 (p.getD i 0),.int .i64 0] (.bool false) True:=fun _ _ _ _ _ _ _=>cD inferInstance trivial (congrArg Value.bool (decide_eq_false oo));refine aB;exact aR (i+1,S1) ⟨hlt,hz1 hp hI⟩ (by show p.length-(i+1)<p.length-i;omega) ⟨rfl,rfl,rfl,rfl,by simp[aI],trivial⟩ (aA.refl _)
 ·obtain rfl:i=p.length:=oo;refine aB;exact nN rfl (aA.refl _) ⟨rfl,S1,rfl,hI⟩
section
variable {n N:Nat} {ds:List Deferred} {w0:World} {W:Nat→Prop} {σ:List (Nat×Value)} {H:List HE} {Q:Exit→Act→World→Prop} {g0:Operand} {ps:Array Tmp} {assign body:Code} {gb:Nat} {g:bE} {A:Option Addr} {c:Nat} {S R:List HE}
theorem aBv(I:Nat→List HE→Prop)
  (hx:ev σ g0=some (.func (.func 228) #[] #[.pointer (some ⟨gb,0,none⟩)])) (hs:aC H (.blk gb 126 (aQ g A c)::S) R) (hr:Ro w0 W 1 (.slice A g.p.length c) g.p.length (aD .i64 g.p)) (hw:1≤g.w) (hm:g.p.length≤100000) (h0:I 0 S)
  (hz:∀i S',i<g.p.length→g.p.getD i 0≤0→I i S'→I (i+1) S')
  (hy:∀lp i S1,i<g.p.length→0<g.p.getD i 0→I i S1→∀w1,aZ (.loop lp N σ ps assign body .ready none::S1) w1→qK prog lp [.agg #[.int .i64 (aY g.w i),.int .i64 (aV g.w i)],.int .i64 (g.p.getD i 0)] (.loop lp N σ ps assign body .ready none::S1) w1
   (fun v S2=>v=.bool true∧∃S3,S2=.loop lp N σ ps assign body .ready none::S3∧I (i+1) S3))
  (hn:∀d S1,I g.p.length S1→J N (mk d::ds) w0 W σ (S1++.obj d (.deferred (some []))::R) (Q .normal)):J N ds w0 W σ H ((Code.rangeFunc g0 ps assign body).wpIn Fence.wide n prog Q):=by
 refine aAd (Rp:=fun d lp pend S1=>∃S2,S1=.blk gb 126 (aQ g A c)::S2∧pend=none∧I g.p.length S2) hx hs (fun d lp w1 LE hLE hw1 ho=>?_) ?_
 ·have hp:=aMm LE (.blk gb 126 (aQ g A c)) S;have hr1:Ro w1 (bB (LE::.blk gb 126 (aQ g A c)::S)) 1 (.slice A g.p.length c) g.p.length (aD .i64 g.p):=hr.go hw1 (.cons (.here _ _) (aY8 _ hs));rw[aBq hp]at hr1;refine aF.conv (aYb lp gb g A c w1 (LE::S) (fun i S'=>∃S1,S'=LE::S1∧I i S1) (ho.perm hp) ⟨hr1⟩ hw hm ⟨S,rfl,h0⟩ ?_ ?_) hp.symm ?_
  ·rintro i S' hi hp0 ⟨S1,rfl,hI⟩;exact⟨S1,rfl,hz i S1 hi hp0 hI⟩
  ·rintro i S' hi hp0 ⟨S1,rfl,hI⟩ w2 ho2;subst hLE;exact hy lp i S1 hi hp0 hI w2 ho2
  ·rintro v S' ⟨-,S1,rfl,S2,rfl,hI⟩;exact⟨_,aMm _ _ _,.ready,none,_,by rw[hLE],aE,S2,rfl,rfl,hI⟩
 ·rintro d lp pend S1 ⟨S2,rfl,rfl,hI⟩;exact⟨fun _=>jP (aA.skip (aA.refl _) _) (hn d S2 hI),fun c h=>by cases h⟩
end
