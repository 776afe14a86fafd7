import Derived.Test.YthajpemlpmlefaaGreatP04
set_option maxHeartbeats 512000000
set_option maxRecDepth 4000
set_option linter.unusedVariables false
set_option linter.unusedSimpArgs false
namespace Go.Proofs.YthajpemlpmlefaaGreat
open Go.RowKit
def bitN(bs:List Bool)(i:Nat):Nat:=if bs.getD i false then 1 else 0
def packAt(bs:List Bool)(k:Nat):Nat:=128*bitN bs (8*k)+64*bitN bs (8*k+1)+32*bitN bs (8*k+2)+16*bitN bs (8*k+3)+8*bitN bs (8*k+4)+4*bitN bs (8*k+5)+2*bitN bs (8*k+6)+bitN bs (8*k+7)
def pack(bs:List Bool):List Int:=(List.range ((bs.length+7)/8)).map fun k=>(packAt bs k:Int)
abbrev Wr(g:Nat)(A:Option Addr)(c:Nat)(bs:List Bool):List HE :=
 [.blk g 265 [.slice A (pack bs).length c,.int .i64 bs.length],.row (.slice A (pack bs).length c) 5 1 (pack bs).length (ints .u8 (pack bs))]
theorem pack_len(bs:List Bool):(pack bs).length=(bs.length+7)/8:=by simp[pack]
def grow(bs:List Bool):List Int:=if bs.length%8=0 then pack bs++[0]else pack bs
theorem grow_len(bs:List Bool):(grow bs).length=bs.length/8+1:=by
 unfold grow;split<;>simp[pack_len]<;>omega
theorem bitN_snoc(bs:List Bool)(b:Bool)(i:Nat):bitN (bs++[b]) i=bitN bs i+if i=bs.length∧b=true then 1 else 0:=by
 unfold bitN
 rcases Nat.lt_trichotomy i bs.length with h|h|h
 ·rw[if_neg (fun e:i=bs.length∧b=true=>by omega)]
  simp[List.getD_eq_getElem?_getD,List.getElem?_append_left h]
 ·subst h
  cases b<;>simp[List.getD_eq_getElem?_getD]
 ·rw[if_neg (fun e:i=bs.length∧b=true=>by omega)]
  have h1:(bs++[b])[i]? = none:=List.getElem?_eq_none (by simp;omega)
  have h2:bs[i]? = none:=List.getElem?_eq_none (by omega)
  simp[List.getD_eq_getElem?_getD,h1,h2]
theorem bitN_le(bs:List Bool)(i:Nat):bitN bs i≤1:=by unfold bitN;split<;>omega
theorem bitN_out(bs:List Bool)(i:Nat)(h:bs.length≤i):bitN bs i=0:=by
 unfold bitN
 have h2:bs[i]? = none:=List.getElem?_eq_none h
 simp[List.getD_eq_getElem?_getD,h2]
theorem packAt_lt(bs:List Bool)(k:Nat):packAt bs k<256:=by
 unfold packAt
 have:=bitN_le bs
 have h0:=this (8*k);have h1:=this (8*k+1);have h2:=this (8*k+2);have h3:=this (8*k+3);have h4:=this (8*k+4);have h5:=this (8*k+5);have h6:=this (8*k+6);have h7:=this (8*k+7)
 omega
theorem packAt_snoc(bs:List Bool)(b:Bool)(k:Nat):packAt (bs++[b]) k=packAt bs k+if bs.length/8=k∧b=true then 2^(7-bs.length%8)else 0:=by
 unfold packAt
 simp only[bitN_snoc]
 cases b with
 | false=>simp
 | true =>
  simp only[and_true]
  by_cases hk:bs.length/8=k
  ·rw[if_pos hk]
   obtain h|h|h|h|h|h|h|h:bs.length%8=0∨bs.length%8=1∨bs.length%8=2∨bs.length%8=3∨bs.length%8=4∨bs.length%8=5∨bs.length%8=6∨bs.length%8=7:=by omega
   all_goals
    rw[h]
    have e:bs.length=8*k+bs.length%8:=by omega
    rw[h]at e
    rw[e]
    simp
    try omega
  ·rw[if_neg hk]
   have:∀r,r<8→¬(8*k+r=bs.length):=fun r hr e=>hk (by omega)
   have h0:=this 0 (by omega);have h1:=this 1 (by omega);have h2:=this 2 (by omega);have h3:=this 3 (by omega);have h4:=this 4 (by omega);have h5:=this 5 (by omega);have h6:=this 6 (by omega);have h7:=this 7 (by omega)
   rw[Nat.add_zero]at h0
   simp[h0,h1,h2,h3,h4,h5,h6,h7]
theorem packAt_low(bs:List Bool):packAt bs (bs.length/8)%2^(7-bs.length%8+1)=0:=by
 unfold packAt
 have o:=bitN_out bs
 obtain h|h|h|h|h|h|h|h:bs.length%8=0∨bs.length%8=1∨bs.length%8=2∨bs.length%8=3∨bs.length%8=4∨bs.length%8=5∨bs.length%8=6∨bs.length%8=7:=by omega
 all_goals
  rw[h]
  simp only[Nat.reduceSub,Nat.reduceAdd,Nat.reducePow]
  try rw[o (8*(bs.length/8)) (by omega)]
  try rw[o (8*(bs.length/8)+1) (by omega)]
  try rw[o (8*(bs.length/8)+2) (by omega)]
  try rw[o (8*(bs.length/8)+3) (by omega)]
  try rw[o (8*(bs.length/8)+4) (by omega)]
  try rw[o (8*(bs.length/8)+5) (by omega)]
  try rw[o (8*(bs.length/8)+6) (by omega)]
  try rw[o (8*(bs.length/8)+7) (by omega)]
  try omega
theorem getElem?_pack(bs:List Bool)(k:Nat):(pack bs)[k]? = if k<(bs.length+7)/8 then some (packAt bs k:Int)else none:=by
 unfold pack
 rw[List.getElem?_map]
 by_cases h:k<(bs.length+7)/8
 ·simp[h]
 ·simp[h]
theorem grow_at(bs:List Bool):(grow bs)[bs.length/8]? = some (packAt bs (bs.length/8):Int):=by
 unfold grow
 split
 ·rename_i h
  have hz:packAt bs (bs.length/8)=0:=by
   have h1:=packAt_low bs
   have h2:=packAt_lt bs (bs.length/8)
   rw[h]at h1
   simp at h1
   omega
  rw[hz,List.getElem?_append_right (by rw[pack_len];omega),show bs.length/8-(pack bs).length=0 from by rw[pack_len];omega]
  rfl
 ·rw[getElem?_pack,if_pos (by omega)]
theorem pack_snoc(bs:List Bool)(b:Bool):pack (bs++[b])=(grow bs).set (bs.length/8) ((packAt bs (bs.length/8)+if b=true then 2^(7-bs.length%8)else 0:Nat):Int):=by
 apply List.ext_getElem?
 intro k
 rw[getElem?_pack,packAt_snoc,List.length_append,List.length_singleton]
 by_cases hk:bs.length/8=k
 ·subst hk
  rw[List.getElem?_set_self (by rw[grow_len];omega),if_pos (by omega)]
  simp
 ·rw[List.getElem?_set_ne hk,if_neg (fun e:bs.length/8=k∧b=true=>hk e.1)]
  by_cases h8:bs.length%8=0
  ·rw[grow,if_pos h8]
   rcases Nat.lt_or_ge k (pack bs).length with h|h
   ·rw[List.getElem?_append_left h,getElem?_pack]
    rw[pack_len]at h
    rw[if_pos (by omega),if_pos h];simp
   ·rw[List.getElem?_append_right h]
    rw[pack_len]at h ⊢
    rw[if_neg (by omega),List.getElem?_eq_none (by simp;omega)]
  ·rw[grow,if_neg h8,getElem?_pack]
   by_cases h:k<(bs.length+7)/8
   ·rw[if_pos h,if_pos (by omega)];simp
   ·rw[if_neg h,if_neg (by omega)]
theorem or_byte:∀(x:Fin 256) (r:Fin 8),(x:Nat)%2^(7-(r:Nat)+1)=0→bits .or .u8 ((x:Nat):Int) (128/2^(r:Nat))=((x+2^(7-(r:Nat)):Nat):Int):=by decide +kernel
attribute [local irreducible] OJ J HdJ Code.wpIn wpListIn Oper.wpIn bodyPost CallsIn Does
theorem bit_any(g c:Nat)(A:Option Addr)(bs:List Bool)(b:Bool)(w:World)(hown:Own (Wr g A c bs) w)(hm:bs.length<1000000000):
  Does Tryz.prog 238 [.pointer (some ⟨g,0,none⟩),.bool b] (Wr g A c bs) w (fun v S'=>v=.tuple #[]∧∃A' c',S'=Wr g A' c' (bs++[b])):=by
 have hpl:=pack_len bs
 refine does_of Tryz.func238 rfl Tryz.ntmps238 rfl hown (fun n=>?_)
 simp only[slots]
 refine z_go2
 refine c_seam (X:=Option Addr×Nat) (fun _=>True) (fun _=>[(0,.pointer (some ⟨g,0,none⟩)),(1,.bool b)])
  (fun x=>[.blk g 265 [.slice x.1 (grow bs).length x.2,.int .i64 bs.length],.row (.slice x.1 (grow bs).length x.2) 5 1 (grow bs).length (ints .u8 (grow bs))]) ?_ ?_
 ·refine c_cond rfl (fun h=>?_) (fun h=>?_)
  ·have hg:grow bs=pack bs++[0]:=if_pos (by have:=beq_iff_eq.1 h;omega)
   refine z_go2
   rw[hg]
   exact c_at_seam (_,_) trivial ⟨rfl,rfl,trivial⟩ (.cons (.there _ (.here _ _)) (.cons (.there _ (.here _ _)) (.nil _)))
  ·have hg:grow bs=pack bs:=if_neg (by have:=beq_eq_false_iff_ne.1 h;omega)
   refine z_go2
   rw[hg]
   exact c_at_seam (A,c) trivial ⟨rfl,rfl,trivial⟩ (Sub.refl _)
 ·rintro⟨A1,c1⟩ -
  have hgl:=grow_len bs
  have hga:=grow_at bs
  have hps:=pack_snoc bs b
  simp only
  refine z_go2
  refine c_cond rfl (fun h=>?_) (fun h=>?_)
  ·subst h
   refine j_opn (A:=A1) (m:=(grow bs).length) (cc:=c1) (by omega) ?_
   rintro g1 rfl
   refine z_go2
   have hr:=or_byte ⟨packAt bs (bs.length/8),packAt_lt _ _⟩ ⟨bs.length%8,by omega⟩ (packAt_low bs)
   have e0:((bs.length:Int)/8).toNat=bs.length/8:=by omega
   have e3:((bs.length:Int)%8).toNat=bs.length%8:=by omega
   have e1:(pack (bs++[true])).length=(grow bs).length:=by rw[hps,List.length_set]
   have e2:pack (bs++[true])=(grow bs).set (bs.length/8) (bits .or .u8 ((grow bs).getD (bs.length/8) 0) (128/2^(bs.length%8))):=by
    rw[List.getD_eq_getElem?_getD,hga,Option.getD_some,hr,hps];simp
   refine j_outN (S':=Wr g (some ⟨g1,0,none⟩) c1 (bs++[true])) rfl ?_ ⟨rfl,_,_,rfl⟩
   simp only[Wr,e0,e3,e1,List.length_append]
   rw[e2]
   exact Sub.refl _
  ·subst h
   refine z_go2
   have e1:pack (bs++[false])=grow bs:=by
    rw[hps]
    apply List.ext_getElem?
    intro k
    by_cases hk:bs.length/8=k
    ·subst hk;rw[List.getElem?_set_self (by omega),hga];simp
    ·rw[List.getElem?_set_ne hk]
   refine j_outN (S':=Wr g A1 c1 (bs++[false])) rfl ?_ ⟨rfl,_,_,rfl⟩
   simp only[Wr,e1,List.length_append]
   exact Sub.refl _
theorem bytes_any(g c:Nat)(A:Option Addr)(bs:List Bool)(w:World)(hown:Own (Wr g A c bs) w)(hm:bs.length<1000000000):
  Does Tryz.prog 158 [.pointer (some ⟨g,0,none⟩)] (Wr g A c bs) w
   (fun v S'=>∃A' c',v=.slice A' (pack bs).length c'∧S'=.row (.slice A' (pack bs).length c') 5 1 (pack bs).length (ints .u8 (pack bs))::Wr g A c bs):=by
 have hpl:=pack_len bs
 refine does_of Tryz.func158 rfl Tryz.ntmps158 rfl hown (fun n=>?_)
 simp only[slots]
 refine z_go2
 exact j_out1 rfl rfl (Sub.refl _) ⟨_,_,rfl,rfl⟩
theorem ones_any(g c:Nat)(A:Option Addr)(bs:List Bool)(m:Nat)(w:World)(hown:Own (Wr g A c bs) w)(hm:bs.length+m<900000000):
  Does Tryz.prog 241 [.pointer (some ⟨g,0,none⟩),.int .i64 m] (Wr g A c bs) w (fun v S'=>v=.tuple #[]∧∃A' c',S'=Wr g A' c' (bs++List.replicate m true++[false])):=by
 refine does_of Tryz.func241 rfl Tryz.ntmps241 rfl hown (fun n=>?_)
 simp only[slots]
 refine z_go2
 refine c_loop (X:=Nat×Option Addr×Nat) (fun x=>x.1≤m) (fun x=>[(0,.pointer (some ⟨g,0,none⟩)),(4,.int .i64 m),(5,.int .i64 x.1)]) (fun x=>Wr g x.2.1 x.2.2 (bs++List.replicate x.1 true)) (fun x=>m-x.1) (0,A,c) (by simp) ⟨rfl,rfl,rfl,trivial⟩ ?_ ?_
 ·simp only[List.replicate_zero,List.append_nil];exact Sub.refl _
 rintro⟨i,A1,c1⟩ hi
 simp only at hi ⊢
 refine z_go2
 refine c_cond rfl (fun h=>?_) (fun h=>?_)
 ·have hlt:i<m:=by simpa using h
  refine z_go2
  refine lfn rfl rfl (Split.cons (.here _ _) (Split.cons (.here _ _) (Split.nil _))) rfl (fun w hw ho=>bit_any g c1 A1 _ true w ho (by simp;omega)) ?_
  rintro v S' ⟨rfl,A2,c2,rfl⟩
  refine z_go2
  refine c_round (i+1,A2,c2) (by show i+1≤m;omega) (by show m-(i+1)<m-i;omega) (by exact⟨rfl,rfl,by simp[look],trivial⟩) ?_
  rw[List.append_assoc,show List.replicate i true++[true]=List.replicate (i+1) true from by rw[List.replicate_succ']]
  exact Sub.refl _
 ·have hge:i=m:=by simp at h;omega
  subst hge
  refine z_go2
  refine lfn rfl rfl (Split.cons (.here _ _) (Split.cons (.here _ _) (Split.nil _))) rfl (fun w hw ho=>bit_any g c1 A1 _ false w ho (by simp;omega)) ?_
  rintro v S' ⟨rfl,A2,c2,rfl⟩
  refine z_go2
  exact j_outN rfl (Sub.refl _) ⟨rfl,A2,c2,rfl⟩
theorem and_oneN(n:Nat)(h:n<18446744073709551616):bits .and .u64 (n:Int) 1=((n%2:Nat):Int):=by
 show IntKind.u64.wrap ((BitVec.ofInt 64 (n:Int) &&& BitVec.ofInt 64 1).toNat:Int)=_
 have e:(BitVec.ofInt 64 (n:Int) &&& BitVec.ofInt 64 1).toNat=n%2:=by
  rw[BitVec.toNat_and,BitVec.ofInt_natCast,BitVec.toNat_ofNat,Nat.mod_eq_of_lt (by omega)]
  exact Nat.and_one_is_mod n
 rw[e,wrap_in (k:=.u64) (c:=((n%2:Nat):Int)) ⟨by omega,by omega⟩]
def numBits(x m:Nat):List Bool:=(List.range m).map fun i=>x.testBit (m-1-i)
theorem numBits_len(x m:Nat):(numBits x m).length=m:=by simp[numBits]
theorem numBits_take(x m i:Nat)(h:i<m):(numBits x m).take (i+1)=(numBits x m).take i++[x.testBit (m-1-i)]:=by
 rw[List.take_succ_eq_append_getElem (by rw[numBits_len];exact h)]
 simp[numBits]
theorem num_any(g c:Nat)(A:Option Addr)(bs:List Bool)(x m:Nat)(w:World)(hown:Own (Wr g A c bs) w)(hm:bs.length<800000000)(hx:x<18446744073709551616)(h64:m≤64):
  Does Tryz.prog 209 [.pointer (some ⟨g,0,none⟩),.int .u64 x,.int .i64 m] (Wr g A c bs) w (fun v S'=>v=.tuple #[]∧∃A' c',S'=Wr g A' c' (bs++numBits x m)):=by
 have hnl:=numBits_len x m
 refine does_of Tryz.func209 rfl Tryz.ntmps209 rfl hown (fun n=>?_)
 simp only[slots]
 refine z_go2
 refine c_loop (X:=Nat×Option Addr×Nat) (fun x=>x.1≤m) (fun y=>[(0,.pointer (some ⟨g,0,none⟩)),(1,.int .u64 x),(2,.int .i64 m),(8,.int .i64 m),(9,.int .i64 y.1)]) (fun y=>Wr g y.2.1 y.2.2 (bs++(numBits x m).take y.1)) (fun y=>m-y.1) (0,A,c) (by simp) ⟨rfl,rfl,rfl,rfl,rfl,trivial⟩ ?_ ?_
 ·simp only[List.take_zero,List.append_nil];exact Sub.refl _
 rintro⟨i,A1,c1⟩ hi
 simp only at hi ⊢
 refine z_go2
 refine c_cond rfl (fun h=>?_) (fun h=>?_)
 ·have hlt:i<m:=by simpa using h
  refine z_go2
  refine j_case 19 rfl (fun h2=>?_) (fun h2=>by exfalso;simp at h2;omega)
  refine z_go2
  have hx2:x/2^(m-1-i)<18446744073709551616:=Nat.lt_of_le_of_lt (Nat.div_le_self _ _) hx
  have hb:(bits .and .u64 ((x:Int)/2^((m:Int)-1-i).toNat) 1==1)=x.testBit (m-1-i):=by
   have e:(x:Int)/2^((m:Int)-1-i).toNat=((x/2^(m-1-i):Nat):Int):=by
    rw[show ((m:Int)-1-i).toNat=m-1-i from by omega];push_cast;rfl
   rw[e,and_oneN _ hx2]
   rw[Nat.testBit_eq_decide_div_mod_eq,Bool.eq_iff_iff];simp only[beq_iff_eq,decide_eq_true_eq];omega
  rw[hb]
  refine lfn rfl rfl (Split.cons (.here _ _) (Split.cons (.here _ _) (Split.nil _))) rfl (fun w hw ho=>bit_any g c1 A1 _ _ w ho (by simp;omega)) ?_
  rintro v S' ⟨rfl,A2,c2,rfl⟩
  refine z_go2
  refine c_round (i+1,A2,c2) (by show i+1≤m;omega) (by show m-(i+1)<m-i;omega) (by exact⟨rfl,rfl,rfl,rfl,by simp[look],trivial⟩) ?_
  rw[numBits_take x m i hlt,← List.append_assoc]
  exact Sub.refl _
 ·have hge:i=m:=by simp at h;omega
  subst hge
  refine z_go2
  rw[List.take_of_length_le (by omega)]
  exact j_outN rfl (Sub.refl _) ⟨rfl,A1,c1,rfl⟩
abbrev Rd(g:Nat)(A:Option Addr)(c:Nat)(ys:List Int)(p:Nat)(wr:Bool):List HE :=
 [.blk g 312 [.slice A ys.length c,.int .i64 p,.bool wr],.row (.slice A ys.length c) 5 1 ys.length (ints .u8 ys)]
theorem read_any(u:Value)(ys:List Int)(w:World)(hr:Ro w (blocks []) 1 u ys.length (ints .u8 ys))(hm:ys.length<100000000):
  Does Tryz.prog 153 [u] [] w (fun v S'=>∃g A' c',v=.pointer (some ⟨g,0,none⟩)∧S'=Rd g A' c' ys 0 false):=by
 refine does_of Tryz.func153 rfl Tryz.ntmps153 rfl ⟨by simp,.nil⟩ (fun n=>?_)
 simp only[slots]
 have:=RoC.mk hr
 refine z_go2
 exact j_out1 rfl rfl (Sub.refl _) ⟨_,_,_,rfl,rfl⟩
theorem right_any(g c:Nat)(A:Option Addr)(ys:List Int)(p:Nat)(wr:Bool)(w:World)(hown:Own (Rd g A c ys p wr) w):
  Does Tryz.prog 203 [.pointer (some ⟨g,0,none⟩)] (Rd g A c ys p wr) w (fun v S'=>v=.bool (!wr)∧S'=Rd g A c ys p wr):=by
 refine does_of Tryz.func203 rfl Tryz.ntmps203 rfl hown (fun n=>?_)
 simp only[slots]
 refine z_go2
 exact j_out1 rfl rfl (Sub.refl _) ⟨rfl,rfl⟩
theorem left_any(g c:Nat)(A:Option Addr)(ys:List Int)(p:Nat)(wr:Bool)(w:World)(hown:Own (Rd g A c ys p wr) w)(hm:ys.length<100000000)(hp:p≤8*ys.length):
  Does Tryz.prog 207 [.pointer (some ⟨g,0,none⟩)] (Rd g A c ys p wr) w (fun v S'=>v=.int .i64 (8*ys.length-p)∧S'=Rd g A c ys p wr):=by
 refine does_of Tryz.func207 rfl Tryz.ntmps207 rfl hown (fun n=>?_)
 simp only[slots]
 refine z_go2
 exact j_out1 rfl rfl (Sub.refl _) ⟨rfl,rfl⟩
def bitY(ys:List Int)(i:Nat):Bool:=bits .and .u8 (ys.getD (i/8) 0) (128/2^(i%8)) != 0
theorem rbit_yes(g c:Nat)(A:Option Addr)(ys:List Int)(p:Nat)(w:World)(hown:Own (Rd g A c ys p false) w)(hm:ys.length<100000000)(hp:p<8*ys.length):
  Does Tryz.prog 208 [.pointer (some ⟨g,0,none⟩)] (Rd g A c ys p false) w (fun v S'=>v=.bool (bitY ys p)∧S'=Rd g A c ys (p+1) false):=by
 refine does_of Tryz.func208 rfl Tryz.ntmps208 rfl hown (fun n=>?_)
 simp only[slots]
 refine z_go2
 refine lfk (v:=.int .i64 (8*ys.length-p)) rfl rfl (Split.cons (.here _ _) (Split.cons (.here _ _) (Split.nil _))) (Sub.refl _) rfl (fun w hw ho=>left_any g c A ys p false w ho hm (by omega)) ?_
 refine z_go2
 refine c_cond rfl (fun h=>by exfalso;simp at h;omega) (fun h=>?_)
 refine z_go2
 refine j_opn (A:=A) (m:=ys.length) (cc:=c) (by omega) ?_
 rintro g1 rfl
 refine z_go2
 have e0:((p:Int)/8).toNat=p/8:=by omega
 have e3:((p:Int)%8).toNat=p%8:=by omega
 rw[e0,e3]
 exact j_out1 rfl rfl (Sub.refl _) ⟨rfl,rfl⟩
theorem rbit_no(g c:Nat)(A:Option Addr)(ys:List Int)(p:Nat)(wr:Bool)(w:World)(hown:Own (Rd g A c ys p wr) w)(hm:ys.length<100000000)(hp:wr=true∧p≤8*ys.length∨p=8*ys.length):
  Does Tryz.prog 208 [.pointer (some ⟨g,0,none⟩)] (Rd g A c ys p wr) w (fun v S'=>v=.bool false∧S'=Rd g A c ys p true):=by
 refine does_of Tryz.func208 rfl Tryz.ntmps208 rfl hown (fun n=>?_)
 simp only[slots]
 cases wr with
 | true =>
  refine z_go2
  exact j_out1 rfl rfl (Sub.refl _) ⟨rfl,rfl⟩
 | false =>
  refine z_go2
  refine lfk (v:=.int .i64 (8*ys.length-p)) rfl rfl (Split.cons (.here _ _) (Split.cons (.here _ _) (Split.nil _))) (Sub.refl _) rfl (fun w hw ho=>left_any g c A ys p false w ho hm (by omega)) ?_
  refine z_go2
  have hp':p=8*ys.length:=by rcases hp with⟨h,-⟩|h;cases h;exact h
  refine c_cond rfl (fun h=>?_) (fun h=>by exfalso;simp at h;omega)
  refine z_go2
  exact j_out1 rfl rfl (Sub.refl _) ⟨rfl,rfl⟩
def numV(ys:List Int)(p:Nat):Nat→Nat
 | 0=>0
 | k+1=>2*numV ys p k+if bitY ys (p+k)then 1 else 0
theorem numV_lt(ys:List Int)(p k:Nat):numV ys p k<2^k:=by
 induction k with
 | zero=>simp[numV]
 | succ k ih=>simp only[numV,Nat.pow_succ];split<;>omega
theorem or_one(v:Nat)(h:2*v+1<18446744073709551616):bits .or .u64 ((2*v:Nat):Int) 1=((2*v+1:Nat):Int):=by
 have e:(2*v) ||| 1=2*v+1:=by
  have:=Nat.two_pow_add_eq_or_of_lt (i:=1) (b:=1) (by omega) v
  simpa using this.symm
 have h1:(BitVec.ofInt 64 ((2*v:Nat):Int) ||| BitVec.ofInt 64 1).toNat=2*v+1:=by
  rw[BitVec.toNat_or,BitVec.ofInt_natCast,BitVec.toNat_ofNat,Nat.mod_eq_of_lt (by omega)]
  exact e
 show IntKind.u64.wrap ((BitVec.ofInt 64 ((2*v:Nat):Int) ||| BitVec.ofInt 64 1).toNat:Int)=_
 rw[h1,wrap_in]
 exact⟨by omega,by omega⟩
theorem rnum_yes(g c:Nat)(A:Option Addr)(ys:List Int)(p m:Nat)(w:World)(hown:Own (Rd g A c ys p false) w)(hm:ys.length<100000000)(hp:p+m≤8*ys.length)(h64:m≤63):
  Does Tryz.prog 202 [.pointer (some ⟨g,0,none⟩),.int .i64 m] (Rd g A c ys p false) w (fun v S'=>v=.int .u64 (numV ys p m)∧S'=Rd g A c ys (p+m) false):=by
 refine does_of Tryz.func202 rfl Tryz.ntmps202 rfl hown (fun n=>?_)
 simp only[slots]
 refine z_go2
 refine j_case 8 rfl (fun h=>by exfalso;simp at h;omega) (fun h=>?_)
 refine z_go2
 refine lfk (v:=.int .i64 (8*ys.length-p)) rfl rfl (Split.cons (.here _ _) (Split.cons (.here _ _) (Split.nil _))) (Sub.refl _) rfl (fun w hw ho=>left_any g c A ys p false w ho hm (by omega)) ?_
 refine z_go2
 refine j_case 14 rfl (fun h=>by exfalso;simp at h;omega) (fun h=>?_)
 refine z_go2
 refine c_loop (X:=Nat) (fun i=>i≤m) (fun i=>[(0,.pointer (some ⟨g,0,none⟩)),(1,.int .i64 m),(5,.int .u64 (numV ys p i)),(23,.int .i64 m),(24,.int .i64 i)]) (fun i=>Rd g A c ys (p+i) false) (fun i=>m-i) 0 (by simp) ⟨rfl,rfl,rfl,rfl,rfl,trivial⟩ (Sub.refl _) ?_
 intro i hi
 refine z_go2
 refine c_cond rfl (fun h=>?_) (fun h=>?_)
 ·have hlt:i<m:=by simpa using h
  have hv:=numV_lt ys p i
  have h2:2^i*4≤2^64:=by rw[show (4:Nat)=2^2 from rfl,← Nat.pow_add];exact Nat.pow_le_pow_right (by omega) (by omega)
  rw[show (2:Nat)^64=18446744073709551616 from by decide]at h2
  refine z_go2
  rw[show (numV ys p i:Int)*2^1=((2*numV ys p i:Nat):Int)from by omega]
  refine lfn rfl rfl (Split.cons (.here _ _) (Split.cons (.here _ _) (Split.nil _))) rfl (fun w hw ho=>rbit_yes g c A ys (p+i) w ho hm (by omega)) ?_
  rintro v S' ⟨rfl,rfl⟩
  refine z_go2
  have hor:=or_one (numV ys p i) (by omega)
  refine c_cond rfl (fun hb=>?_) (fun hb=>?_)
  ·have e1:numV ys p (i+1)=2*numV ys p i+1:=by simp[numV,hb]
   refine z_go2
   refine c_round (i+1) (by show i+1≤m;omega) (by show m-(i+1)<m-i;omega) (by refine⟨rfl,rfl,?_,rfl,by simp[look],trivial⟩;rw[e1,← hor];rfl) ?_
   exact(Sub.refl _)
  ·have e1:numV ys p (i+1)=2*numV ys p i:=by simp[numV,hb]
   refine z_go2
   refine c_round (i+1) (by show i+1≤m;omega) (by show m-(i+1)<m-i;omega) (by refine⟨rfl,rfl,?_,rfl,by simp[look],trivial⟩;rw[e1];rfl) ?_
   exact(Sub.refl _)
 ·have hge:i=m:=by simp at h;omega
  subst hge
  refine z_go2
  exact j_out1 rfl rfl (Sub.refl _) ⟨rfl,rfl⟩
theorem rnum_no(g c:Nat)(A:Option Addr)(ys:List Int)(p m:Nat)(wr:Bool)(w:World)(hown:Own (Rd g A c ys p wr) w)(hm:ys.length<100000000)(hp:p≤8*ys.length)(h64:m≤63)(hno:wr=true∨8*ys.length<p+m):
  Does Tryz.prog 202 [.pointer (some ⟨g,0,none⟩),.int .i64 m] (Rd g A c ys p wr) w (fun v S'=>v=.int .u64 0∧S'=Rd g A c ys p true):=by
 refine does_of Tryz.func202 rfl Tryz.ntmps202 rfl hown (fun n=>?_)
 simp only[slots]
 refine z_go2
 refine j_case 8 rfl (fun h=>by exfalso;simp at h;omega) (fun h=>?_)
 refine z_go2
 refine lfk (v:=.int .i64 (8*ys.length-p)) rfl rfl (Split.cons (.here _ _) (Split.cons (.here _ _) (Split.nil _))) (Sub.refl _) rfl (fun w hw ho=>left_any g c A ys p wr w ho hm (by omega)) ?_
 refine z_go2
 refine j_case 14 rfl (fun h=>?_) (fun h=>?_)
 ·refine z_go2
  exact j_out1 rfl rfl (Sub.refl _) ⟨rfl,rfl⟩
 ·obtain rfl:wr=true:=by rcases hno with e|e;exact e;exfalso;simp at h;omega
  refine z_go2
  exact j_out1 rfl rfl (Sub.refl _) ⟨rfl,rfl⟩
theorem rones_yes(g c:Nat)(A:Option Addr)(ys:List Int)(p m j:Nat)(w:World)(hown:Own (Rd g A c ys p false) w)(hm:ys.length<100000000)(hj:j≤m)(hp:p+j<8*ys.length)(hm2:m<1000000)
  (h1:∀i,i<j→bitY ys (p+i)=true) (h0:bitY ys (p+j)=false) :
  Does Tryz.prog 236 [.pointer (some ⟨g,0,none⟩),.int .i64 m] (Rd g A c ys p false) w (fun v S'=>v=.int .i64 j∧S'=Rd g A c ys (p+j+1) false):=by
 refine does_of Tryz.func236 rfl Tryz.ntmps236 rfl hown (fun n=>?_)
 simp only[slots]
 refine z_go2
 refine c_loop (X:=Nat) (fun i=>i≤j) (fun i=>[(0,.pointer (some ⟨g,0,none⟩)),(1,.int .i64 m),(5,.int .i64 i)]) (fun i=>Rd g A c ys (p+i) false) (fun i=>j-i) 0 (by simp) ⟨rfl,rfl,rfl,trivial⟩ (Sub.refl _) ?_
 intro i hi
 refine z_go2
 refine lfn rfl rfl (Split.cons (.here _ _) (Split.cons (.here _ _) (Split.nil _))) rfl (fun w hw ho=>rbit_yes g c A ys (p+i) w ho hm (by omega)) ?_
 rintro v S' ⟨rfl,rfl⟩
 by_cases hlt:i<j
 ·rw[h1 i hlt]
  refine z_go2
  refine c_cond rfl (fun h=>by exfalso;simp at h;omega) (fun h=>?_)
  refine z_go2
  exact c_round (i+1) (by show i+1≤j;omega) (by show j-(i+1)<j-i;omega) (by exact⟨rfl,rfl,by simp[look],trivial⟩) (Sub.refl _)
 ·obtain rfl:i=j:=by omega
  rw[h0]
  refine z_go2
  exact j_out1 rfl rfl (Sub.refl _) ⟨rfl,rfl⟩
theorem rones_no(g c:Nat)(A:Option Addr)(ys:List Int)(p m:Nat)(w:World)(hown:Own (Rd g A c ys p false) w)(hm:ys.length<100000000)(hp:p≤8*ys.length)(hm2:m<1000000)
  (hno:∀j,j≤m→p+j<8*ys.length→(∀i,i<j→bitY ys (p+i)=true)→bitY ys (p+j)=true) :
  Does Tryz.prog 236 [.pointer (some ⟨g,0,none⟩),.int .i64 m] (Rd g A c ys p false) w (fun v S'=>v=.int .i64 0∧∃p',p'≤8*ys.length∧S'=Rd g A c ys p' true):=by
 refine does_of Tryz.func236 rfl Tryz.ntmps236 rfl hown (fun n=>?_)
 simp only[slots]
 refine z_go2
 refine c_loop (X:=Nat) (fun i=>i≤m∧p+i≤8*ys.length∧∀k,k<i→bitY ys (p+k)=true) (fun i=>[(0,.pointer (some ⟨g,0,none⟩)),(1,.int .i64 m),(5,.int .i64 i)]) (fun i=>Rd g A c ys (p+i) false) (fun i=>m-i) 0 (by simp;omega) ⟨rfl,rfl,rfl,trivial⟩ (Sub.refl _) ?_
 rintro i ⟨hi1,hi2,hi3⟩
 refine z_go2
 by_cases hlt:p+i<8*ys.length
 ·have hb:=hno i hi1 hlt hi3
  refine lfn rfl rfl (Split.cons (.here _ _) (Split.cons (.here _ _) (Split.nil _))) rfl (fun w hw ho=>rbit_yes g c A ys (p+i) w ho hm (by omega)) ?_
  rintro v S' ⟨rfl,rfl⟩
  rw[hb]
  refine z_go2
  refine c_cond rfl (fun h=>?_) (fun h=>?_)
  ·refine z_go2
   exact j_out1 rfl rfl (Sub.refl _) ⟨rfl,p+i+1,by omega,rfl⟩
  ·have hlm:i<m:=by simp at h;omega
   refine z_go2
   refine c_round (i+1) ⟨by omega,by omega,fun k hk=>?_⟩ (by show m-(i+1)<m-i;omega) (by exact⟨rfl,rfl,by simp[look],trivial⟩) (Sub.refl _)
   by_cases e:k=i
   ·subst e;exact hb
   ·exact hi3 k (by omega)
 ·refine lfn rfl rfl (Split.cons (.here _ _) (Split.cons (.here _ _) (Split.nil _))) rfl (fun w hw ho=>rbit_no g c A ys (p+i) false w ho hm (.inr (by omega))) ?_
  rintro v S' ⟨rfl,rfl⟩
  refine z_go2
  exact j_out1 rfl rfl (Sub.refl _) ⟨rfl,p+i,by omega,rfl⟩
end Go.Proofs.YthajpemlpmlefaaGreat
