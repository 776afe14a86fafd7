import Derived.Test.YtbhchphfmhmabaaGreatP20
set_option maxHeartbeats 512000000
set_option maxRecDepth 4000
set_option linter.unusedVariables false
set_option linter.unusedSimpArgs false
namespace Go.Proofs.YtbhchphfmhmabaaGreat
open Go.RowKit _root_.Go.Proofs.Tryz
def aH2(L:List Int):Int:=(lK L*(L.length:Nat)-jB L*jB L)*16*16
def yC(L:List Int):Nat:=(IntKind.u64.wrap (IntKind.i64.wrap ((aH2 L).tdiv ((L.length:Nat)*(L.length:Nat))))).toNat
def sV(L:List Int):Int×Int:=if L.length=0 then (0,0)else (((gB (yC L):Nat):Int),((L.length:Nat):Int))
theorem aH3(L:List Int):IntKind.u64.wrap (IntKind.i64.wrap ((aH2 L).tdiv ((L.length:Nat)*(L.length:Nat))))=((yC L:Nat):Int)∧yC L<18446744073709551616:=by unfold yC;generalize IntKind.i64.wrap ((aH2 L).tdiv ((L.length:Nat)*(L.length:Nat)))=t;rw[IntKind.wrap_u64];omega
theorem aCo{x:Nat}(h:x<18446744073709551616):gB x<4294967296:=by
 rcases Nat.lt_or_ge (gB x) 4294967296 with h1|h1
 ·exact h1
 ·have:=Nat.mul_le_mul h1 h1;have:=(aCp x).1;omega
def tU(W H:Nat)(f:List Int)(x y far:Int):List Int:=qL W H f x y (min (max far 0) 8).toNat (2*(min (max far 0) 8).toNat+1)
theorem bAa{L:List Int}(h:∀z∈L,-32768≤z∧z≤32767)(hl:L.length≤289):(0≤lK L*(L.length:Nat)∧lK L*(L.length:Nat)≤90000000000000)∧(0≤jB L*jB L∧jB L*jB L≤90000000000000)∧(0≤((L.length:Nat):Int)*(L.length:Nat)∧((L.length:Nat):Int)*(L.length:Nat)≤83521):=by
 obtain⟨⟨h1,h2⟩,h3,h4⟩:=aHg L h;have m1:=gY 310311387136 289 (a:=lK L) (b:=(L.length:Nat)) oo oo;have m2:=gY 9469952 9469952 (a:=jB L) (b:=jB L) oo oo;have m3:=gY 289 289 (a:=(L.length:Nat)) (b:=(L.length:Nat)) oo oo;have p1:0≤lK L*(L.length:Nat):=Int.mul_nonneg h3 oo;have p2:0≤jB L*jB L:=by
  rcases Int.lt_or_le (jB L) 0 with h|h
  ·exact Int.le_of_lt (Int.mul_pos_of_neg_of_neg h h)
  ·exact Int.mul_nonneg h h
 have p3:0≤((L.length:Nat):Int)*(L.length:Nat):=Int.mul_nonneg oo oo;omega
attribute [local irreducible] OJ J bM Code.wpIn wpListIn Oper.wpIn bodyPost CallsIn aF
theorem bAb(K:eH)(s:dK)(f:List Int)(x y far b:Int)(w:World)(hown:aZ (K.H s) w)(hF:jS K.ys f K.room)(h:cO K.ys f K.room s b)(hb:b≤900000000000000000):
  aF prog 198 [.pointer (some ⟨K.g,0,none⟩),.int .i64 x,.int .i64 y,.int .i64 far] (K.H s) w (fun v S'=>∃s',v=.tuple #[.int .i64 (sV (tU (wY K.ys) (hY K.ys) f x y far)).1,.int .i64 (sV (tU (wY K.ys) (hY K.ys) f x y far)).2]∧cO K.ys f K.room s' (b+400)∧S'=K.H s'):=by
 obtain⟨fr,hfr⟩:∃fr:Nat,min (max far 0) 8=(fr:Int):=⟨(min (max far 0) 8).toNat,oo⟩;have hf8:fr≤8:=oo;obtain⟨a1,a2⟩:=aEc hF.good.1 (W:=wY K.ys) (H:=hY K.ys) x y hf8 (2*fr+1);refine aJ func198 rfl ntmps198 rfl hown (fun n=>?_);simp only[aG];unfold tU;rw[hfr,Int.toNat_natCast];generalize hL:qL (wY K.ys) (hY K.ys) f x y fr (2*fr+1)=L at *;have hrn:=bAa a2 oo;refine aB;rename_i b4 b5 b6 b7 b10 b11 b12;rw[hfr];refine lfc rfl rfl rfl rfl (S:=K.HC s (zO K b7 b4 b5 b6 fr x y [.blk b10 2 [.int .i64 0],.blk b11 2 [.int .i64 0],.blk b12 2 [.int .i64 0]])) (fun w hw ho=>bA6 K s f x y b fr b7 b4 b5 b6 b10 b11 b12 w hf8 hF h hb ho) ?_;rintro v S' ⟨s',k1,rfl⟩;rw[hL];rcases Nat.eq_zero_or_pos L.length with h0|h0
 ·have e:sV L=(0,0):=if_pos h0;rw[e];refine aB;all_goals first
   | exact cY rfl rfl rfl aA.au ⟨s',rfl,k1,rfl⟩
   | (exfalso;omega)
 ·have e:sV L=(((gB (yC L):Nat):Int),((L.length:Nat):Int)):=if_neg oo;rw[e];refine aB;have hnn:0<((L.length:Nat):Int)*(L.length:Nat):=Int.mul_pos oo oo;refine kG (0::1::2::3::4::5::6::7::8::9::10::11::12::13::14::15::16::17::18::[]) ?_;intro _;refine gO;obtain⟨x1,x2⟩:=aH3 L;have x3:=aCo x2;refine eY 36 _ rfl (congrArg (Value.int .u64) x1) ?_;refine gO;refine bU rfl rfl rfl (fun w _=>aK3 (yC L) w x2) ?_;refine gO;exact cY rfl rfl rfl aA.au ⟨s',rfl,k1,rfl⟩
def wt(x:Int)(i:Nat):Int:=if i=0 then 256-x%256 else x%256
def hR(W H:Nat)(f:List Int)(a b:Int):List Int:=if (mF W H f a b).2=0 then [(mF W H f a b).1]else []
section
variable {W H:Nat} {f:List Int} {x y:Int} {μ:List Int→Int} (h0:μ []=0) (ha:∀a b,μ (a++b)=μ a+μ b)
include h0 ha
end
