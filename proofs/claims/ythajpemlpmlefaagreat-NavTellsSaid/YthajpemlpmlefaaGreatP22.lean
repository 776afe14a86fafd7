import Derived.Test.YthajpemlpmlefaaGreatP20
set_option maxHeartbeats 512000000
set_option maxRecDepth 4000
set_option linter.unusedVariables false
set_option linter.unusedSimpArgs false
namespace Go.Proofs.YthajpemlpmlefaaGreat
open Go.RowKit
def roughE(L:List Int):Int:=(sqZ L*(L.length:Nat)-sumZ L*sumZ L)*16*16
def roughX(L:List Int):Nat:=(IntKind.u64.wrap (IntKind.i64.wrap ((roughE L).tdiv ((L.length:Nat)*(L.length:Nat))))).toNat
def roughR(L:List Int):Int×Int:=if L.length=0 then (0,0)else (((isq (roughX L):Nat):Int),((L.length:Nat):Int))
theorem roughX_eq(L:List Int):IntKind.u64.wrap (IntKind.i64.wrap ((roughE L).tdiv ((L.length:Nat)*(L.length:Nat))))=((roughX L:Nat):Int)∧roughX L<18446744073709551616:=by
 unfold roughX
 generalize IntKind.i64.wrap ((roughE L).tdiv ((L.length:Nat)*(L.length:Nat)))=t
 rw[IntKind.wrap_u64]
 omega
theorem isq_lt{x:Nat}(h:x<18446744073709551616):isq x<4294967296:=by
 rcases Nat.lt_or_ge (isq x) 4294967296 with h1|h1
 ·exact h1
 ·have:=Nat.mul_le_mul h1 h1
  have:=(isq_spec x).1
  omega
def sqH(W H:Nat)(f:List Int)(x y far:Int):List Int:=allH W H f x y (min (max far 0) 8).toNat (2*(min (max far 0) 8).toNat+1)
theorem rough_in{L:List Int}(h:∀z∈L,-32768≤z∧z≤32767)(hl:L.length≤289):(0≤sqZ L*(L.length:Nat)∧sqZ L*(L.length:Nat)≤90000000000000)∧(0≤sumZ L*sumZ L∧sumZ L*sumZ L≤90000000000000)∧(0≤((L.length:Nat):Int)*(L.length:Nat)∧((L.length:Nat):Int)*(L.length:Nat)≤83521):=by
 obtain⟨⟨h1,h2⟩,h3,h4⟩:=sum_in L h
 have m1:=mulB 310311387136 289 (a:=sqZ L) (b:=(L.length:Nat)) (by omega) (by omega)
 have m2:=mulB 9469952 9469952 (a:=sumZ L) (b:=sumZ L) (by omega) (by omega)
 have m3:=mulB 289 289 (a:=(L.length:Nat)) (b:=(L.length:Nat)) (by omega) (by omega)
 have p1:0≤sqZ L*(L.length:Nat):=Int.mul_nonneg h3 (by omega)
 have p2:0≤sumZ L*sumZ L:=by
  rcases Int.lt_or_le (sumZ L) 0 with h|h
  ·exact Int.le_of_lt (Int.mul_pos_of_neg_of_neg h h)
  ·exact Int.mul_nonneg h h
 have p3:0≤((L.length:Nat):Int)*(L.length:Nat):=Int.mul_nonneg (by omega) (by omega)
 omega
attribute [local irreducible] OJ J HdJ Code.wpIn wpListIn Oper.wpIn bodyPost CallsIn Does
theorem rough_t(K:CaT)(s:CaV)(f:List Int)(x y far b:Int)(w:World)(hown:Own (K.H s) w)(hF:CaF K.ys f K.room)(h:CaOk K.ys f K.room s b)(hb:b≤900000000000000000):
  Does Tryz.prog 58 [.pointer (some ⟨K.g,0,none⟩),.int .i64 x,.int .i64 y,.int .i64 far] (K.H s) w (fun v S'=>∃s',v=.tuple #[.int .i64 (roughR (sqH (wY K.ys) (hY K.ys) f x y far)).1,.int .i64 (roughR (sqH (wY K.ys) (hY K.ys) f x y far)).2]∧CaOk K.ys f K.room s' (b+400)∧S'=K.H s'):=by
 obtain⟨fr,hfr⟩:∃fr:Nat,min (max far 0) 8=(fr:Int):=⟨(min (max far 0) 8).toNat,by omega⟩
 have hf8:fr≤8:=by omega
 obtain⟨a1,a2⟩:=allH_in hF.good.1 (W:=wY K.ys) (H:=hY K.ys) x y hf8 (2*fr+1)
 refine does_of Tryz.func58 rfl Tryz.ntmps58 rfl hown (fun n=>?_)
 simp only[slots]
 unfold sqH
 rw[hfr,Int.toNat_natCast]
 generalize hL:allH (wY K.ys) (hY K.ys) f x y fr (2*fr+1)=L at *
 have hrn:=rough_in a2 (by omega)
 refine z_tas
 rename_i b4 b5 b6 b7 b10 b11 b12
 rw[hfr]
 refine lfc rfl rfl rfl rfl (S:=K.HC s (rgE K b7 b4 b5 b6 fr x y [.blk b10 2 [.int .i64 0],.blk b11 2 [.int .i64 0],.blk b12 2 [.int .i64 0]])) (fun w hw ho=>rough1_any K s f x y b fr b7 b4 b5 b6 b10 b11 b12 w hf8 hF h hb ho) ?_
 rintro v S' ⟨s',k1,rfl⟩
 rw[hL]
 rcases Nat.eq_zero_or_pos L.length with h0|h0
 ·have e:roughR L=(0,0):=if_pos h0
  rw[e]
  refine z_tas
  all_goals first
   | exact j_out2 rfl rfl rfl Sub.au ⟨s',rfl,k1,rfl⟩
   | (exfalso;omega)
 ·have e:roughR L=(((isq (roughX L):Nat):Int),((L.length:Nat):Int)):=if_neg (by omega)
  rw[e]
  refine z_tas
  have hnn:0<((L.length:Nat):Int)*(L.length:Nat):=Int.mul_pos (by omega) (by omega)
  refine c_dv (0::1::2::3::4::5::6::7::8::9::10::11::12::13::14::15::16::17::18::[]) ?_;intro _
  refine z_govG
  obtain⟨x1,x2⟩:=roughX_eq L
  have x3:=isq_lt x2
  refine j_set 36 _ rfl (congrArg (Value.int .u64) x1) ?_
  refine z_govG
  refine lfv rfl rfl rfl (fun w _=>floor_any (roughX L) w x2) ?_
  refine z_govG
  exact j_out2 rfl rfl rfl Sub.au ⟨s',rfl,k1,rfl⟩
def wt(x:Int)(i:Nat):Int:=if i=0 then 256-x%256 else x%256
def hR(W H:Nat)(f:List Int)(a b:Int):List Int:=if (heightF W H f a b).2=0 then [(heightF W H f a b).1]else []
section
variable {W H:Nat} {f:List Int} {x y:Int} {μ:List Int→Int} (h0:μ []=0) (ha:∀a b,μ (a++b)=μ a+μ b)
include h0 ha
end
end Go.Proofs.YthajpemlpmlefaaGreat
