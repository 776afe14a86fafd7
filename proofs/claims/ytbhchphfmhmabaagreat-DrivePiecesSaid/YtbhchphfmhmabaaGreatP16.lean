import Derived.Test.YtbhchphfmhmabaaGreatP09
set_option maxHeartbeats 512000000
set_option maxRecDepth 4000
set_option linter.unusedVariables false
set_option linter.unusedSimpArgs false
namespace Go.Proofs.YtbhchphfmhmabaaGreat
open Go.RowKit _root_.Go.Proofs.Tryz
theorem oH{w0:World}(g o:Nat)(t:TypeId)(cs:Array Value)(s:Ln)(k:Int)(w:World)(U:cL w0 g t cs o s.enc w)(h0:0≤k)(h6:k≤6):
  Calls prog 106 #[.pointer (some ⟨g,o,none⟩),.int .i64 k] w fun e w'=>e=.returned (.int .i64 k)∧cL w0 g t cs o (s.note k).enc w' :=
 (aWw g o t cs s k w U.1 h0 h6).mono fun _ _ ⟨he,hu⟩=>⟨he,U.trans hu⟩
theorem aZh(g o:Nat)(t:TypeId)(cs:Array Value)(s:Ln)(kind seq time a b c:Int)(w:World)(H:dA w g t cs o s.enc)(ha : -2147483648≤a)(hb:a<2147483648)
  (c1:a<0) :
  Calls prog 108 #[.pointer (some ⟨g,o,none⟩),dQ kind seq time a b c] w fun e w'=>e=.returned (.tuple #[.int .i64 2,.int .i64 0,.bool false])∧cL w g t cs o (s.note 2).enc w':=by
 have h0:w.cell? ⟨g,o,none⟩=some (.int .u32 s.age):=H.cell_is (k:=0) rfl;have h1:w.cell? ⟨g,o+1,none⟩=some (.int .i64 s.jump):=H.cell_is rfl;have h2:w.cell? ⟨g,o+2,none⟩=some (.int .i64 s.throw):=H.cell_is rfl;have h3:w.cell? ⟨g,o+3,none⟩=some (.int .i64 s.most):=H.cell_is rfl;have h7:w.cell? ⟨g,o+7,none⟩=some (.int .i64 s.high):=H.cell_is rfl;have h8:w.cell? ⟨g,o+8,none⟩=some (.int .u32 s.since):=H.cell_is rfl;have h9:w.cell? ⟨g,o+9,none⟩=some (.bool s.has):=H.cell_is rfl;have h10:w.cell? ⟨g,o+10,none⟩=some (.int .i64 s.last):=H.cell_is rfl;have h11:w.cell? ⟨g,o+11,none⟩=some (.bool s.based):=H.cell_is rfl;have h12:w.cell? ⟨g,o+12,none⟩=some (.int .i64 s.threw):=H.cell_is rfl;have f10:w.frozen? ⟨g,o+10,none⟩=false:=H.frozen _;have f11:w.frozen? ⟨g,o+11,none⟩=false:=H.frozen _;have f12:w.frozen? ⟨g,o+12,none⟩=false:=H.frozen _;have hg:=H.lt;have HH:=Lib.hid H;clear H;unfold dQ
 go_enter func108,ntmps108
 go_wp2_with fail
 refine(oH g o t cs s 2 _ ((cL.start HH.out).alloc _) od od).mono ?_;rintro e w' ⟨rfl,hu⟩
 go_wp2
 go_ret3
 exact⟨rfl,hu⟩
theorem aZj(g o:Nat)(t:TypeId)(cs:Array Value)(s:Ln)(kind seq time a b c:Int)(w:World)(H:dA w g t cs o s.enc)(ha : -2147483648≤a)(hb:a<2147483648)
  (c1:0≤a) (c2:s.most<a) :
  Calls prog 108 #[.pointer (some ⟨g,o,none⟩),dQ kind seq time a b c] w fun e w'=>e=.returned (.tuple #[.int .i64 2,.int .i64 0,.bool false])∧cL w g t cs o (s.note 2).enc w':=by
 have h0:w.cell? ⟨g,o,none⟩=some (.int .u32 s.age):=H.cell_is (k:=0) rfl;have h1:w.cell? ⟨g,o+1,none⟩=some (.int .i64 s.jump):=H.cell_is rfl;have h2:w.cell? ⟨g,o+2,none⟩=some (.int .i64 s.throw):=H.cell_is rfl;have h3:w.cell? ⟨g,o+3,none⟩=some (.int .i64 s.most):=H.cell_is rfl;have h7:w.cell? ⟨g,o+7,none⟩=some (.int .i64 s.high):=H.cell_is rfl;have h8:w.cell? ⟨g,o+8,none⟩=some (.int .u32 s.since):=H.cell_is rfl;have h9:w.cell? ⟨g,o+9,none⟩=some (.bool s.has):=H.cell_is rfl;have h10:w.cell? ⟨g,o+10,none⟩=some (.int .i64 s.last):=H.cell_is rfl;have h11:w.cell? ⟨g,o+11,none⟩=some (.bool s.based):=H.cell_is rfl;have h12:w.cell? ⟨g,o+12,none⟩=some (.int .i64 s.threw):=H.cell_is rfl;have f10:w.frozen? ⟨g,o+10,none⟩=false:=H.frozen _;have f11:w.frozen? ⟨g,o+11,none⟩=false:=H.frozen _;have f12:w.frozen? ⟨g,o+12,none⟩=false:=H.frozen _;have hg:=H.lt;have HH:=Lib.hid H;clear H;unfold dQ
 go_enter func108,ntmps108
 go_wp2_with fail
 refine(oH g o t cs s 2 _ ((cL.start HH.out).alloc _) od od).mono ?_;rintro e w' ⟨rfl,hu⟩
 go_wp2
 go_ret3
 exact⟨rfl,hu⟩
theorem aZk(g o:Nat)(t:TypeId)(cs:Array Value)(s:Ln)(kind seq time a b c:Int)(w:World)(H:dA w g t cs o s.enc)(ha : -2147483648≤a)(hb:a<2147483648)
  (c1:0≤a) (c2:a≤s.most) (c3:s.has=false) :
  Calls prog 108 #[.pointer (some ⟨g,o,none⟩),dQ kind seq time a b c] w fun e w'=>e=.returned (.tuple #[.int .i64 3,.int .i64 0,.bool false])∧cL w g t cs o (s.note 3).enc w':=by
 have h0:w.cell? ⟨g,o,none⟩=some (.int .u32 s.age):=H.cell_is (k:=0) rfl;have h1:w.cell? ⟨g,o+1,none⟩=some (.int .i64 s.jump):=H.cell_is rfl;have h2:w.cell? ⟨g,o+2,none⟩=some (.int .i64 s.throw):=H.cell_is rfl;have h3:w.cell? ⟨g,o+3,none⟩=some (.int .i64 s.most):=H.cell_is rfl;have h7:w.cell? ⟨g,o+7,none⟩=some (.int .i64 s.high):=H.cell_is rfl;have h8:w.cell? ⟨g,o+8,none⟩=some (.int .u32 s.since):=H.cell_is rfl;have h9:w.cell? ⟨g,o+9,none⟩=some (.bool s.has):=H.cell_is rfl;have h10:w.cell? ⟨g,o+10,none⟩=some (.int .i64 s.last):=H.cell_is rfl;have h11:w.cell? ⟨g,o+11,none⟩=some (.bool s.based):=H.cell_is rfl;have h12:w.cell? ⟨g,o+12,none⟩=some (.int .i64 s.threw):=H.cell_is rfl;have f10:w.frozen? ⟨g,o+10,none⟩=false:=H.frozen _;have f11:w.frozen? ⟨g,o+11,none⟩=false:=H.frozen _;have f12:w.frozen? ⟨g,o+12,none⟩=false:=H.frozen _;have hg:=H.lt;have HH:=Lib.hid H;clear H;rw[c3]at h9;clear c3;unfold dQ
 go_enter func108,ntmps108
 go_wp2_with fail
 go_quiet (fail)
 go_wp2_with fail
 refine(oH g o t cs s 3 _ (((cL.start HH.out).alloc _).drewN _) od od).mono ?_;rintro e w' ⟨rfl,hu⟩
 go_wp2
 go_ret3
 exact⟨rfl,hu⟩
theorem aZl(g o:Nat)(t:TypeId)(cs:Array Value)(s:Ln)(kind seq time a b c:Int)(w:World)(H:dA w g t cs o s.enc)(ha : -2147483648≤a)(hb:a<2147483648)
  (c1:0≤a) (c2:a≤s.most) (c3:s.has=true) (c4:s.age<(time-s.since)%4294967296) :
  Calls prog 108 #[.pointer (some ⟨g,o,none⟩),dQ kind seq time a b c] w fun e w'=>e=.returned (.tuple #[.int .i64 3,.int .i64 0,.bool false])∧cL w g t cs o (s.note 3).enc w':=by
 have h0:w.cell? ⟨g,o,none⟩=some (.int .u32 s.age):=H.cell_is (k:=0) rfl;have h1:w.cell? ⟨g,o+1,none⟩=some (.int .i64 s.jump):=H.cell_is rfl;have h2:w.cell? ⟨g,o+2,none⟩=some (.int .i64 s.throw):=H.cell_is rfl;have h3:w.cell? ⟨g,o+3,none⟩=some (.int .i64 s.most):=H.cell_is rfl;have h7:w.cell? ⟨g,o+7,none⟩=some (.int .i64 s.high):=H.cell_is rfl;have h8:w.cell? ⟨g,o+8,none⟩=some (.int .u32 s.since):=H.cell_is rfl;have h9:w.cell? ⟨g,o+9,none⟩=some (.bool s.has):=H.cell_is rfl;have h10:w.cell? ⟨g,o+10,none⟩=some (.int .i64 s.last):=H.cell_is rfl;have h11:w.cell? ⟨g,o+11,none⟩=some (.bool s.based):=H.cell_is rfl;have h12:w.cell? ⟨g,o+12,none⟩=some (.int .i64 s.threw):=H.cell_is rfl;have f10:w.frozen? ⟨g,o+10,none⟩=false:=H.frozen _;have f11:w.frozen? ⟨g,o+11,none⟩=false:=H.frozen _;have f12:w.frozen? ⟨g,o+12,none⟩=false:=H.frozen _;have hg:=H.lt;have HH:=Lib.hid H;clear H;rw[c3]at h9;clear c3;unfold dQ
 go_enter func108,ntmps108
 go_wp2_with fail
 go_quiet (fail)
 go_wp2_with fail
 refine(oH g o t cs s 3 _ (((cL.start HH.out).alloc _).drewN _) od od).mono ?_;rintro e w' ⟨rfl,hu⟩
 go_wp2
 go_ret3
 exact⟨rfl,hu⟩
theorem aDc{w:World}{g:Nat}{t:TypeId}{cs:Array Value}{o:Nat}{s:Ln}(H:dA w g t cs o s.enc)(z:Int)(ob:Obj)(n:Nat):
  cL w g t cs o (Ln.enc { s with last:=z,based:=true,threw:=0 }) (((((w.alloc ob).drewN n).setCell ⟨g,o+10,none⟩ (.int .i64 z)).setCell ⟨g,o+11,none⟩ (.bool true)).setCell ⟨g,o+12,none⟩ (.int .i64 0)) :=
 ((((cL.start H).alloc ob).drewN n).set_ 10 (.int .i64 z) (by simp[Ln.enc]) |>.set_ 11 (.bool true) (by simp[Ln.enc]) |>.set_ 12 (.int .i64 0) (by simp[Ln.enc]))
theorem aZm(g o:Nat)(t:TypeId)(cs:Array Value)(s:Ln)(kind seq time a b c:Int)(w:World)(H:dA w g t cs o s.enc)(ha : -2147483648≤a)(hb:a<2147483648)
  (c1:0≤a) (c2:a≤s.most) (c3:s.has=true) (c4:(time-s.since)%4294967296≤s.age) (i1 : -2147483648≤s.high) (i2:s.high<2147483648) (i3 : -4294967296≤s.last) (i4:s.last≤4294967296) (i5:1≤s.jump) (i6:0≤s.threw) (i7:s.threw≤1000) (c5:s.based=false) :
  Calls prog 108 #[.pointer (some ⟨g,o,none⟩),dQ kind seq time a b c] w fun e w'=>e=.returned (.tuple #[.int .i64 0,.int .i64 (s.high-a),.bool true])∧cL w g t cs o (({ s with last:=s.high-a,based:=true,threw:=0 }:Ln).note 0).enc w':=by
 have h0:w.cell? ⟨g,o,none⟩=some (.int .u32 s.age):=H.cell_is (k:=0) rfl;have h1:w.cell? ⟨g,o+1,none⟩=some (.int .i64 s.jump):=H.cell_is rfl;have h2:w.cell? ⟨g,o+2,none⟩=some (.int .i64 s.throw):=H.cell_is rfl;have h3:w.cell? ⟨g,o+3,none⟩=some (.int .i64 s.most):=H.cell_is rfl;have h7:w.cell? ⟨g,o+7,none⟩=some (.int .i64 s.high):=H.cell_is rfl;have h8:w.cell? ⟨g,o+8,none⟩=some (.int .u32 s.since):=H.cell_is rfl;have h9:w.cell? ⟨g,o+9,none⟩=some (.bool s.has):=H.cell_is rfl;have h10:w.cell? ⟨g,o+10,none⟩=some (.int .i64 s.last):=H.cell_is rfl;have h11:w.cell? ⟨g,o+11,none⟩=some (.bool s.based):=H.cell_is rfl;have h12:w.cell? ⟨g,o+12,none⟩=some (.int .i64 s.threw):=H.cell_is rfl;have f10:w.frozen? ⟨g,o+10,none⟩=false:=H.frozen _;have f11:w.frozen? ⟨g,o+11,none⟩=false:=H.frozen _;have f12:w.frozen? ⟨g,o+12,none⟩=false:=H.frozen _;have hg:=H.lt;have HH:=Lib.hid H;clear H;rw[c3]at h9;rw[c5]at h11;clear c3 c5;unfold dQ
 go_enter func108,ntmps108
 go_wp2_with fail
 go_quiet (fail)
 go_wp2_with fail
 refine(oH g o t cs { s with last:=s.high-a,based:=true,threw:=0 } 0 _ (aDc HH.out _ _ _) od od).mono ?_;rintro e w' ⟨rfl,hu⟩
 go_wp2
 go_ret3
 exact⟨rfl,hu⟩
theorem aZn(g o:Nat)(t:TypeId)(cs:Array Value)(s:Ln)(kind seq time a b c:Int)(w:World)(H:dA w g t cs o s.enc)(ha : -2147483648≤a)(hb:a<2147483648)
  (c1:0≤a) (c2:a≤s.most) (c3:s.has=true) (c4:(time-s.since)%4294967296≤s.age) (i1 : -2147483648≤s.high) (i2:s.high<2147483648) (i3 : -4294967296≤s.last) (i4:s.last≤4294967296) (i5:1≤s.jump) (i6:0≤s.threw) (i7:s.threw≤1000) (c5:s.based=true) (c6:s.high-a-s.last≤s.jump) (c7 : -s.jump≤s.high-a-s.last) :
  Calls prog 108 #[.pointer (some ⟨g,o,none⟩),dQ kind seq time a b c] w fun e w'=>e=.returned (.tuple #[.int .i64 0,.int .i64 (s.high-a),.bool true])∧cL w g t cs o (({ s with last:=s.high-a,based:=true,threw:=0 }:Ln).note 0).enc w':=by
 have h0:w.cell? ⟨g,o,none⟩=some (.int .u32 s.age):=H.cell_is (k:=0) rfl;have h1:w.cell? ⟨g,o+1,none⟩=some (.int .i64 s.jump):=H.cell_is rfl;have h2:w.cell? ⟨g,o+2,none⟩=some (.int .i64 s.throw):=H.cell_is rfl;have h3:w.cell? ⟨g,o+3,none⟩=some (.int .i64 s.most):=H.cell_is rfl;have h7:w.cell? ⟨g,o+7,none⟩=some (.int .i64 s.high):=H.cell_is rfl;have h8:w.cell? ⟨g,o+8,none⟩=some (.int .u32 s.since):=H.cell_is rfl;have h9:w.cell? ⟨g,o+9,none⟩=some (.bool s.has):=H.cell_is rfl;have h10:w.cell? ⟨g,o+10,none⟩=some (.int .i64 s.last):=H.cell_is rfl;have h11:w.cell? ⟨g,o+11,none⟩=some (.bool s.based):=H.cell_is rfl;have h12:w.cell? ⟨g,o+12,none⟩=some (.int .i64 s.threw):=H.cell_is rfl;have f10:w.frozen? ⟨g,o+10,none⟩=false:=H.frozen _;have f11:w.frozen? ⟨g,o+11,none⟩=false:=H.frozen _;have f12:w.frozen? ⟨g,o+12,none⟩=false:=H.frozen _;have hg:=H.lt;have HH:=Lib.hid H;clear H;rw[c3]at h9;rw[c5]at h11;clear c3 c5;unfold dQ
 go_enter func108,ntmps108
 go_wp2_with fail
 go_quiet (fail)
 go_wp2_with fail
 all_goals
  refine(oH g o t cs { s with last:=s.high-a,based:=true,threw:=0 } 0 _ (aDc HH.out _ _ _) od od).mono ?_;rintro e w' ⟨rfl,hu⟩
  go_wp2
  go_ret3
  exact⟨rfl,hu⟩
theorem aOd{w:World}{g:Nat}{t:TypeId}{cs:Array Value}{o:Nat}{s:Ln}(H:dA w g t cs o s.enc)(ob:Obj)(n:Nat):
  cL w g t cs o (Ln.enc { s with threw:=s.threw+1 }) (((w.alloc ob).drewN n).setCell ⟨g,o+12,none⟩ (.int .i64 (s.threw+1))) :=
 (((cL.start H).alloc ob).drewN n).set_ 12 (.int .i64 (s.threw+1)) (by simp[Ln.enc])
theorem aZo(g o:Nat)(t:TypeId)(cs:Array Value)(s:Ln)(kind seq time a b c:Int)(w:World)(H:dA w g t cs o s.enc)(ha : -2147483648≤a)(hb:a<2147483648)
  (c1:0≤a) (c2:a≤s.most) (c3:s.has=true) (c4:(time-s.since)%4294967296≤s.age) (i1 : -2147483648≤s.high) (i2:s.high<2147483648) (i3 : -4294967296≤s.last) (i4:s.last≤4294967296) (i5:1≤s.jump) (i6:0≤s.threw) (i7:s.threw≤1000) (c5:s.based=true) (c6:s.jump<s.high-a-s.last) (c7:s.threw<s.throw) :
  Calls prog 108 #[.pointer (some ⟨g,o,none⟩),dQ kind seq time a b c] w fun e w'=>e=.returned (.tuple #[.int .i64 4,.int .i64 0,.bool false])∧cL w g t cs o (({ s with threw:=s.threw+1 }:Ln).note 4).enc w':=by
 have h0:w.cell? ⟨g,o,none⟩=some (.int .u32 s.age):=H.cell_is (k:=0) rfl;have h1:w.cell? ⟨g,o+1,none⟩=some (.int .i64 s.jump):=H.cell_is rfl;have h2:w.cell? ⟨g,o+2,none⟩=some (.int .i64 s.throw):=H.cell_is rfl;have h3:w.cell? ⟨g,o+3,none⟩=some (.int .i64 s.most):=H.cell_is rfl;have h7:w.cell? ⟨g,o+7,none⟩=some (.int .i64 s.high):=H.cell_is rfl;have h8:w.cell? ⟨g,o+8,none⟩=some (.int .u32 s.since):=H.cell_is rfl;have h9:w.cell? ⟨g,o+9,none⟩=some (.bool s.has):=H.cell_is rfl;have h10:w.cell? ⟨g,o+10,none⟩=some (.int .i64 s.last):=H.cell_is rfl;have h11:w.cell? ⟨g,o+11,none⟩=some (.bool s.based):=H.cell_is rfl;have h12:w.cell? ⟨g,o+12,none⟩=some (.int .i64 s.threw):=H.cell_is rfl;have f10:w.frozen? ⟨g,o+10,none⟩=false:=H.frozen _;have f11:w.frozen? ⟨g,o+11,none⟩=false:=H.frozen _;have f12:w.frozen? ⟨g,o+12,none⟩=false:=H.frozen _;have hg:=H.lt;have HH:=Lib.hid H;clear H;rw[c3]at h9;rw[c5]at h11;clear c3 c5;unfold dQ
 go_enter func108,ntmps108
 go_wp2_with fail
 go_quiet (fail)
 go_wp2_with fail
 all_goals
  go_quiet (fail)
  go_wp2_with fail
  refine(oH g o t cs { s with threw:=s.threw+1 } 4 _ (aOd HH.out _ _) od od).mono ?_;rintro e w' ⟨rfl,hu⟩
  go_wp2
  go_ret3
  exact⟨rfl,hu⟩
theorem aZp(g o:Nat)(t:TypeId)(cs:Array Value)(s:Ln)(kind seq time a b c:Int)(w:World)(H:dA w g t cs o s.enc)(ha : -2147483648≤a)(hb:a<2147483648)
  (c1:0≤a) (c2:a≤s.most) (c3:s.has=true) (c4:(time-s.since)%4294967296≤s.age) (i1 : -2147483648≤s.high) (i2:s.high<2147483648) (i3 : -4294967296≤s.last) (i4:s.last≤4294967296) (i5:1≤s.jump) (i6:0≤s.threw) (i7:s.threw≤1000) (c5:s.based=true) (c6:s.jump<s.high-a-s.last) (c7:s.throw≤s.threw) :
  Calls prog 108 #[.pointer (some ⟨g,o,none⟩),dQ kind seq time a b c] w fun e w'=>e=.returned (.tuple #[.int .i64 5,.int .i64 (s.high-a),.bool true])∧cL w g t cs o (({ s with last:=s.high-a,based:=true,threw:=0 }:Ln).note 5).enc w':=by
 have h0:w.cell? ⟨g,o,none⟩=some (.int .u32 s.age):=H.cell_is (k:=0) rfl;have h1:w.cell? ⟨g,o+1,none⟩=some (.int .i64 s.jump):=H.cell_is rfl;have h2:w.cell? ⟨g,o+2,none⟩=some (.int .i64 s.throw):=H.cell_is rfl;have h3:w.cell? ⟨g,o+3,none⟩=some (.int .i64 s.most):=H.cell_is rfl;have h7:w.cell? ⟨g,o+7,none⟩=some (.int .i64 s.high):=H.cell_is rfl;have h8:w.cell? ⟨g,o+8,none⟩=some (.int .u32 s.since):=H.cell_is rfl;have h9:w.cell? ⟨g,o+9,none⟩=some (.bool s.has):=H.cell_is rfl;have h10:w.cell? ⟨g,o+10,none⟩=some (.int .i64 s.last):=H.cell_is rfl;have h11:w.cell? ⟨g,o+11,none⟩=some (.bool s.based):=H.cell_is rfl;have h12:w.cell? ⟨g,o+12,none⟩=some (.int .i64 s.threw):=H.cell_is rfl;have f10:w.frozen? ⟨g,o+10,none⟩=false:=H.frozen _;have f11:w.frozen? ⟨g,o+11,none⟩=false:=H.frozen _;have f12:w.frozen? ⟨g,o+12,none⟩=false:=H.frozen _;have hg:=H.lt;have HH:=Lib.hid H;clear H;rw[c3]at h9;rw[c5]at h11;clear c3 c5;unfold dQ
 go_enter func108,ntmps108
 go_wp2_with fail
 go_quiet (fail)
 go_wp2_with fail
 all_goals
  go_quiet (fail)
  go_wp2_with fail
  refine(oH g o t cs { s with last:=s.high-a,based:=true,threw:=0 } 5 _ (aDc HH.out _ _ _) od od).mono ?_;rintro e w' ⟨rfl,hu⟩
  go_wp2
  go_ret3
  exact⟨rfl,hu⟩
theorem aZq(g o:Nat)(t:TypeId)(cs:Array Value)(s:Ln)(kind seq time a b c:Int)(w:World)(H:dA w g t cs o s.enc)(ha : -2147483648≤a)(hb:a<2147483648)
  (c1:0≤a) (c2:a≤s.most) (c3:s.has=true) (c4:(time-s.since)%4294967296≤s.age) (i1 : -2147483648≤s.high) (i2:s.high<2147483648) (i3 : -4294967296≤s.last) (i4:s.last≤4294967296) (i5:1≤s.jump) (i6:0≤s.threw) (i7:s.threw≤1000) (c5:s.based=true) (c6:s.high-a-s.last < -s.jump) (c7:s.threw<s.throw) :
  Calls prog 108 #[.pointer (some ⟨g,o,none⟩),dQ kind seq time a b c] w fun e w'=>e=.returned (.tuple #[.int .i64 4,.int .i64 0,.bool false])∧cL w g t cs o (({ s with threw:=s.threw+1 }:Ln).note 4).enc w':=by
 have h0:w.cell? ⟨g,o,none⟩=some (.int .u32 s.age):=H.cell_is (k:=0) rfl;have h1:w.cell? ⟨g,o+1,none⟩=some (.int .i64 s.jump):=H.cell_is rfl;have h2:w.cell? ⟨g,o+2,none⟩=some (.int .i64 s.throw):=H.cell_is rfl;have h3:w.cell? ⟨g,o+3,none⟩=some (.int .i64 s.most):=H.cell_is rfl;have h7:w.cell? ⟨g,o+7,none⟩=some (.int .i64 s.high):=H.cell_is rfl;have h8:w.cell? ⟨g,o+8,none⟩=some (.int .u32 s.since):=H.cell_is rfl;have h9:w.cell? ⟨g,o+9,none⟩=some (.bool s.has):=H.cell_is rfl;have h10:w.cell? ⟨g,o+10,none⟩=some (.int .i64 s.last):=H.cell_is rfl;have h11:w.cell? ⟨g,o+11,none⟩=some (.bool s.based):=H.cell_is rfl;have h12:w.cell? ⟨g,o+12,none⟩=some (.int .i64 s.threw):=H.cell_is rfl;have f10:w.frozen? ⟨g,o+10,none⟩=false:=H.frozen _;have f11:w.frozen? ⟨g,o+11,none⟩=false:=H.frozen _;have f12:w.frozen? ⟨g,o+12,none⟩=false:=H.frozen _;have hg:=H.lt;have HH:=Lib.hid H;clear H;rw[c3]at h9;rw[c5]at h11;clear c3 c5;unfold dQ
 go_enter func108,ntmps108
 go_wp2_with fail
 go_quiet (fail)
 go_wp2_with fail
 all_goals
  go_quiet (fail)
  go_wp2_with fail
  refine(oH g o t cs { s with threw:=s.threw+1 } 4 _ (aOd HH.out _ _) od od).mono ?_;rintro e w' ⟨rfl,hu⟩
  go_wp2
  go_ret3
  exact⟨rfl,hu⟩
theorem aZr(g o:Nat)(t:TypeId)(cs:Array Value)(s:Ln)(kind seq time a b c:Int)(w:World)(H:dA w g t cs o s.enc)(ha : -2147483648≤a)(hb:a<2147483648)
  (c1:0≤a) (c2:a≤s.most) (c3:s.has=true) (c4:(time-s.since)%4294967296≤s.age) (i1 : -2147483648≤s.high) (i2:s.high<2147483648) (i3 : -4294967296≤s.last) (i4:s.last≤4294967296) (i5:1≤s.jump) (i6:0≤s.threw) (i7:s.threw≤1000) (c5:s.based=true) (c6:s.high-a-s.last < -s.jump) (c7:s.throw≤s.threw) :
  Calls prog 108 #[.pointer (some ⟨g,o,none⟩),dQ kind seq time a b c] w fun e w'=>e=.returned (.tuple #[.int .i64 5,.int .i64 (s.high-a),.bool true])∧cL w g t cs o (({ s with last:=s.high-a,based:=true,threw:=0 }:Ln).note 5).enc w':=by
 have h0:w.cell? ⟨g,o,none⟩=some (.int .u32 s.age):=H.cell_is (k:=0) rfl;have h1:w.cell? ⟨g,o+1,none⟩=some (.int .i64 s.jump):=H.cell_is rfl;have h2:w.cell? ⟨g,o+2,none⟩=some (.int .i64 s.throw):=H.cell_is rfl;have h3:w.cell? ⟨g,o+3,none⟩=some (.int .i64 s.most):=H.cell_is rfl;have h7:w.cell? ⟨g,o+7,none⟩=some (.int .i64 s.high):=H.cell_is rfl;have h8:w.cell? ⟨g,o+8,none⟩=some (.int .u32 s.since):=H.cell_is rfl;have h9:w.cell? ⟨g,o+9,none⟩=some (.bool s.has):=H.cell_is rfl;have h10:w.cell? ⟨g,o+10,none⟩=some (.int .i64 s.last):=H.cell_is rfl;have h11:w.cell? ⟨g,o+11,none⟩=some (.bool s.based):=H.cell_is rfl;have h12:w.cell? ⟨g,o+12,none⟩=some (.int .i64 s.threw):=H.cell_is rfl;have f10:w.frozen? ⟨g,o+10,none⟩=false:=H.frozen _;have f11:w.frozen? ⟨g,o+11,none⟩=false:=H.frozen _;have f12:w.frozen? ⟨g,o+12,none⟩=false:=H.frozen _;have hg:=H.lt;have HH:=Lib.hid H;clear H;rw[c3]at h9;rw[c5]at h11;clear c3 c5;unfold dQ
 go_enter func108,ntmps108
 go_wp2_with fail
 go_quiet (fail)
 go_wp2_with fail
 all_goals
  go_quiet (fail)
  go_wp2_with fail
  refine(oH g o t cs { s with last:=s.high-a,based:=true,threw:=0 } 5 _ (aDc HH.out _ _ _) od od).mono ?_;rintro e w' ⟨rfl,hu⟩
  go_wp2
  go_ret3
  exact⟨rfl,hu⟩
