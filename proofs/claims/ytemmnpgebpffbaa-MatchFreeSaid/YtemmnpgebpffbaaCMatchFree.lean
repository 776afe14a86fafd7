/- FREE OF THE MIDDLE: for every map, every search, every profile and every shift of it the law MatchFree of the given program returns true, and leaves its arguments as they were. No condition. -/
import Derived.Carry
import Derived.Test.YtemmnpgebpffbaaMD12
set_option linter.unusedVariables false
set_option linter.unusedSimpArgs false
/- Layer 21's statements: costs, the second best, how a profile lies. -/
namespace Go.Proofs.Ytemmnpgebpffbaa
open Go.RowKit
attribute [local irreducible] OJ J HdJ Code.wpIn wpListIn Oper.wpIn bodyPost CallsIn Does
set_option maxRecDepth 4000
set_option maxHeartbeats 64000000 in
theorem costs_law (A : Option Addr) (c : Nat) (d : List Int) {w : World} (hr : RoA w (blocks []) A d.length c 1 (ints .i64 d)) (hd : ∀ x ∈ d, InR .i64 x) (m : Int) (hm : InR .i64 m) :
    Does Try.prog 3 [.slice A d.length c, .int .i64 m] [] w (fun v _ => v = .bool true) := by
  have iW : CV Try.prog 10 [] (.bool true) True := ⟨fun _ w => works21 w⟩
  refine does_of Try.func3 rfl Try.ntmps3 rfl ⟨by simp, .nil⟩ (fun n => ?_)
  simp only [slots]
  refine z_tas
  · exact j_out1 rfl rfl (.nil _) rfl
  refine lfv rfl rfl rfl (fun w hw => mcost_any A c d m w ⟨hr.h.go hw (Split.nil _)⟩ (by omega)) ?_
  refine z_tas
  refine lfv rfl rfl rfl (fun w hw => rcost_any A c d m w ⟨hr.h.go hw (Split.nil _)⟩ (by omega)) ?_
  refine z_tas
  exact j_out1 rfl rfl (.nil _) rfl
set_option maxHeartbeats 64000000 in
theorem clear_law (best : Int) (h1 : InR .i64 best) (second : Int) (h2 : InR .i64 second) (num : Int) (h3 : InR .i64 num) (den : Int) (h4 : InR .i64 den) {w : World} :
    Does Try.prog 5 [.int .i64 best, .int .i64 second, .int .i64 num, .int .i64 den] [] w (fun v _ => v = .bool true) := by
  have iW : CV Try.prog 10 [] (.bool true) True := ⟨fun _ w => works21 w⟩
  have h1' : -9223372036854775808 ≤ best ∧ best ≤ 9223372036854775807 := h1
  have h2' : -9223372036854775808 ≤ second ∧ second ≤ 9223372036854775807 := h2
  have h3' : -9223372036854775808 ≤ num ∧ num ≤ 9223372036854775807 := h3
  have h4' : -9223372036854775808 ≤ den ∧ den ≤ 9223372036854775807 := h4
  have hcl := clear21_any best second num den h1 h2 h3 h4
  have key : clrB best second num den = true ↔ (0 ≤ best ∧ 0 ≤ num ∧ 1 ≤ den ∧ (second < 0 ∨ best * num < second * den)) := by simp [clrB]
  refine does_of Try.func5 rfl Try.ntmps5 rfl ⟨by simp, .nil⟩ (fun n => ?_)
  simp only [slots]
  by_cases hg : (0 ≤ best ∧ 0 ≤ num ∧ 1 ≤ den) ∧ 0 ≤ second
  · have i1 : CV Try.prog 20 [.int .i64 second, .int .i64 den] (.agg (numE false (second.natAbs * den.natAbs)).toArray) True := ⟨fun _ w => rmul_any second den h2 h4 false (decide_eq_false (by omega)) (decide_eq_false (by omega)) w⟩
    have i2 : CV Try.prog 20 [.int .i64 best, .int .i64 num] (.agg (numE false (best.natAbs * num.natAbs)).toArray) True := ⟨fun _ w => rmul_any best num h1 h3 false (decide_eq_false (by omega)) (decide_eq_false (by omega)) w⟩
    have b1 := Nat.mul_le_mul (show second.natAbs ≤ 9223372036854775808 by omega) (show den.natAbs ≤ 9223372036854775808 by omega)
    have b2 := Nat.mul_le_mul (show best.natAbs ≤ 9223372036854775808 by omega) (show num.natAbs ≤ 9223372036854775808 by omega)
    have e1 : ((second.natAbs * den.natAbs : Nat) : Int) = second * den := by rw [← Int.natAbs_mul]; exact Int.natAbs_of_nonneg (Int.mul_nonneg (by omega) (by omega))
    have e2 : ((best.natAbs * num.natAbs : Nat) : Int) = best * num := by rw [← Int.natAbs_mul]; exact Int.natAbs_of_nonneg (Int.mul_nonneg (by omega) (by omega))
    have hp := cmpI_pos (second.natAbs * den.natAbs) (best.natAbs * num.natAbs)
    have hz : decide (0 < cmpI (second.natAbs * den.natAbs) (best.natAbs * num.natAbs)) = clrB best second num den := by
      rw [Bool.eq_iff_iff, decide_eq_true_iff, key, hp]
      omega
    have iC : CV Try.prog 21 [.int .i64 best, .int .i64 second, .int .i64 num, .int .i64 den] (.bool (decide (0 < cmpI (second.natAbs * den.natAbs) (best.natAbs * num.natAbs)))) True := ⟨fun _ w => by rw [hz]; exact hcl w⟩
    generalize second.natAbs * den.natAbs = P at *
    generalize best.natAbs * num.natAbs = Q at *
    refine z_tas
    exact j_out1 rfl rfl (.nil _) rfl
  · have hz : clrB best second num den = decide (0 ≤ best ∧ 0 ≤ num ∧ 1 ≤ den) := by
      rw [Bool.eq_iff_iff, key, decide_eq_true_iff]
      omega
    have iC : CV Try.prog 21 [.int .i64 best, .int .i64 second, .int .i64 num, .int .i64 den] (.bool (decide (0 ≤ best ∧ 0 ≤ num ∧ 1 ≤ den))) True := ⟨fun _ w => by rw [← hz]; exact hcl w⟩
    by_cases hb : 0 ≤ best ∧ 0 ≤ num ∧ 1 ≤ den
    · rw [decide_eq_true hb] at iC
      refine z_tas
      all_goals first
        | exact j_out1 rfl rfl (.nil _) rfl
        | (exfalso; rename_i hx; revert hx; simp; omega)
    · rw [decide_eq_false hb] at iC
      refine z_tas
      all_goals first
        | exact j_out1 rfl rfl (.nil _) rfl
        | (exfalso; rename_i hx; revert hx; simp; omega)
end Go.Proofs.Ytemmnpgebpffbaa
/- Layer 21's statements: how a profile lies. -/
namespace Go.Proofs.Ytemmnpgebpffbaa
open Go.RowKit
attribute [local irreducible] OJ J HdJ Code.wpIn wpListIn Oper.wpIn bodyPost CallsIn Does
set_option maxRecDepth 4000
set_option maxHeartbeats 128000000 in
theorem apart_law (a : Int) (ha : InR .u8 a) (b : Int) (hb : InR .u8 b) (A : Option Addr) (c : Nat) (z : List Int) {w : World} (hr : RoA w (blocks []) A z.length c 1 (ints .i16 z)) (hz : ∀ x ∈ z, InR .i16 x) (X : Int) (hX : InR .i64 X) (Y : Int) (hY0 : InR .i64 Y) (Al : Option Addr) (cl : Nat) (l : List Smp) (hrl : RoA w (blocks []) Al l.length cl 3 (flat smpE l)) (hls : ∀ p ∈ l, p.ok) (s : Sch) (rx : InR .i64 s.x) (ry : InR .i64 s.y) (rf : InR .i64 s.far) (rs : InR .i64 s.step) :
    Does Try.prog 4 [.int .u8 a, .int .u8 b, .slice A z.length c, .agg #[.int .i64 X, .int .i64 Y], .slice Al l.length cl, .agg (schE s).toArray] [] w (fun v _ => v = .bool true) := by
  have ha1 : 0 ≤ a ∧ a ≤ 255 := ha
  have hb1 : 0 ≤ b ∧ b ≤ 255 := hb
  obtain ⟨W, hW, hW1⟩ : ∃ x : Nat, 2 + a % 39 = (x : Int) ∧ 2 ≤ x ∧ x ≤ 40 := ⟨(2 + a % 39).toNat, by omega, by omega⟩
  obtain ⟨H, hH, hH1⟩ : ∃ x : Nat, 2 + b % 39 = (x : Int) ∧ 2 ≤ x ∧ x ≤ 40 := ⟨(2 + b % 39).toNat, by omega, by omega⟩
  have iW : CV Try.prog 10 [] (.bool true) True := ⟨fun _ w => works21 w⟩
  refine does_of Try.func4 rfl Try.ntmps4 rfl ⟨by simp, .nil⟩ (fun n => ?_)
  simp only [slots]
  refine z_tas
  · exact j_out1 rfl rfl (.nil _) rfl
  · exact j_out1 rfl rfl (.nil _) rfl
  refine lf rfl rfl rfl (S := []) (fun w hw ho => made_any a b ha hb W H hW hH A c z 30 (by decide) 0 0 w ⟨hr.h.go hw (Split.nil _)⟩ (by omega)) ?_
  rintro v S' ⟨Af, cf, rfl, rfl⟩
  have hfl := fieldF_len z (W * H)
  have hfi := field_in16 hz (W * H)
  generalize fieldF z (W * H) = f at *
  rw [show (1 + 30 % 1000 : Int) = ((31 : Nat) : Int) by decide]
  have hcb : 2 ≤ W ∧ W ≤ 256 ∧ 2 ≤ H ∧ H ≤ 256 ∧ 1 ≤ 31 ∧ 31 ≤ 1000 := by omega
  have hF := caF_of (ox := 0) (oy := 0) hcb hfl hfi (by omega : 1 ≤ 4 ∧ 4 ≤ 32)
  obtain ⟨-, h2, h3, -, -, -⟩ := chart_hdr (ox := 0) (oy := 0) (z := f) (W := W) (H := H) (cell := 31) (by omega)
  refine z_tas
  rename_i b9 b11 b13
  refine lf rfl rfl rfl (S := []) (fun w hw ho => open10 W H 31 Af cf f 0 0 4 w ⟨Ro.row hw (Split.nil _) (by refine z_hs)⟩ hcb hfl hfi (by decide) (by decide) (by omega)) ?_
  rintro v S' ⟨K, hys, hrm, rfl, rfl⟩
  rw [← hys, ← hrm] at hF
  rw [← hys] at h2 h3
  have k0 : CaOk K.ys f K.room (newV 4) 0 := by rw [hrm]; exact newV_ok (by omega)
  refine z_tas
  refine lfv rfl rfl rfl (fun w hw => mcheck_any s Al cl l w ⟨hrl.h.go hw (Split.nil _)⟩ (by omega)) ?_
  refine z_tas
  refine lfv rfl rfl rfl (fun w hw => rcheck21_any s Al cl l w ⟨hrl.h.go hw (Split.nil _)⟩ (by omega)) ?_
  have hck := chk21_ok (s := s) (l := l)
  generalize chk21 s l = ck at *
  refine z_tas
  all_goals try exact j_out1 rfl rfl (.nil _) rfl
  have hck0 : ck = 0 := by omega
  obtain ⟨-, ⟨l1, l2⟩, hl⟩ := hck hck0
  refine lf rfl rfl rfl (S := K.H (newV 4)) (fun w hw ho => apart_t K (newV 4) f X Y 0 Al cl l w ho hF k0 (by omega) ⟨hrl.h.go hw Split.au⟩ (by omega) (by omega) (by omega) hl) ?_
  rintro v S' ⟨s1, k1, h5⟩
  rw [h2, h3] at h5
  rcases h5 with ⟨hon, A1, c1, rfl, rfl⟩ | ⟨hon, rfl, rfl⟩
  · refine z_tas
    refine lf rfl rfl rfl (S := []) (fun w hw ho => rapart_any W H Af cf f X Y Al cl l w ⟨Ro.row hw (Split.nil _) (by refine z_hs)⟩ (by omega) hfl hfi ⟨hrl.h.go hw (Split.nil _)⟩ (by omega) (by omega) (by omega) hl) ?_
    rintro v S' (⟨-, A2, c2, rfl, rfl⟩ | ⟨hno, -, -⟩)
    rotate_left
    · rw [hon] at hno; cases hno
    have hal := apTo_len W H f X Y l l.length
    generalize apTo W H f X Y l l.length = d at *
    refine z_tas
    refine c_loop (X := Nat) (fun i => i ≤ d.length) (fun i => [(16, .slice A1 d.length c1), (18, .slice A2 d.length c2), (20, .int .i64 i)])
      (fun i => [.row (.slice A1 d.length c1) 2 1 d.length (ints .i64 d), .row (.slice A2 d.length c2) 2 1 d.length (ints .i64 d)]) (fun i => d.length - i) 0 (by omega) ⟨rfl, rfl, rfl, trivial⟩ Sub.au ?_
    intro i hi
    rcases Nat.lt_or_ge i d.length with h | h
    · refine j_opn (A := A1) (m := d.length) (cc := c1) (by omega) (fun g1 hg1 => ?_)
      subst hg1
      refine j_opn (A := A2) (m := d.length) (cc := c2) (by omega) (fun g2 hg2 => ?_)
      subst hg2
      refine z_tas
      exact c_round (i + 1) h (by show d.length - (i + 1) < d.length - i; omega) ⟨rfl, rfl, by simp [look], trivial⟩ Sub.au
    · obtain rfl : i = d.length := by omega
      refine z_tas
      exact j_out1 rfl rfl (.nil _) rfl
  · refine z_tas
    refine lf rfl rfl rfl (S := []) (fun w hw ho => rapart_any W H Af cf f X Y Al cl l w ⟨Ro.row hw (Split.nil _) (by refine z_hs)⟩ (by omega) hfl hfi ⟨hrl.h.go hw (Split.nil _)⟩ (by omega) (by omega) (by omega) hl) ?_
    rintro v S' (⟨hno, A2, c2, -, -⟩ | ⟨-, rfl, rfl⟩)
    · rw [hon] at hno; cases hno
    refine z_tas
    refine c_loop (X := Nat) (fun i => i = 0) (fun i => [(16, .slice none 0 0), (18, .slice none 0 0), (20, .int .i64 i)])
      (fun i => []) (fun i => 0) 0 rfl ⟨rfl, rfl, rfl, trivial⟩ Sub.au ?_
    rintro i rfl
    refine z_tas
    exact j_out1 rfl rfl (.nil _) rfl
end Go.Proofs.Ytemmnpgebpffbaa
/- Layer 21's statements: free of the middle. -/
namespace Go.Proofs.Ytemmnpgebpffbaa
open Go.RowKit
instance : OneE smpE := ⟨fun a u hu => by simp [smpE] at hu; rcases hu with rfl | rfl | rfl <;> rfl⟩
instance (a b c : Int) : UnE smpE [.int .i64 a, .int .i64 b, .int .i64 c] ⟨a, b, c⟩ := ⟨rfl⟩
instance : OneE stpE := ⟨fun a u hu => by simp [stpE] at hu; rcases hu with rfl | rfl | rfl <;> rfl⟩
instance (a b c : Int) : UnE stpE [.int .i64 a, .int .i64 b, .int .i64 c] ⟨a, b, c⟩ := ⟨rfl⟩
/-- A search that is not more than is waited for. -/
def smallS (s : Sch) : Sch := if 3 < s.far ∧ s.far ≤ 32 then { s with far := s.far % 4 } else s
theorem pv_eqStp (t u : TypeId) (x y : Operand) (a b c : Int) (ht : t = 58) : PV Try.prog (.binOp .eql t x y u) [.agg #[.int .i64 a, .int .i64 b, .int .i64 c], .agg #[.int .i64 a, .int .i64 b, .int .i64 c]] (.bool true) True := ⟨by
  subst ht
  rintro _ ρ ⟨dst, op', ty, pos, aft, gd⟩ rfl h w
  obtain ⟨h1, h2⟩ := map2 h
  have u1 := Try.underlying2
  have a1 := Try.isAgg2
  have z1 := Try.sizeOf2
  have u2 := Try.underlying3
  have a2 := Try.isAgg3
  have z2 := Try.sizeOf3
  have hS : Try.prog.underlying 58 = some (.struct (Try.prog.fieldsOf 58)) := by kernel_rfl
  have hp : Try.prog.stoodInHeld 58 = false := by kernel_rfl
  have hm : Try.prog.eqGuardType Try.prog.depth 58 = false := by kernel_rfl
  simp only [execOp, h1, h2, Sem.run_bind, run_eqGuard_agg w _ _ _ _ _ _ hm, Result.andThen_ok]
  rw [run_eql_struct, show (10000 : Nat) = 9999 + 1 from rfl, run_equalIn_agg w 9999 58 _ _ hS hp]
  simp only [Program.fieldsOf, Try.underlying58]
  go_simp⟩
instance (priority := 2000) (u : TypeId) (x y : Operand) (a b c : Int) : PV Try.prog (.binOp .eql 58 x y u) [.agg #[.int .i64 a, .int .i64 b, .int .i64 c], .agg #[.int .i64 a, .int .i64 b, .int .i64 c]] (.bool true) True := pv_eqStp _ u x y a b c rfl
instance (priority := 2000) {w0 : World} {W : Nat → Prop} {H : List HE} (u : TypeId) (x y : Operand) (a b c : Int) : MS Try.prog w0 W H (.binOp .eql 58 x y u) [.agg #[.int .i64 a, .int .i64 b, .int .i64 c], .agg #[.int .i64 a, .int .i64 b, .int .i64 c]] (.bool true) True := ⟨by
  intro _ F n N ds σ dd ty pos aft gd K Q _ hv hdN h
  have hp := pv_eqStp 58 u x y a b c rfl
  exact o_val (by simp) rfl hdN (fun a w ha _ => pq_of (o := ⟨some dd, _, ty, pos, aft, gd⟩) hv trivial a.eval (fun x _ u hu => ha.eval hu) w) h⟩
/-- The first so many heights, found so much higher. -/
def upTo21 (l : List Smp) (u : Int) : Nat → List Smp
  | 0 => []
  | i + 1 => upTo21 l u i ++ [⟨(l.getD i default).dx, (l.getD i default).dy, (l.getD i default).z + u⟩]
theorem upTo21_len (l : List Smp) (u : Int) : ∀ i, (upTo21 l u i).length = i
  | 0 => rfl
  | i + 1 => by rw [upTo21, List.length_append, upTo21_len l u i]; rfl
theorem upTo21_take (u : Int) {l : List Smp} : ∀ {i : Nat}, i ≤ l.length → upTo21 l u i = upS u (l.take i)
  | 0, _ => by simp [upTo21, upS]
  | i + 1, h => by
    rw [upTo21, upTo21_take u (i := i) (by omega), List.take_succ_eq_append_getElem h]
    have : l.getD i default = l[i] := by rw [List.getD_eq_getElem?_getD, List.getElem?_eq_getElem h]; rfl
    rw [this]
    simp only [upS, List.map_append, List.map_cons, List.map_nil]
theorem upTo21_all (u : Int) (l : List Smp) : upTo21 l u l.length = upS u l := by rw [upTo21_take u (Nat.le_refl _), List.take_length]
theorem upS_len (u : Int) (l : List Smp) : (upS u l).length = l.length := by simp [upS]
theorem upS_ok {u : Int} {l : List Smp} {i : Nat} (hi : i < l.length) (hu : -32768 ≤ u ∧ u ≤ 32767) (hz : -2097152 ≤ (l.getD i default).z ∧ (l.getD i default).z ≤ 2097152) : SmpOk ((upS u l).getD i default) ↔ SmpOk (l.getD i default) := by
  rw [upS_get u hi]
  unfold SmpOk
  dsimp only
  omega
theorem badS_up {u : Int} {l : List Smp} (hu : -32768 ≤ u ∧ u ≤ 32767) (hz : ∀ i, i < l.length → -2097152 ≤ (l.getD i default).z ∧ (l.getD i default).z ≤ 2097152) : ∀ n, n ≤ l.length → badS (upS u l) n = badS l n
  | 0, _ => rfl
  | n + 1, h => by
    rw [badS, badS, badS_up hu hz n (by omega)]
    have := upS_ok (u := u) (l := l) (i := n) (by omega) hu (hz n (by omega))
    congr 2
    exact decide_eq_decide.2 this
theorem chk21_up {s : Sch} {u : Int} {l : List Smp} (hu : -32768 ≤ u ∧ u ≤ 32767) (hz : ∀ i, i < l.length → -2097152 ≤ (l.getD i default).z ∧ (l.getD i default).z ≤ 2097152) : chk21 s (upS u l) = chk21 s l := by
  unfold chk21
  rw [upS_len, badS_up hu hz _ (Nat.le_refl _)]
theorem allL_up {W H : Nat} {f : List Int} (hf : In16 f) {s : Sch} {u : Int} {l : List Smp} {m : Int} (hm : 2 ≤ m) (hu : -32768 ≤ u ∧ u ≤ 32767) (hz : ∀ i, i < l.length → -2097152 ≤ (l.getD i default).z ∧ (l.getD i default).z ≤ 2097152) : allL W H f s (upS u l) m = allL W H f s l m := by
  unfold allL
  rw [chk21_up hu hz]
  split
  · rename_i hc
    obtain ⟨-, ⟨-, -⟩, hl⟩ := chk21_ok hc
    have : gS W H f s (upS u l) m = gS W H f s l m := by
      funext n
      unfold gS
      have hd := DifOk_ap hf (W := W) (H := H) (X := s.x + (pS s.far n).1 * s.step) (Y := s.y + (pS s.far n).2 * s.step) hl l.length (Nat.le_refl _)
      refine plc_free W H f _ _ u hm (fun j hj => ?_) (fun j hj => ?_)
      · have := hd j hj
        omega
      · have := hd j hj
        rw [getD_map_sub u (by rw [apTo_len]; exact hj)]
        omega
    unfold allN
    rw [this]
  · rfl
attribute [local irreducible] OJ J HdJ Code.wpIn wpListIn Oper.wpIn bodyPost CallsIn Does
set_option maxRecDepth 4000
set_option maxHeartbeats 64000000 in
theorem small21_any (s : Sch) (w : World) : Does Try.prog 22 [.agg (schE s).toArray] [] w (fun v S' => v = .agg (schE (smallS s)).toArray ∧ S' = []) := by
  refine does_of Try.func22 rfl Try.ntmps22 rfl ⟨by simp, .nil⟩ (fun n => ?_)
  simp only [slots]
  unfold smallS
  refine z_tas
  · rw [if_pos (by omega)]
    refine z_ro
    exact ⟨rfl, rfl⟩
  · rw [if_neg (by omega)]
    refine z_ro
    exact ⟨rfl, rfl⟩
  · rw [if_neg (by omega)]
    refine z_ro
    exact ⟨rfl, rfl⟩
set_option maxHeartbeats 128000000 in
theorem free_law (a : Int) (ha : InR .u8 a) (b : Int) (hb : InR .u8 b) (A : Option Addr) (c : Nat) (z : List Int) {w : World} (hr : RoA w (blocks []) A z.length c 1 (ints .i16 z)) (hz : ∀ x ∈ z, InR .i16 x) (s0 : Sch) (rx : InR .i64 s0.x) (ry : InR .i64 s0.y) (rf : InR .i64 s0.far) (rs : InR .i64 s0.step) (Al : Option Addr) (cl : Nat) (l : List Smp) (hrl : RoA w (blocks []) Al l.length cl 3 (flat smpE l)) (hls : ∀ p ∈ l, p.ok) (up : Int) (hup : InR .i16 up) (sq : Bool) :
    Does Try.prog 6 [.int .u8 a, .int .u8 b, .slice A z.length c, .agg (schE s0).toArray, .slice Al l.length cl, .int .i16 up, .bool sq] [] w (fun v _ => v = .bool true) := by
  have ha1 : 0 ≤ a ∧ a ≤ 255 := ha
  have hb1 : 0 ≤ b ∧ b ≤ 255 := hb
  have hup1 : -32768 ≤ up ∧ up ≤ 32767 := hup
  obtain ⟨W, hW, hW1⟩ : ∃ x : Nat, 2 + a % 39 = (x : Int) ∧ 2 ≤ x ∧ x ≤ 40 := ⟨(2 + a % 39).toNat, by omega, by omega⟩
  obtain ⟨H, hH, hH1⟩ : ∃ x : Nat, 2 + b % 39 = (x : Int) ∧ 2 ≤ x ∧ x ≤ 40 := ⟨(2 + b % 39).toNat, by omega, by omega⟩
  have iW : CV Try.prog 10 [] (.bool true) True := ⟨fun _ w => works21 w⟩
  have iS : CV Try.prog 22 [.agg (schE s0).toArray] (.agg (schE (smallS s0)).toArray) True := ⟨fun _ w => small21_any s0 w⟩
  generalize smallS s0 = s at *
  refine does_of Try.func6 rfl Try.ntmps6 rfl ⟨by simp, .nil⟩ (fun n => ?_)
  simp only [slots]
  refine j_nil (e := 56) (size := 3) ?_
  refine z_tas
  · exact j_out1 rfl rfl (.nil _) rfl
  · exact j_out1 rfl rfl (.nil _) rfl
  · refine lf rfl rfl rfl (S := []) (fun w hw ho => made_any a b ha hb W H hW hH A c z 30 (by decide) 0 0 w ⟨hr.h.go hw (Split.nil _)⟩ (by omega)) ?_
    rintro v S' ⟨Af, cf, rfl, rfl⟩
    have hfl := fieldF_len z (W * H)
    have hfi := field_in16 hz (W * H)
    generalize fieldF z (W * H) = f at *
    rw [show (1 + 30 % 1000 : Int) = ((31 : Nat) : Int) by decide]
    have hcb : 2 ≤ W ∧ W ≤ 256 ∧ 2 ≤ H ∧ H ≤ 256 ∧ 1 ≤ 31 ∧ 31 ≤ 1000 := by omega
    have hF := caF_of (ox := 0) (oy := 0) hcb hfl hfi (by omega : 1 ≤ 4 ∧ 4 ≤ 32)
    refine z_tas
    rename_i b10 _ _ _
    refine lf rfl rfl rfl (S := []) (fun w hw ho => open10 W H 31 Af cf f 0 0 4 w ⟨Ro.row hw (Split.nil _) (by refine z_hs)⟩ hcb hfl hfi (by decide) (by decide) (by omega)) ?_
    rintro v S' ⟨K, hys, hrm, rfl, rfl⟩
    rw [← hys, ← hrm] at hF
    have k0 : CaOk K.ys f K.room (newV 4) 0 := by rw [hrm]; exact newV_ok (by omega)
    refine z_tas
    refine c_loop (X := Nat × Option Addr × Nat) (fun q => q.1 ≤ l.length ∧ ∀ j, j < q.1 → -2097152 ≤ (l.getD j default).z ∧ (l.getD j default).z ≤ 2097152)
      (fun q => [(4, .slice Al l.length cl), (5, .int .i16 up), (10, .pointer (some ⟨b10, 0, none⟩)), (15, .int .i64 3), (16, .pointer (some ⟨K.g, 0, none⟩)), (17, .slice q.2.1 (upTo21 l up q.1).length q.2.2), (18, .int .i64 q.1)])
      (fun q => K.HC (newV 4) [.blk b10 33 (schE s), .row (.slice q.2.1 (upTo21 l up q.1).length q.2.2) 56 3 (upTo21 l up q.1).length (flat smpE (upTo21 l up q.1))]) (fun q => l.length - q.1) (0, none, 0) ⟨by omega, fun j hj => by dsimp only at hj; omega⟩ ⟨rfl, rfl, rfl, rfl, rfl, rfl, rfl, trivial⟩ (by simp only [upTo21, flat_nil, List.length_nil]; exact Sub.au) ?_
    rintro ⟨i, A1, c1⟩ ⟨hi, hzz⟩
    dsimp only at hi hzz ⊢
    have hul := upTo21_len l up i
    rcases Nat.lt_or_ge i l.length with h | h
    · obtain ⟨bL, oL, rfl, hL⟩ := hrl.at_ (by omega : 0 < l.length)
      have hst : upTo21 l up (i + 1) = upTo21 l up i ++ [⟨(l.getD i default).dx, (l.getD i default).dy, (l.getD i default).z + up⟩] := rfl
      generalize hgu : upTo21 l up i = gu at *
      refine z_tas
      · exact j_out1 rfl rfl (.nil _) rfl
      · exact j_out1 rfl rfl (.nil _) rfl
      · rename_i A2 c2
        refine c_round (i + 1, A2, c2) ⟨h, fun j hj => ?_⟩ (by show l.length - (i + 1) < l.length - i; omega) ⟨rfl, rfl, rfl, rfl, rfl, by simp only [hst]; rfl, by simp [look], trivial⟩ (by simp only [hst]; exact Sub.au)
        dsimp only at hj
        rcases Nat.lt_or_ge j i with h1 | h1
        · exact hzz j h1
        · rw [show j = i by omega]; omega
    · obtain rfl : i = l.length := by omega
      rw [upTo21_all]
      have hupl := upS_len up l
      have e := allL_up (W := wY K.ys) (H := hY K.ys) hF.good.1 (s := s) (u := up) (l := l) (m := 3) (by decide) hup1 hzz
      refine z_tas
      refine lf rfl rfl rfl (S := K.H (newV 4)) (fun w hw ho => mbest_t K (newV 4) f s Al cl l 3 1 0 w ho hF k0 (by omega) ⟨hrl.h.go hw Split.au⟩ (by omega)) ?_
      rintro v S' ⟨s1, k1, rfl, rfl⟩
      refine z_tas
      refine lf rfl rfl rfl (S := K.H s1) (fun w hw ho => mbest_t K s1 f s A1 c1 (upS up l) 3 1 _ w ho hF k1 (by omega) ⟨Ro.row hw Split.au (by refine z_hs)⟩ (by omega)) ?_
      rintro v S' ⟨s2, k2, rfl, rfl⟩
      rw [e]
      refine z_tas
      exact j_out1 rfl rfl (.nil _) rfl
  · refine lf rfl rfl rfl (S := []) (fun w hw ho => made_any a b ha hb W H hW hH A c z 30 (by decide) 0 0 w ⟨hr.h.go hw (Split.nil _)⟩ (by omega)) ?_
    rintro v S' ⟨Af, cf, rfl, rfl⟩
    have hfl := fieldF_len z (W * H)
    have hfi := field_in16 hz (W * H)
    generalize fieldF z (W * H) = f at *
    rw [show (1 + 30 % 1000 : Int) = ((31 : Nat) : Int) by decide]
    have hcb : 2 ≤ W ∧ W ≤ 256 ∧ 2 ≤ H ∧ H ≤ 256 ∧ 1 ≤ 31 ∧ 31 ≤ 1000 := by omega
    have hF := caF_of (ox := 0) (oy := 0) hcb hfl hfi (by omega : 1 ≤ 4 ∧ 4 ≤ 32)
    refine z_tas
    rename_i b10 _ _ _
    refine lf rfl rfl rfl (S := []) (fun w hw ho => open10 W H 31 Af cf f 0 0 4 w ⟨Ro.row hw (Split.nil _) (by refine z_hs)⟩ hcb hfl hfi (by decide) (by decide) (by omega)) ?_
    rintro v S' ⟨K, hys, hrm, rfl, rfl⟩
    rw [← hys, ← hrm] at hF
    have k0 : CaOk K.ys f K.room (newV 4) 0 := by rw [hrm]; exact newV_ok (by omega)
    refine z_tas
    refine c_loop (X := Nat × Option Addr × Nat) (fun q => q.1 ≤ l.length ∧ ∀ j, j < q.1 → -2097152 ≤ (l.getD j default).z ∧ (l.getD j default).z ≤ 2097152)
      (fun q => [(4, .slice Al l.length cl), (5, .int .i16 up), (10, .pointer (some ⟨b10, 0, none⟩)), (15, .int .i64 2), (16, .pointer (some ⟨K.g, 0, none⟩)), (17, .slice q.2.1 (upTo21 l up q.1).length q.2.2), (18, .int .i64 q.1)])
      (fun q => K.HC (newV 4) [.blk b10 33 (schE s), .row (.slice q.2.1 (upTo21 l up q.1).length q.2.2) 56 3 (upTo21 l up q.1).length (flat smpE (upTo21 l up q.1))]) (fun q => l.length - q.1) (0, none, 0) ⟨by omega, fun j hj => by dsimp only at hj; omega⟩ ⟨rfl, rfl, rfl, rfl, rfl, rfl, rfl, trivial⟩ (by simp only [upTo21, flat_nil, List.length_nil]; exact Sub.au) ?_
    rintro ⟨i, A1, c1⟩ ⟨hi, hzz⟩
    dsimp only at hi hzz ⊢
    have hul := upTo21_len l up i
    rcases Nat.lt_or_ge i l.length with h | h
    · obtain ⟨bL, oL, rfl, hL⟩ := hrl.at_ (by omega : 0 < l.length)
      have hst : upTo21 l up (i + 1) = upTo21 l up i ++ [⟨(l.getD i default).dx, (l.getD i default).dy, (l.getD i default).z + up⟩] := rfl
      generalize hgu : upTo21 l up i = gu at *
      refine z_tas
      · exact j_out1 rfl rfl (.nil _) rfl
      · exact j_out1 rfl rfl (.nil _) rfl
      · rename_i A2 c2
        refine c_round (i + 1, A2, c2) ⟨h, fun j hj => ?_⟩ (by show l.length - (i + 1) < l.length - i; omega) ⟨rfl, rfl, rfl, rfl, rfl, by simp only [hst]; rfl, by simp [look], trivial⟩ (by simp only [hst]; exact Sub.au)
        dsimp only at hj
        rcases Nat.lt_or_ge j i with h1 | h1
        · exact hzz j h1
        · rw [show j = i by omega]; omega
    · obtain rfl : i = l.length := by omega
      rw [upTo21_all]
      have hupl := upS_len up l
      have e := allL_up (W := wY K.ys) (H := hY K.ys) hF.good.1 (s := s) (u := up) (l := l) (m := 2) (by decide) hup1 hzz
      refine z_tas
      refine lf rfl rfl rfl (S := K.H (newV 4)) (fun w hw ho => mbest_t K (newV 4) f s Al cl l 2 1 0 w ho hF k0 (by omega) ⟨hrl.h.go hw Split.au⟩ (by omega)) ?_
      rintro v S' ⟨s1, k1, rfl, rfl⟩
      refine z_tas
      refine lf rfl rfl rfl (S := K.H s1) (fun w hw ho => mbest_t K s1 f s A1 c1 (upS up l) 2 1 _ w ho hF k1 (by omega) ⟨Ro.row hw Split.au (by refine z_hs)⟩ (by omega)) ?_
      rintro v S' ⟨s2, k2, rfl, rfl⟩
      rw [e]
      refine z_tas
      exact j_out1 rfl rfl (.nil _) rfl
end Go.Proofs.Ytemmnpgebpffbaa
namespace Go.Proofs.Ytemmnpgebpffbaa
open Go.ChangeShapes Go.WideShapes Go.ChangeAt Go.RowKit Go.Deep Go.Joins
set_option maxRecDepth 100000 in
theorem lifted (os : Os) (started : os.Started) (H : Type) (enc : TypeId × Value → H) :
    ReturnsInHanded {} Try.checked os 6 .any (Rows.matchFreeSpec.pre6 enc Try.prog Try.f6 Rows.matchFreeRow.domain false) (Rows.matchFreeSpec.post enc Try.prog Try.f6 false true false false) := by
  refine returnsInHanded_of_change (C := Try.checked) own started (by kernel_rfl) Try.func6
    (ChangeSpec.witness6 (enc := enc) (C := Try.checked) false ⟨#[], #[.int .u8 0, .int .u8 0, .slice none 0 0, .agg #[.int .i64 0, .int .i64 0, .int .i64 0, .int .i64 0], .slice none 0 0, .int .i16 0, .bool false], []⟩ 8 (by kernel_rfl) (by kernel_rfl) (by kernel_rfl) (by kernel_rfl)) ?_
  intro W base args ds gs before hval0 hW hcnd _
  have hval : ∀ (j : Nat) t v, Try.f6.params[j]? = some t → args[j]? = some v → Value.okWide Try.prog W .any base t v := hval0
  have hW' := hW
  obtain ⟨p, q, hA0, hV, rfl, hfz, hnd⟩ := hW
  have hA : DataW.TrodAll enc Try.prog W 0 (fun _ => true) true Try.f6.params.toList args.toList ds p := hA0
  rw [Try.params6] at hA hval
  obtain ⟨v0, v1, v2, v3, v4, v5, v6, d0, d1, d2, d3, d4, d5, d6, p0, p1, p2, p3, p4, p5, p6, rfl, rfl, rfl, h0, h1, h2, h3, h4, h5, h6⟩ := trodAll_seven hA
  clear hA0 hval0
  obtain ⟨a, rfl, r0⟩ := gate_int Try.underlying5 (hval 0 _ _ rfl rfl) h0
  obtain ⟨b, rfl, r1⟩ := gate_int Try.underlying5 (hval 1 _ _ rfl rfl) h1
  obtain ⟨A2, c2, z, rfl, q2, r2⟩ := gate_ints Try.underlying28 Try.underlying53 (by kernel_rfl) (hval 2 _ _ rfl rfl) h2
  obtain ⟨_, rfl, sx, _, rfl, rx3, sy, _, rfl, ry3, sf, _, rfl, rf3, ss, _, rfl, rs3, rfl⟩ := gate_row Try.underlying33 cells_sch (hval 3 _ _ rfl rfl) h3
  obtain ⟨A4, c4, l, rfl, q4, r4⟩ := gate_rows (en := smpE) Try.underlying31 cells_smp rfl un_smp (hval 4 _ _ rfl rfl) h4
  obtain ⟨up, rfl, r5⟩ := gate_int Try.underlying53 (hval 5 _ _ rfl rfl) h5
  obtain ⟨sq, rfl⟩ := gate_bool Try.underlying4 (hval 6 _ _ rfl rfl) h6
  refine (below_of (free_law a r0 b r1 A2 c2 z q2 r2 ⟨sx, sy, sf, ss⟩ rx3 ry3 rf3 rs3 A4 c4 l q4 r4 up r5 sq (w := W))).mono fun e W' ⟨he, hb⟩ => ?_
  subst he
  exact ⟨_, rfl, gate_post (tb := 4) laidOut Try.underlying4 hW' rfl rfl (fun es h => by
    have h' : es.length = 7 := h
    match es, h' with
    | [_, _, _, _, _, _, _], _ => rfl) (of_decide_eq_true (by kernel_rfl)) hb⟩
theorem holds : Rows.MatchFreeSaid :=
  OpenClaim.holds_of_wide 6 Try.f6 rfl rfl rfl rfl rfl rfl rfl ⟨rfl, rfl, rfl, rfl, rfl⟩ rfl rfl rfl rfl rfl (by kernel_rfl) Try.func6 (by kernel_rfl)
    (of_decide_eq_true (by kernel_rfl)) (by unfold Func.isWrapper; first | (rw [if_pos (by decide +kernel)]; kernel_rfl) | (rw [if_neg (by decide +kernel)]; exact ⟨rfl, rfl⟩))
    (fun os started H enc _ => lifted os started H enc)

#print axioms holds
end Go.Proofs.Ytemmnpgebpffbaa
