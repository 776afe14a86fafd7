/- THE LEAST OF ALL: for every map, every search, every profile, every measure and every distance the law MatchBest of the given program returns true, and leaves its arguments as they were. No condition. -/
import Derived.Carry
import Derived.Test.YtemmnpgebpffbaaGreatME13
set_option linter.unusedVariables false
set_option linter.unusedSimpArgs false
/- Layer 21's statements: costs, the second best, how a profile lies. -/
namespace Go.Proofs.YtemmnpgebpffbaaGreat
open Go.RowKit
attribute [local irreducible] OJ J HdJ Code.wpIn wpListIn Oper.wpIn bodyPost CallsIn Does
set_option maxRecDepth 4000
end Go.Proofs.YtemmnpgebpffbaaGreat
/- Layer 21's statements: how a profile lies. -/
namespace Go.Proofs.YtemmnpgebpffbaaGreat
open Go.RowKit
attribute [local irreducible] OJ J HdJ Code.wpIn wpListIn Oper.wpIn bodyPost CallsIn Does
set_option maxRecDepth 4000
end Go.Proofs.YtemmnpgebpffbaaGreat
/- Layer 21's statements: free of the middle. -/
namespace Go.Proofs.YtemmnpgebpffbaaGreat
open Go.RowKit
instance : OneE smpE := ⟨fun a u hu => by simp [smpE] at hu; rcases hu with rfl | rfl | rfl <;> rfl⟩
instance (a b c : Int) : UnE smpE [.int .i64 a, .int .i64 b, .int .i64 c] ⟨a, b, c⟩ := ⟨rfl⟩
instance : OneE stpE := ⟨fun a u hu => by simp [stpE] at hu; rcases hu with rfl | rfl | rfl <;> rfl⟩
instance (a b c : Int) : UnE stpE [.int .i64 a, .int .i64 b, .int .i64 c] ⟨a, b, c⟩ := ⟨rfl⟩
/-- A search that is not more than is waited for. -/
def smallS (s : Sch) : Sch := if 3 < s.far ∧ s.far ≤ 32 then { s with far := s.far % 4 } else s
theorem pv_eqStp (t u : TypeId) (x y : Operand) (a b c : Int) (ht : t = 43) : PV Tryz.prog (.binOp .eql t x y u) [.agg #[.int .i64 a, .int .i64 b, .int .i64 c], .agg #[.int .i64 a, .int .i64 b, .int .i64 c]] (.bool true) True := ⟨by
  subst ht
  rintro _ ρ ⟨dst, op', ty, pos, aft, gd⟩ rfl h w
  obtain ⟨h1, h2⟩ := map2 h
  have u1 := Tryz.underlying2
  have a1 := Tryz.isAgg2
  have z1 := Tryz.sizeOf2
  have u2 := Tryz.underlying3
  have a2 := Tryz.isAgg3
  have z2 := Tryz.sizeOf3
  have hS : Tryz.prog.underlying 43 = some (.struct (Tryz.prog.fieldsOf 43)) := by kernel_rfl
  have hp : Tryz.prog.stoodInHeld 43 = false := by kernel_rfl
  have hm : Tryz.prog.eqGuardType Tryz.prog.depth 43 = false := by kernel_rfl
  simp only [execOp, h1, h2, Sem.run_bind, run_eqGuard_agg w _ _ _ _ _ _ hm, Result.andThen_ok]
  rw [run_eql_struct, show (10000 : Nat) = 9999 + 1 from rfl, run_equalIn_agg w 9999 43 _ _ hS hp]
  simp only [Program.fieldsOf, Tryz.underlying43]
  go_simp⟩
instance (priority := 2000) (u : TypeId) (x y : Operand) (a b c : Int) : PV Tryz.prog (.binOp .eql 43 x y u) [.agg #[.int .i64 a, .int .i64 b, .int .i64 c], .agg #[.int .i64 a, .int .i64 b, .int .i64 c]] (.bool true) True := pv_eqStp _ u x y a b c rfl
instance (priority := 2000) {w0 : World} {W : Nat → Prop} {H : List HE} (u : TypeId) (x y : Operand) (a b c : Int) : MS Tryz.prog w0 W H (.binOp .eql 43 x y u) [.agg #[.int .i64 a, .int .i64 b, .int .i64 c], .agg #[.int .i64 a, .int .i64 b, .int .i64 c]] (.bool true) True := ⟨by
  intro _ F n N ds σ dd ty pos aft gd K Q _ hv hdN h
  have hp := pv_eqStp 43 u x y a b c rfl
  exact o_val (by simp) rfl hdN (fun a w ha _ => pq_of (o := ⟨some dd, _, ty, pos, aft, gd⟩) hv trivial a.eval (fun x _ u hu => ha.eval hu) w) h⟩
/-- The first so many heights, found so much higher. -/
def upTo21 (l : List Smp) (u : Int) : Nat → List Smp
  | 0 => []
  | i + 1 => upTo21 l u i ++ [⟨(l.getD i default).dx, (l.getD i default).dy, (l.getD i default).z + u⟩]
theorem upTo21_len (l : List Smp) (u : Int) : ∀ i, (upTo21 l u i).length = i
  | 0 => rfl
  | i + 1 => by rw [upTo21, List.length_append, upTo21_len l u i]; rfl
theorem upTo21_take (u : Int) {l : List Smp} : ∀ {i : Nat}, i ≤ l.length → upTo21 l u i = upS u (l.take i)
  | 0, _ => by simp [upTo21, upS]
  | i + 1, h => by
    rw [upTo21, upTo21_take u (i := i) (by omega), List.take_succ_eq_append_getElem h]
    have : l.getD i default = l[i] := by rw [List.getD_eq_getElem?_getD, List.getElem?_eq_getElem h]; rfl
    rw [this]
    simp only [upS, List.map_append, List.map_cons, List.map_nil]
theorem upTo21_all (u : Int) (l : List Smp) : upTo21 l u l.length = upS u l := by rw [upTo21_take u (Nat.le_refl _), List.take_length]
theorem upS_len (u : Int) (l : List Smp) : (upS u l).length = l.length := by simp [upS]
theorem upS_ok {u : Int} {l : List Smp} {i : Nat} (hi : i < l.length) (hu : -32768 ≤ u ∧ u ≤ 32767) (hz : -2097152 ≤ (l.getD i default).z ∧ (l.getD i default).z ≤ 2097152) : SmpOk ((upS u l).getD i default) ↔ SmpOk (l.getD i default) := by
  rw [upS_get u hi]
  unfold SmpOk
  dsimp only
  omega
theorem badS_up {u : Int} {l : List Smp} (hu : -32768 ≤ u ∧ u ≤ 32767) (hz : ∀ i, i < l.length → -2097152 ≤ (l.getD i default).z ∧ (l.getD i default).z ≤ 2097152) : ∀ n, n ≤ l.length → badS (upS u l) n = badS l n
  | 0, _ => rfl
  | n + 1, h => by
    rw [badS, badS, badS_up hu hz n (by omega)]
    have := upS_ok (u := u) (l := l) (i := n) (by omega) hu (hz n (by omega))
    congr 2
    exact decide_eq_decide.2 this
theorem chk21_up {s : Sch} {u : Int} {l : List Smp} (hu : -32768 ≤ u ∧ u ≤ 32767) (hz : ∀ i, i < l.length → -2097152 ≤ (l.getD i default).z ∧ (l.getD i default).z ≤ 2097152) : chk21 s (upS u l) = chk21 s l := by
  unfold chk21
  rw [upS_len, badS_up hu hz _ (Nat.le_refl _)]
theorem allL_up {W H : Nat} {f : List Int} (hf : In16 f) {s : Sch} {u : Int} {l : List Smp} {m : Int} (hm : 2 ≤ m) (hu : -32768 ≤ u ∧ u ≤ 32767) (hz : ∀ i, i < l.length → -2097152 ≤ (l.getD i default).z ∧ (l.getD i default).z ≤ 2097152) : allL W H f s (upS u l) m = allL W H f s l m := by
  unfold allL
  rw [chk21_up hu hz]
  split
  · rename_i hc
    obtain ⟨-, ⟨-, -⟩, hl⟩ := chk21_ok hc
    have : gS W H f s (upS u l) m = gS W H f s l m := by
      funext n
      unfold gS
      have hd := DifOk_ap hf (W := W) (H := H) (X := s.x + (pS s.far n).1 * s.step) (Y := s.y + (pS s.far n).2 * s.step) hl l.length (Nat.le_refl _)
      refine plc_free W H f _ _ u hm (fun j hj => ?_) (fun j hj => ?_)
      · have := hd j hj
        omega
      · have := hd j hj
        rw [getD_map_sub u (by rw [apTo_len]; exact hj)]
        omega
    unfold allN
    rw [this]
  · rfl
attribute [local irreducible] OJ J HdJ Code.wpIn wpListIn Oper.wpIn bodyPost CallsIn Does
set_option maxRecDepth 4000
set_option maxHeartbeats 64000000 in
theorem small21_any (s : Sch) (w : World) : Does Tryz.prog 9 [.agg (schE s).toArray] [] w (fun v S' => v = .agg (schE (smallS s)).toArray ∧ S' = []) := by
  refine does_of Tryz.func9 rfl Tryz.ntmps9 rfl ⟨by simp, .nil⟩ (fun n => ?_)
  simp only [slots]
  unfold smallS
  refine z_tas
  · rw [if_pos (by omega)]
    refine z_ro
    exact ⟨rfl, rfl⟩
  · rw [if_neg (by omega)]
    refine z_ro
    exact ⟨rfl, rfl⟩
  · rw [if_neg (by omega)]
    refine z_ro
    exact ⟨rfl, rfl⟩
end Go.Proofs.YtemmnpgebpffbaaGreat
/- Package theodoliteref21: all steps of a search, the best of them. -/
namespace Go.Proofs.YtemmnpgebpffbaaGreat
open Go.RowKit
attribute [local irreducible] OJ J HdJ Code.wpIn wpListIn Oper.wpIn bodyPost CallsIn Does
set_option maxRecDepth 4000
set_option maxHeartbeats 128000000 in
theorem rall_any (W H : Nat) (A : Option Addr) (c : Nat) (f : List Int) (s : Sch) (Al : Option Addr) (cl : Nat) (l : List Smp) (m : Int) (w : World) (hr : RoA w (blocks []) A f.length c 1 (ints .i16 f)) (hW : 1 ≤ W ∧ W ≤ 256 ∧ 1 ≤ H ∧ H ≤ 256) (hz : f.length = W * H) (hf : In16 f)
    (hrl : RoA w (blocks []) Al l.length cl 3 (flat smpE l)) (hm : l.length ≤ 1000000) :
    Does Tryz.prog 12 [.agg #[.int .i64 W, .int .i64 H, .slice A f.length c], .agg (schE s).toArray, .slice Al l.length cl, .int .i64 m] [] w
      (fun v S' => ∃ Aa ca, v = .slice Aa (allL W H f s l m).length ca ∧ S' = [.row (.slice Aa (allL W H f s l m).length ca) 46 3 (allL W H f s l m).length (flat stpE (allL W H f s l m))]) := by
  refine does_of Tryz.func12 rfl Tryz.ntmps12 rfl ⟨by simp, .nil⟩ (fun n => ?_)
  simp only [slots]
  refine j_nil (e := 46) (size := 3) ?_
  refine z_tas
  rename_i b4 b5
  refine lfv rfl rfl rfl (fun w hw => rcheck21_any s Al cl l w ⟨hrl.h.go hw (Split.nil _)⟩ hm) ?_
  by_cases hc : chk21 s l = 0
  · obtain ⟨⟨⟨a1, a2⟩, ⟨a3, a4⟩, ⟨a5, a6⟩, a7, a8⟩, ⟨l1, l2⟩, hl⟩ := chk21_ok hc
    have hL : allL W H f s l m = (allN W H f s l m (sideN s.far * sideN s.far)).1 := if_pos hc
    have hside : ((sideN s.far : Nat) : Int) = 2 * s.far + 1 := by unfold sideN; omega
    rw [hL]
    have hrd := fun i j hi => all_round (W := W) (H := H) (f := f) (s := s) (l := l) (m := m) (i := i) (j := j) hi
    generalize hsd : sideN s.far = sd at *
    rw [hc]
    refine z_tas
    refine c_loop (X := Nat × Option Addr × Nat) (fun q => q.1 ≤ sd ∧ (allN W H f s l m (q.1 * sd)).2 = false)
      (fun q => [(2, .slice Al l.length cl), (3, .int .i64 m), (4, .pointer (some ⟨b4, 0, none⟩)), (5, .pointer (some ⟨b5, 0, none⟩)), (9, .slice q.2.1 (allN W H f s l m (q.1 * sd)).1.length q.2.2), (10, .int .i64 ((q.1 : Int) - s.far))])
      (fun q => [.blk b4 31 [.int .i64 W, .int .i64 H, .slice A f.length c], .blk b5 26 (schE s), .row (.slice q.2.1 (allN W H f s l m (q.1 * sd)).1.length q.2.2) 46 3 (allN W H f s l m (q.1 * sd)).1.length (flat stpE (allN W H f s l m (q.1 * sd)).1)]) (fun q => sd - q.1) (0, none, 0) ⟨by omega, by rw [Nat.zero_mul]; rfl⟩ ⟨rfl, rfl, rfl, rfl, by rw [Nat.zero_mul]; rfl, by simp [look], trivial⟩ (by simp only [Nat.zero_mul]; show Sub [_, _, .row (.slice none 0 0) _ 3 0 []] _; exact Sub.au) ?_
    rintro ⟨j, A1, c1⟩ ⟨hj, hok⟩
    dsimp only at hj hok ⊢
    have hlj := all_len (g := gS W H f s l m) (p := pS s.far) (j * sd)
    rcases Nat.lt_or_ge j sd with hlt | hge
    · have hjs : j * sd + sd ≤ sd * sd := by have := Nat.mul_le_mul_right sd (show j + 1 ≤ sd from hlt); rw [Nat.add_mul, Nat.one_mul] at this; exact this
      have hss : sd * sd ≤ 4225 := by have := Nat.mul_le_mul (show sd ≤ 65 by omega) (show sd ≤ 65 by omega); omega
      have hsj : (j + 1) * sd = j * sd + sd := by rw [Nat.add_mul, Nat.one_mul]
      refine z_tas
      refine c_loop (X := Nat × Option Addr × Nat) (fun q => q.1 ≤ sd ∧ (allN W H f s l m (j * sd + q.1)).2 = false)
        (fun q => [(2, .slice Al l.length cl), (3, .int .i64 m), (4, .pointer (some ⟨b4, 0, none⟩)), (5, .pointer (some ⟨b5, 0, none⟩)), (9, .slice q.2.1 (allN W H f s l m (j * sd + q.1)).1.length q.2.2), (10, .int .i64 ((j : Int) - s.far)), (11, .int .i64 ((q.1 : Int) - s.far))])
        (fun q => [.blk b4 31 [.int .i64 W, .int .i64 H, .slice A f.length c], .blk b5 26 (schE s), .row (.slice q.2.1 (allN W H f s l m (j * sd + q.1)).1.length q.2.2) 46 3 (allN W H f s l m (j * sd + q.1)).1.length (flat stpE (allN W H f s l m (j * sd + q.1)).1)]) (fun q => sd - q.1) (0, A1, c1) ⟨by omega, hok⟩ ⟨rfl, rfl, rfl, rfl, rfl, rfl, by simp [look], trivial⟩ Sub.au ?_
      rintro ⟨i, A2, c2⟩ ⟨hi, hok2⟩
      dsimp only at hi hok2 ⊢
      have hli := all_len (g := gS W H f s l m) (p := pS s.far) (j * sd + i)
      rcases Nat.lt_or_ge i sd with hlt2 | hge2
      · have hg := hrd i j hlt2
        have hx := mulB 32 4096 (a := (i : Int) - s.far) (b := s.step) (by omega) (by omega)
        have hy2 := mulB 32 4096 (a := (j : Int) - s.far) (b := s.step) (by omega) (by omega)
        have hn := all_none (g := gS W H f s l m) (p := pS s.far) (n := j * sd + i) hok2
        have hsm := fun c => all_some (g := gS W H f s l m) (p := pS s.far) (n := j * sd + i) (c := c) hok2
        have her := fun c e => all_err (g := gS W H f s l m) (p := pS s.far) (n := j * sd + i) (c := c) (e := e) hok2
        have hst := fun h => all_stop (g := gS W H f s l m) (p := pS s.far) (n := j * sd + i + 1) h (sd * sd - (j * sd + i + 1))
        rw [show j * sd + i + 1 + (sd * sd - (j * sd + i + 1)) = sd * sd by omega] at hst
        have hps : pS s.far (j * sd + i) = ((i : Int) - s.far, (j : Int) - s.far) := by rw [← hsd]; exact pS_at (by rw [hsd]; exact hlt2)
        generalize hXe : s.x + ((i : Int) - s.far) * s.step = X at *
        generalize hYe : s.y + ((j : Int) - s.far) * s.step = Y at *
        have hne : ∀ q, allN W H f s l m q = allTo (gS W H f s l m) (pS s.far) q := fun _ => rfl
        rw [hne] at hok2 ⊢
        generalize hQ : allTo (gS W H f s l m) (pS s.far) (j * sd + i) = Q at *
        obtain ⟨Q1, Q2⟩ := Q
        dsimp only at hok2 hli hn hsm her ⊢
        subst hok2
        refine z_tas
        rw [hXe, hYe]
        refine lf rfl rfl rfl (S := []) (fun w hw ho => rapart_any W H A c f X Y Al cl l w ⟨hr.h.go hw (Split.nil _)⟩ hW hz hf ⟨hrl.h.go hw (Split.nil _)⟩ hm (by omega) (by omega) hl) ?_
        rintro v S' (⟨hon, Aa, ca, rfl, rfl⟩ | ⟨hon, rfl, rfl⟩)
        · rw [if_pos hon] at hg
          have hal := apTo_len W H f X Y l l.length
          generalize hd : apTo W H f X Y l l.length = d at *
          refine z_tas
          refine lfv rfl rfl rfl (fun w hw => rcost_any Aa ca d m w ⟨Ro.row hw (Split.nil _) (by refine z_hs)⟩ (by omega)) ?_
          obtain ⟨cc1, e1, hce⟩ : ∃ c e, costF d m 1 2 10 = (c, e) := ⟨_, _, rfl⟩
          rw [hce] at hg ⊢
          dsimp only
          refine z_tas
          · rename_i hne2
            have hne' : e1 ≠ 0 := by simpa using hne2
            have he := her _ _ hg hne'
            refine j_out1 rfl rfl (S' := [.row (.slice A2 Q1.length c2) 46 3 Q1.length (flat stpE Q1)]) Sub.au ⟨A2, c2, ?_⟩
            rw [hne, hst (by rw [he]), he]
            exact ⟨rfl, rfl⟩
          · rename_i hne2 _ A3 c3
            obtain rfl : e1 = 0 := Classical.not_not.1 hne2
            have hsm' := hsm _ hg
            rw [hps] at hsm'
            refine c_round (i + 1, A3, c3) ⟨hlt2, by show (allTo _ _ (j * sd + i + 1)).2 = false; rw [hsm']⟩ (by show sd - (i + 1) < sd - i; omega) ⟨rfl, rfl, rfl, rfl, by show look _ 9 = some (.slice _ (allTo _ _ (j * sd + i + 1)).1.length _); rw [hsm']; rfl, rfl, by simp [look]; omega, trivial⟩ ?_
            show Sub [_, _, .row (.slice _ (allTo _ _ (j * sd + i + 1)).1.length _) _ _ (allTo _ _ (j * sd + i + 1)).1.length (flat stpE (allTo _ _ (j * sd + i + 1)).1)] _
            rw [hsm']
            exact Sub.au
        · rw [hon, if_neg (by decide)] at hg
          refine z_tas
          have hn' := hn hg
          refine c_round (i + 1, A2, c2) ⟨hlt2, by show (allTo _ _ (j * sd + i + 1)).2 = false; rw [hn']⟩ (by show sd - (i + 1) < sd - i; omega) ⟨rfl, rfl, rfl, rfl, by show look _ 9 = some (.slice _ (allTo _ _ (j * sd + i + 1)).1.length _); rw [hn']; rfl, rfl, by simp [look]; omega, trivial⟩ ?_
          show Sub [_, _, .row (.slice _ (allTo _ _ (j * sd + i + 1)).1.length _) _ _ (allTo _ _ (j * sd + i + 1)).1.length (flat stpE (allTo _ _ (j * sd + i + 1)).1)] _
          rw [hn']
          exact Sub.au
      · obtain rfl : i = sd := by omega
        refine z_tas
        refine c_round (j + 1, A2, c2) ⟨hlt, by dsimp only; rw [hsj]; exact hok2⟩ (by show i - (j + 1) < i - j; omega) ⟨rfl, rfl, rfl, rfl, by dsimp only; rw [hsj]; rfl, by simp [look]; omega, trivial⟩ (by dsimp only; rw [hsj]; exact Sub.au)
    · obtain rfl : j = sd := by omega
      have hss : j * j ≤ 4225 := by have := Nat.mul_le_mul (show j ≤ 65 by omega) (show j ≤ 65 by omega); omega
      refine z_tas
      exact j_out1 rfl rfl Sub.au ⟨A1, c1, rfl, rfl⟩
  · have hL : allL W H f s l m = [] := if_neg hc
    rw [hL]
    refine z_tas
    exact j_out1 rfl rfl (S' := [.row (.slice none 0 0) 46 3 0 []]) Sub.au ⟨none, 0, rfl, rfl⟩
end Go.Proofs.YtemmnpgebpffbaaGreat
/- Package theodoliteref21: the best of all steps; layer 21's statement on it. -/
namespace Go.Proofs.YtemmnpgebpffbaaGreat
open Go.RowKit
def bstV (L : List Stp) (i : Nat) : Int := match bstTo L i with
  | none => -1
  | some b => b
theorem bstV_none {L : List Stp} {i : Nat} (h : bstTo L i = none) : bstV L i = -1 := by unfold bstV; rw [h]
theorem bstV_some {L : List Stp} {i b : Nat} (h : bstTo L i = some b) : bstV L i = b := by unfold bstV; rw [h]
theorem bstTo_succ_none {L : List Stp} {i : Nat} (h : bstTo L i = none) : bstTo L (i + 1) = some i := by rw [bstTo, h]
theorem bstTo_succ_lt {L : List Stp} {i b : Nat} (h : bstTo L i = some b) (h2 : (L.getD i default).cost < (L.getD b default).cost) : bstTo L (i + 1) = some i := by rw [bstTo, h]; exact if_pos h2
theorem bstTo_succ_ge {L : List Stp} {i b : Nat} (h : bstTo L i = some b) (h2 : ¬ (L.getD i default).cost < (L.getD b default).cost) : bstTo L (i + 1) = some b := by rw [bstTo, h]; exact if_neg h2
attribute [local irreducible] OJ J HdJ Code.wpIn wpListIn Oper.wpIn bodyPost CallsIn Does
set_option maxRecDepth 4000
set_option maxHeartbeats 128000000 in
theorem rbest_any (A : Option Addr) (c : Nat) (L : List Stp) (away : Int) (w : World) (hr : RoA w (blocks []) A L.length c 3 (flat stpE L)) (hm : L.length ≤ 4225) (hL : ∀ i, i < L.length → ((-32 ≤ (L.getD i default).i ∧ (L.getD i default).i ≤ 32) ∧ (-32 ≤ (L.getD i default).k ∧ (L.getD i default).k ≤ 32))) :
    Does Tryz.prog 13 [.slice A L.length c, .int .i64 away] [] w (fun v S' => v = .tuple #[.int .i64 (bstV L L.length), .int .i64 (secTo L (L.getD ((bstTo L L.length).getD 0) default) away L.length)] ∧ S' = []) := by
  refine does_of Tryz.func13 rfl Tryz.ntmps13 rfl ⟨by simp, .nil⟩ (fun n => ?_)
  simp only [slots]
  refine z_tas
  refine c_loop (X := Nat) (fun i => i ≤ L.length) (fun i => [(0, .slice A L.length c), (1, .int .i64 away), (6, .int .i64 (bstV L i)), (7, .int .i64 i)])
    (fun i => []) (fun i => L.length - i) 0 (by omega) ⟨rfl, rfl, rfl, rfl, trivial⟩ Sub.au ?_
  intro i hi
  rcases Nat.lt_or_ge i L.length with h | h
  · obtain ⟨bL, oL, rfl, hRL⟩ := hr.at_ (by omega : 0 < L.length)
    cases hb : bstTo L i with
    | none =>
      have e := bstV_some (bstTo_succ_none hb)
      rw [bstV_none hb]
      refine z_tas
      all_goals try (refine c_dv (0 :: 1 :: 2 :: 3 :: 4 :: 5 :: 6 :: 7 :: 8 :: 9 :: 10 :: 11 :: 12 :: 13 :: 14 :: []) ?_; intro _)
      all_goals try (refine z_govG)
      all_goals exact c_round (i + 1) h (by show L.length - (i + 1) < L.length - i; omega) ⟨rfl, rfl, by rw [e]; rfl, by simp [look], trivial⟩ Sub.au
    | some b =>
      have hlt := bstTo_lt hb
      have e1 := fun q => bstV_some (bstTo_succ_lt hb q)
      have e2 := fun q => bstV_some (bstTo_succ_ge hb q)
      rw [bstV_some hb]
      refine z_tas
      all_goals try (refine c_dv (0 :: 1 :: 2 :: 3 :: 4 :: 5 :: 6 :: 7 :: 8 :: 9 :: 10 :: 11 :: 12 :: 13 :: 14 :: []) ?_; intro _)
      all_goals try (refine z_govG)
      all_goals first
        | exact c_round (i + 1) h (by show L.length - (i + 1) < L.length - i; omega) ⟨rfl, rfl, by rw [e1 (by omega)]; rfl, by simp [look], trivial⟩ Sub.au
        | exact c_round (i + 1) h (by show L.length - (i + 1) < L.length - i; omega) ⟨rfl, rfl, by rw [e2 (by omega)]; rfl, by simp [look], trivial⟩ Sub.au
        | (exfalso; omega)
  · obtain rfl : i = L.length := by omega
    cases hb : bstTo L L.length with
    | none =>
      have hl0 : L.length = 0 := bstTo_none.1 hb
      have es : ∀ x, secTo L x away L.length = -1 := fun x => by rw [hl0]; rfl
      rw [bstV_none hb, es]
      refine z_tas
      refine c_loop (X := Nat) (fun i => i = 0) (fun i => [(0, .slice A L.length c), (6, .int .i64 (-1)), (8, .int .i64 (-1)), (9, .int .i64 i)])
        (fun i => []) (fun i => 0) 0 rfl ⟨rfl, rfl, rfl, rfl, trivial⟩ Sub.au ?_
      rintro i rfl
      rw [hl0]
      refine z_tas
      exact j_out2 rfl rfl rfl (.nil _) ⟨rfl, rfl⟩
    | some b =>
      have hlt := bstTo_lt hb
      obtain ⟨bL, oL, rfl, hRL⟩ := hr.at_ (by omega : 0 < L.length)
      have hbb := hL b hlt
      rw [bstV_some hb]
      simp only [Option.getD_some]
      refine z_tas
      refine c_loop (X := Nat) (fun i => i ≤ L.length) (fun i => [(0, .slice (some ⟨bL, oL, none⟩) L.length c), (1, .int .i64 away), (6, .int .i64 b), (8, .int .i64 (secTo L (L.getD b default) away i)), (9, .int .i64 i)])
        (fun i => []) (fun i => L.length - i) 0 (by omega) ⟨rfl, rfl, rfl, rfl, rfl, trivial⟩ Sub.au ?_
      intro i hi
      rcases Nat.lt_or_ge i L.length with h | h
      · have hx := hL i h
        have e := secTo.eq_2 L (L.getD b default) away i
        have hnr := fun w => (near_cv (L.getD i default) (L.getD b default) away).h ⟨hx, hbb⟩ w
        generalize hsc : secTo L (L.getD b default) away i = sc at *
        by_cases hf : farB (L.getD i default) (L.getD b default) away = true
        · have iN : CV Tryz.prog 44 [.agg (stpE (L.getD i default)).toArray, .agg (stpE (L.getD b default)).toArray, .int .i64 away] (.bool false) True := ⟨fun _ w => by have := hnr w; rw [hf] at this; exact this⟩
          have e1 : (sc < 0 ∨ (L.getD i default).cost < sc) → secTo L (L.getD b default) away (i + 1) = (L.getD i default).cost := fun q => by rw [e, if_pos ⟨hf, q⟩]
          have e2 : ¬ (sc < 0 ∨ (L.getD i default).cost < sc) → secTo L (L.getD b default) away (i + 1) = sc := fun q => by rw [e, if_neg (fun h => q h.2)]
          clear e hnr
          refine z_tas
          all_goals try (refine c_dv (0 :: 1 :: 2 :: 3 :: 4 :: 5 :: 6 :: 7 :: 8 :: 9 :: 10 :: 11 :: 12 :: 13 :: 14 :: 15 :: 16 :: 17 :: 18 :: 19 :: 20 :: 21 :: 22 :: 23 :: []) ?_; intro _)
          all_goals try (refine z_govG)
          all_goals first
            | exact c_round (i + 1) h (by show L.length - (i + 1) < L.length - i; omega) ⟨rfl, rfl, rfl, by rw [e1 (by omega)]; rfl, by simp [look], trivial⟩ Sub.au
            | exact c_round (i + 1) h (by show L.length - (i + 1) < L.length - i; omega) ⟨rfl, rfl, rfl, by rw [e2 (by omega)]; rfl, by simp [look], trivial⟩ Sub.au
        · have iN : CV Tryz.prog 44 [.agg (stpE (L.getD i default)).toArray, .agg (stpE (L.getD b default)).toArray, .int .i64 away] (.bool true) True := ⟨fun _ w => by have := hnr w; rw [Bool.eq_false_iff.2 hf] at this; exact this⟩
          have e2 : secTo L (L.getD b default) away (i + 1) = sc := by rw [e, if_neg (fun h => hf h.1)]
          clear e hnr
          refine z_tas
          all_goals try (refine c_dv (0 :: 1 :: 2 :: 3 :: 4 :: 5 :: 6 :: 7 :: 8 :: 9 :: 10 :: 11 :: 12 :: 13 :: 14 :: 15 :: 16 :: 17 :: 18 :: 19 :: 20 :: 21 :: 22 :: 23 :: []) ?_; intro _)
          all_goals try (refine z_govG)
          all_goals exact c_round (i + 1) h (by show L.length - (i + 1) < L.length - i; omega) ⟨rfl, rfl, rfl, by rw [e2]; rfl, by simp [look], trivial⟩ Sub.au
      · obtain rfl : i = L.length := by omega
        refine z_tas
        exact j_out2 rfl rfl rfl (.nil _) ⟨rfl, rfl⟩
end Go.Proofs.YtemmnpgebpffbaaGreat
/- Layer 21's statements: the best of all steps. -/
namespace Go.Proofs.YtemmnpgebpffbaaGreat
open Go.RowKit
attribute [local irreducible] OJ J HdJ Code.wpIn wpListIn Oper.wpIn bodyPost CallsIn Does
set_option maxRecDepth 4000
set_option maxHeartbeats 128000000 in
theorem best_law (a : Int) (ha : InR .u8 a) (b : Int) (hb : InR .u8 b) (A : Option Addr) (c : Nat) (z : List Int) {w : World} (hr : RoA w (blocks []) A z.length c 1 (ints .i16 z)) (hz : ∀ x ∈ z, InR .i16 x) (s0 : Sch) (rx : InR .i64 s0.x) (ry : InR .i64 s0.y) (rf : InR .i64 s0.far) (rs : InR .i64 s0.step) (Al : Option Addr) (cl : Nat) (l : List Smp) (hrl : RoA w (blocks []) Al l.length cl 3 (flat smpE l)) (hls : ∀ p ∈ l, p.ok) (m : Int) (hm : InR .i64 m) (away : Int) (haw : InR .i64 away) :
    Does Tryz.prog 3 [.int .u8 a, .int .u8 b, .slice A z.length c, .agg (schE s0).toArray, .slice Al l.length cl, .int .i64 m, .int .i64 away] [] w (fun v _ => v = .bool true) := by
  have ha1 : 0 ≤ a ∧ a ≤ 255 := ha
  have hb1 : 0 ≤ b ∧ b ≤ 255 := hb
  obtain ⟨W, hW, hW1⟩ : ∃ x : Nat, 2 + a % 39 = (x : Int) ∧ 2 ≤ x ∧ x ≤ 40 := ⟨(2 + a % 39).toNat, by omega, by omega⟩
  obtain ⟨H, hH, hH1⟩ : ∃ x : Nat, 2 + b % 39 = (x : Int) ∧ 2 ≤ x ∧ x ≤ 40 := ⟨(2 + b % 39).toNat, by omega, by omega⟩
  have iW : CV Tryz.prog 8 [] (.bool true) True := ⟨fun _ w => works21 w⟩
  have iS : CV Tryz.prog 9 [.agg (schE s0).toArray] (.agg (schE (smallS s0)).toArray) True := ⟨fun _ w => small21_any s0 w⟩
  generalize smallS s0 = s at *
  refine does_of Tryz.func3 rfl Tryz.ntmps3 rfl ⟨by simp, .nil⟩ (fun n => ?_)
  simp only [slots]
  refine z_tas
  · exact j_out1 rfl rfl (.nil _) rfl
  · exact j_out1 rfl rfl (.nil _) rfl
  refine lf rfl rfl rfl (S := []) (fun w hw ho => made_any a b ha hb W H hW hH A c z 30 (by decide) 0 0 w ⟨hr.h.go hw (Split.nil _)⟩ (by omega)) ?_
  rintro v S' ⟨Af, cf, rfl, rfl⟩
  have hfl := fieldF_len z (W * H)
  have hfi := field_in16 hz (W * H)
  generalize fieldF z (W * H) = f at *
  rw [show (1 + 30 % 1000 : Int) = ((31 : Nat) : Int) by decide]
  have hcb : 2 ≤ W ∧ W ≤ 256 ∧ 2 ≤ H ∧ H ≤ 256 ∧ 1 ≤ 31 ∧ 31 ≤ 1000 := by omega
  have hF := caF_of (ox := 0) (oy := 0) hcb hfl hfi (by omega : 1 ≤ 4 ∧ 4 ≤ 32)
  obtain ⟨-, h2, h3, -, -, -⟩ := chart_hdr (ox := 0) (oy := 0) (z := f) (W := W) (H := H) (cell := 31) (by omega)
  refine z_tas
  refine lf rfl rfl rfl (S := []) (fun w hw ho => open10 W H 31 Af cf f 0 0 4 w ⟨Ro.row hw (Split.nil _) (by refine z_hs)⟩ hcb hfl hfi (by decide) (by decide) (by omega)) ?_
  rintro v S' ⟨K, hys, hrm, rfl, rfl⟩
  rw [← hys, ← hrm] at hF
  rw [← hys] at h2 h3
  have k0 : CaOk K.ys f K.room (newV 4) 0 := by rw [hrm]; exact newV_ok (by omega)
  refine z_tas
  refine lf rfl rfl rfl (S := []) (fun w hw ho => rall_any W H Af cf f s Al cl l m w ⟨Ro.row hw (Split.nil _) (by refine z_hs)⟩ (by omega) hfl hfi ⟨hrl.h.go hw (Split.nil _)⟩ (by omega)) ?_
  rintro v S' ⟨Aa, ca, rfl, rfl⟩
  have hLl := allL_len W H f s l m
  have hLi := fun i hi => allL_in (W := W) (H := H) (f := f) (s := s) (l := l) (m := m) (i := i) hi
  refine z_tas
  refine lfv rfl rfl rfl (fun w hw => rbest_any Aa ca (allL W H f s l m) away w ⟨Ro.row hw (Split.nil _) (by refine z_hs)⟩ hLl (fun i hi => ⟨(hLi i hi).1, (hLi i hi).2.1⟩)) ?_
  refine z_tas
  refine lf rfl rfl rfl (S := K.H (newV 4)) (fun w hw ho => mbest_t K (newV 4) f s Al cl l m away 0 w ho hF k0 (by omega) ⟨hrl.h.go hw Split.au⟩ (by omega)) ?_
  rintro v S' ⟨s1, k1, rfl, rfl⟩
  rw [h2, h3]
  have hcb2 := cb_bst (l := allL W H f s l m) (fun i hi => (hLi i hi).2.2.1.1) (n := (allL W H f s l m).length) (Nat.le_refl _)
  generalize allL W H f s l m = L at *
  cases hbt : bstTo L L.length with
  | none =>
    have hl0 : L.length = 0 := bstTo_none.1 hbt
    have es : ∀ x, secTo L x away L.length = -1 := fun x => by rw [hl0]; rfl
    rw [hcb2.1 hbt, bstV_none hbt, es, es, hl0]
    refine z_tas
    exact j_out1 rfl rfl (.nil _) rfl
  | some q =>
    have hlt := bstTo_lt hbt
    rw [hcb2.2 q hbt, bstV_some hbt]
    simp only [Option.getD_some]
    refine j_app ?_
    refine j_opn (A := Aa) (m := L.length) (cc := ca) (by omega) (fun g1 hg1 => ?_)
    subst hg1
    refine z_tas
    all_goals try (refine c_dv (0 :: 1 :: 2 :: 3 :: 4 :: 5 :: 6 :: 7 :: 8 :: 9 :: 10 :: 11 :: 12 :: 13 :: 14 :: 15 :: 16 :: 17 :: 18 :: 19 :: 20 :: 21 :: 22 :: 23 :: 24 :: 25 :: 26 :: 27 :: 28 :: 29 :: 30 :: 31 :: 32 :: 33 :: 34 :: 35 :: 36 :: []) ?_; intro _)
    all_goals try (refine z_govG)
    all_goals exact j_out1 rfl rfl (.nil _) rfl
end Go.Proofs.YtemmnpgebpffbaaGreat
namespace Go.Proofs.YtemmnpgebpffbaaGreat
open Go.ChangeShapes Go.WideShapes Go.ChangeAt Go.RowKit Go.Deep Go.Joins
set_option maxRecDepth 100000 in
theorem lifted (os : Os) (started : os.Started) (H : Type) (enc : TypeId × Value → H) :
    ReturnsInHanded {} Tryz.checked os 3 .any (Rows.matchBestSpec.pre6 enc Tryz.prog Tryz.f3 Rows.matchBestRow.domain false) (Rows.matchBestSpec.post enc Tryz.prog Tryz.f3 false true false false) := by
  refine returnsInHanded_of_change (C := Tryz.checked) own started (by kernel_rfl) Tryz.func3
    (ChangeSpec.witness6 (enc := enc) (C := Tryz.checked) false ⟨#[], #[.int .u8 0, .int .u8 0, .slice none 0 0, .agg #[.int .i64 0, .int .i64 0, .int .i64 0, .int .i64 0], .slice none 0 0, .int .i64 0, .int .i64 0], []⟩ 8 (by kernel_rfl) (by kernel_rfl) (by kernel_rfl) (by kernel_rfl)) ?_
  intro W base args ds gs before hval0 hW hcnd _
  have hval : ∀ (j : Nat) t v, Tryz.f3.params[j]? = some t → args[j]? = some v → Value.okWide Tryz.prog W .any base t v := hval0
  have hW' := hW
  obtain ⟨p, q, hA0, hV, rfl, hfz, hnd⟩ := hW
  have hA : DataW.TrodAll enc Tryz.prog W 0 (fun _ => true) true Tryz.f3.params.toList args.toList ds p := hA0
  rw [Tryz.params3] at hA hval
  obtain ⟨v0, v1, v2, v3, v4, v5, v6, d0, d1, d2, d3, d4, d5, d6, p0, p1, p2, p3, p4, p5, p6, rfl, rfl, rfl, h0, h1, h2, h3, h4, h5, h6⟩ := trodAll_seven hA
  clear hA0 hval0
  obtain ⟨a, rfl, r0⟩ := gate_int Tryz.underlying5 (hval 0 _ _ rfl rfl) h0
  obtain ⟨b, rfl, r1⟩ := gate_int Tryz.underlying5 (hval 1 _ _ rfl rfl) h1
  obtain ⟨A2, c2, z, rfl, q2, r2⟩ := gate_ints Tryz.underlying22 Tryz.underlying92 (by kernel_rfl) (hval 2 _ _ rfl rfl) h2
  obtain ⟨_, rfl, sx, _, rfl, rx3, sy, _, rfl, ry3, sf, _, rfl, rf3, ss, _, rfl, rs3, rfl⟩ := gate_row Tryz.underlying26 cells_sch (hval 3 _ _ rfl rfl) h3
  obtain ⟨A4, c4, l, rfl, q4, r4⟩ := gate_rows (en := smpE) Tryz.underlying27 cells_smp rfl un_smp (hval 4 _ _ rfl rfl) h4
  obtain ⟨m, rfl, r5⟩ := gate_int Tryz.underlying3 (hval 5 _ _ rfl rfl) h5
  obtain ⟨away, rfl, r6⟩ := gate_int Tryz.underlying3 (hval 6 _ _ rfl rfl) h6
  refine (below_of (best_law a r0 b r1 A2 c2 z q2 r2 ⟨sx, sy, sf, ss⟩ rx3 ry3 rf3 rs3 A4 c4 l q4 r4 m r5 away r6 (w := W))).mono fun e W' ⟨he, hb⟩ => ?_
  subst he
  exact ⟨_, rfl, gate_post (tb := 4) laidOut Tryz.underlying4 hW' rfl rfl (fun es h => by
    have h' : es.length = 7 := h
    match es, h' with
    | [_, _, _, _, _, _, _], _ => rfl) (of_decide_eq_true (by kernel_rfl)) hb⟩
theorem holds : Rows.MatchBestSaid :=
  OpenClaim.holds_of_wide 3 Tryz.f3 rfl rfl rfl rfl rfl rfl rfl ⟨rfl, rfl, rfl, rfl, rfl⟩ rfl rfl rfl rfl rfl (by kernel_rfl) Tryz.func3 (by kernel_rfl)
    (of_decide_eq_true (by kernel_rfl)) (by unfold Func.isWrapper; first | (rw [if_pos (by decide +kernel)]; kernel_rfl) | (rw [if_neg (by decide +kernel)]; exact ⟨rfl, rfl⟩))
    (fun os started H enc _ => lifted os started H enc)

#print axioms holds
end Go.Proofs.YtemmnpgebpffbaaGreat
