
import Derived.Test.YtemmnpgebpffbaaGreatMF13
set_option linter.unusedVariables false
set_option linter.unusedSimpArgs false
/- Packages drift and theodoliteref40: what is wrong with a search, how far the ground is from a height at each step. -/
namespace Go.Proofs.YtemmnpgebpffbaaGreat
open Go.RowKit
/-- Numbers, one by one. -/
def tab (g : Nat → Int) : Nat → List Int
  | 0 => []
  | i + 1 => tab g i ++ [g i]
theorem tab_len (g : Nat → Int) : ∀ n, (tab g n).length = n
  | 0 => rfl
  | n + 1 => by rw [tab, List.length_append, tab_len g n]; rfl
theorem tab_get (g : Nat → Int) {i : Nat} : ∀ {n : Nat}, i < n → (tab g n).getD i 0 = g i
  | n + 1, h => by
    rw [tab]
    rcases Nat.lt_or_ge i n with h1 | h1
    · rw [List.getD_eq_getElem?_getD, List.getElem?_append_left (by rw [tab_len]; exact h1), ← List.getD_eq_getElem?_getD, tab_get g h1]
    · obtain rfl : i = n := by omega
      rw [List.getD_eq_getElem?_getD, List.getElem?_append_right (by rw [tab_len]; exact Nat.le_refl _), tab_len, Nat.sub_self]
      rfl
/-- By how much the ground is from a height, at a step; -1: there is none. -/
def offF (W H : Nat) (f : List Int) (s : Sch) (x : Smp) (i k : Int) : Int :=
  if codeF W H f (s.x + i * s.step + x.dx) (s.y + k * s.step + x.dy) = 0 then max (heightT W H f (s.x + i * s.step + x.dx) (s.y + k * s.step + x.dy) - x.z) (-(heightT W H f (s.x + i * s.step + x.dx) (s.y + k * s.step + x.dy) - x.z)) else -1
def cstF (W H : Nat) (f : List Int) (s : Sch) (l : List Smp) (n a : Nat) : Int := offF W H f s (l.getD n default) (pS s.far a).1 (pS s.far a).2
theorem onTo_one (W H : Nat) (f : List Int) (X Y : Int) (x : Smp) : onTo W H f X Y [x] [x].length = (codeF W H f (X + x.dx) (Y + x.dy) == 0) := rfl
theorem apTo_one (W H : Nat) (f : List Int) (X Y : Int) (x : Smp) : apTo W H f X Y [x] [x].length = [heightT W H f (X + x.dx) (Y + x.dy) - x.z] := rfl
theorem RoA.sub1 {w0 : World} {W : Nat → Prop} {A : Option Addr} {c n : Nat} {l : List Smp} (hr : RoA w0 W A l.length c 3 (flat smpE l)) (hn : n < l.length) : RoA w0 W (subA A n c 3) [l.getD n default].length (c - n) 3 (flat smpE [l.getD n default]) := by
  obtain ⟨A', c', e1, h1, h2, h3, h4⟩ := hr.h
  injection e1 with e1 e2 e3; subst e1 e3
  refine ⟨subA A n c 3, c - n, rfl, by simp only [List.length_cons, List.length_nil]; omega, by omega, by simp [flat_len], fun _ => ?_⟩
  obtain ⟨b, off, rfl, h5, h6, h7⟩ := h4 (by omega)
  refine ⟨b, off + n * 3, ?_, h5, h6, fun j v hj => ?_⟩
  · unfold subA
    rw [if_neg (by omega)]
    simp [add_none]
  · rw [Nat.add_assoc]
    refine h7 (n * 3 + j) v ?_
    rw [flat_one] at hj
    have hj3 : j < 3 := by
      have := (List.getElem?_eq_some_iff.1 hj).1
      simpa using this
    rw [flat_at l n j hn hj3]
    exact hj
def chk40 (s : Sch) (l : List Smp) (turn : Int) : Int := if chk21 s l ≠ 0 then chk21 s l else if 8 < s.far then 12 else if turn < 0 ∨ 1048576 < turn then 1 else 0
instance (priority := 60) {P : Program} {w0 : World} {W : Nat → Prop} {H : List HE} (t e sz bs m c l h : Nat) (z : Value) (k k' : IntKind) (a : Int) (x lo hi : Operand) (A : Option Addr) [hu : Und P t (.slice e)] [hI : Inf P e sz bs z] [ha : LitI a h] : MS P w0 W H (.slice t x (some lo) (some hi) none) [.slice A m c, .int k (l : Int), .int k' a] (.slice (subA A l c sz) (h - l) (c - l)) (l ≤ h ∧ h ≤ c) := by
  have h0 : MS P w0 W H (.slice t x (some lo) (some hi) none) [.slice A m c, .int k (l : Int), .int k' (h : Int)] (.slice (subA A l c sz) (h - l) (c - l)) (l ≤ h ∧ h ≤ c) := inferInstance
  rw [ha.h]
  exact h0
attribute [local irreducible] OJ J HdJ Code.wpIn wpListIn Oper.wpIn bodyPost CallsIn Does
set_option maxRecDepth 4000
set_option maxHeartbeats 64000000 in
theorem dcheck_any (s : Sch) (Al : Option Addr) (cl : Nat) (l : List Smp) (turn : Int) (w : World) (hr : RoA w (blocks []) Al l.length cl 3 (flat smpE l)) (hm : l.length ≤ 1000000) :
    Does Tryz.prog 48 [.agg (schE s).toArray, .slice Al l.length cl, .int .i64 turn] [] w (fun v S' => v = .int .i64 (chk40 s l turn) ∧ S' = []) := by
  refine does_of Tryz.func48 rfl Tryz.ntmps48 rfl ⟨by simp, .nil⟩ (fun n => ?_)
  simp only [slots]
  refine z_tas
  refine lfv rfl rfl rfl (fun w hw => mcheck_any s Al cl l w ⟨hr.h.go hw (Split.nil _)⟩ hm) ?_
  unfold chk40
  generalize chk21 s l = e at *
  refine z_tas
  all_goals exact j_out1 rfl rfl (.nil _) ⟨congrArg (Value.int .i64) (by split <;> (try split) <;> (try split) <;> omega), rfl⟩
set_option maxHeartbeats 64000000 in
theorem rcheck40_any (s : Sch) (Al : Option Addr) (cl : Nat) (l : List Smp) (turn : Int) (w : World) (hr : RoA w (blocks []) Al l.length cl 3 (flat smpE l)) (hm : l.length ≤ 1000000) :
    Does Tryz.prog 16 [.agg (schE s).toArray, .slice Al l.length cl, .int .i64 turn] [] w (fun v S' => v = .int .i64 (chk40 s l turn) ∧ S' = []) := by
  refine does_of Tryz.func16 rfl Tryz.ntmps16 rfl ⟨by simp, .nil⟩ (fun n => ?_)
  simp only [slots]
  refine z_tas
  refine lfv rfl rfl rfl (fun w hw => rcheck21_any s Al cl l w ⟨hr.h.go hw (Split.nil _)⟩ hm) ?_
  unfold chk40
  generalize chk21 s l = e at *
  refine z_tas
  all_goals exact j_out1 rfl rfl (.nil _) ⟨congrArg (Value.int .i64) (by split <;> (try split) <;> (try split) <;> omega), rfl⟩
set_option maxHeartbeats 64000000 in
theorem roff_any (W H : Nat) (A : Option Addr) (c : Nat) (f : List Int) (s : Sch) (x : Smp) (i k : Int) (w : World) (hr : RoA w (blocks []) A f.length c 1 (ints .i16 f)) (hW : 1 ≤ W ∧ W ≤ 256 ∧ 1 ≤ H ∧ H ≤ 256) (hz : f.length = W * H) (hf : In16 f) (hs : SchOk s) (hx : SmpOk x) (hi : -32 ≤ i ∧ i ≤ 32) (hk : -32 ≤ k ∧ k ≤ 32) :
    Does Tryz.prog 52 [.agg #[.int .i64 W, .int .i64 H, .slice A f.length c], .agg (schE s).toArray, .agg (smpE x).toArray, .int .i64 i, .int .i64 k] [] w (fun v S' => v = .int .i64 (offF W H f s x i k) ∧ S' = []) := by
  obtain ⟨⟨a1, a2⟩, ⟨a3, a4⟩, ⟨a5, a6⟩, a7, a8⟩ := hs
  obtain ⟨⟨x1, x2⟩, ⟨x3, x4⟩, x5, x6⟩ := hx
  have h1 := mulB 32 4096 (a := i) (b := s.step) (by omega) (by omega)
  have h2 := mulB 32 4096 (a := k) (b := s.step) (by omega) (by omega)
  have hz1 := heightT_in hf (W := W) (H := H) (s.x + i * s.step + x.dx) (s.y + k * s.step + x.dy)
  refine does_of Tryz.func52 rfl Tryz.ntmps52 rfl ⟨by simp, .nil⟩ (fun n => ?_)
  simp only [slots]
  refine z_tas
  refine lfv rfl rfl rfl (fun w hw => rheight11_any W H A c f (s.x + i * s.step + x.dx) (s.y + k * s.step + x.dy) w ⟨hr.h.go hw (Split.nil _)⟩ hW hz hf) ?_
  unfold offF
  generalize heightT W H f (s.x + i * s.step + x.dx) (s.y + k * s.step + x.dy) = z at *
  generalize codeF W H f (s.x + i * s.step + x.dx) (s.y + k * s.step + x.dy) = e at *
  refine z_tas
  all_goals exact j_out1 rfl rfl (.nil _) ⟨congrArg (Value.int .i64) (by split <;> omega), rfl⟩
set_option maxHeartbeats 64000000 in
theorem dcosts_bad (K : CaT) (s0 : CaV) (s : Sch) (Al : Option Addr) (cl : Nat) (l : List Smp) (n : Int) (w : World) (hown : Own (K.H s0) w) (hr : RoA w (blocks (K.H s0)) Al l.length cl 3 (flat smpE l)) (hm : l.length ≤ 1000000) (hbad : chk21 s l ≠ 0 ∨ 8 < s.far ∨ n < 0 ∨ l.length ≤ n) :
    Does Tryz.prog 46 [.pointer (some ⟨K.g, 0, none⟩), .agg (schE s).toArray, .slice Al l.length cl, .int .i64 n] (K.H s0) w (fun v S' => v = .slice none 0 0 ∧ S' = K.H s0) := by
  refine does_ofM Tryz.func46 rfl Tryz.ntmps46 rfl hown (fun _ => ?_)
  simp only [slots]
  refine z_tas
  refine lfv rfl rfl rfl (fun w hw => mcheck_any s Al cl l w ⟨hr.h.go hw (Split.nil _)⟩ hm) ?_
  generalize chk21 s l = e at *
  refine z_tas
  all_goals first
    | (refine j_outMK (Ds := []) (S' := K.H s0) (by show Sub (K.HC s0 []) _; exact Sub.au) ?_; refine z_rk; exact ⟨rfl, rfl⟩)
    | (exfalso; omega)
set_option maxHeartbeats 128000000 in
theorem dcosts_t (K : CaT) (s0 : CaV) (f : List Int) (s : Sch) (Al : Option Addr) (cl : Nat) (l : List Smp) (n : Nat) (b : Int) (w : World) (hown : Own (K.H s0) w) (hF : CaF K.ys f K.room) (hk0 : CaOk K.ys f K.room s0 b) (hb : b ≤ 700000000000000000) (hr : RoA w (blocks (K.H s0)) Al l.length cl 3 (flat smpE l)) (hc : chk21 s l = 0) (h8 : s.far ≤ 8) (hn : n < l.length) :
    Does Tryz.prog 46 [.pointer (some ⟨K.g, 0, none⟩), .agg (schE s).toArray, .slice Al l.length cl, .int .i64 n] (K.H s0) w
      (fun v S' => ∃ s' A c, CaOk K.ys f K.room s' (b + 1156) ∧ v = .slice A (tab (cstF (wY K.ys) (hY K.ys) f s l n) (sideN s.far * sideN s.far)).length c ∧
        S' = .row (.slice A (tab (cstF (wY K.ys) (hY K.ys) f s l n) (sideN s.far * sideN s.far)).length c) 2 1 (tab (cstF (wY K.ys) (hY K.ys) f s l n) (sideN s.far * sideN s.far)).length (ints .i64 (tab (cstF (wY K.ys) (hY K.ys) f s l n) (sideN s.far * sideN s.far))) :: K.H s') := by
  obtain ⟨⟨⟨a1, a2⟩, ⟨a3, a4⟩, ⟨a5, a6⟩, a7, a8⟩, ⟨l1, l2⟩, hl⟩ := chk21_ok hc
  have hsx := hl n hn
  have hsx' := hsx
  obtain ⟨⟨x1, x2⟩, ⟨x3, x4⟩, x5, x6⟩ := hsx'
  have hss : sideN s.far * sideN s.far ≤ 289 := Nat.mul_le_mul (show sideN s.far ≤ 17 by unfold sideN; omega) (show sideN s.far ≤ 17 by unfold sideN; omega)
  have hlc : l.length ≤ cl := by obtain ⟨A', c', e1, h1, -⟩ := hr.h; injection e1 with e1 e2 e3; omega
  refine does_ofM Tryz.func46 rfl Tryz.ntmps46 rfl hown (fun _ => ?_)
  simp only [slots]
  refine j_nil (e := 2) (size := 1) ?_
  refine z_tas
  rename_i b4 b5 b6 b7
  refine lfv rfl rfl rfl (fun w hw => mcheck_any s Al cl l w ⟨hr.h.go hw (Split.nil _)⟩ (by omega)) ?_
  rw [hc]
  refine z_tas
  rename_i b9
  refine lf rfl rfl rfl (S := []) (fun w hw ho => steps_any s w) ?_
  rintro v S' ⟨gs, rfl, rfl⟩
  refine z_tas
  refine c_steps (s := s) (S := K.HC s0 [.blk b4 36 [.pointer (some ⟨K.g, 0, none⟩)], .blk b5 26 (schE s), .blk b6 27 [.slice Al l.length cl], .blk b7 3 [.int .i64 n], .blk b9 58 [.slice none 0 0], .row (.slice none 0 0) 2 1 0 []])
    (fun i S => ∃ s' A c, CaOk K.ys f K.room s' (b + 4 * (i : Int)) ∧ S = K.HC s' [.blk b4 36 [.pointer (some ⟨K.g, 0, none⟩)], .blk b5 26 (schE s), .blk b6 27 [.slice Al l.length cl], .blk b7 3 [.int .i64 n], .blk b9 58 [.slice A (tab (cstF (wY K.ys) (hY K.ys) f s l n) i).length c], .row (.slice A (tab (cstF (wY K.ys) (hY K.ys) f s l n) i).length c) 2 1 (tab (cstF (wY K.ys) (hY K.ys) f s l n) i).length (ints .i64 (tab (cstF (wY K.ys) (hY K.ys) f s l n) i))])
    (fun _ _ => False) rfl Split.au ⟨a1, a2⟩ ⟨s0, none, 0, by simpa using hk0, rfl⟩ ?_ ?_ ?_
  · rintro lp i S1 hi ⟨s1, A1, c1, hk1, rfl⟩ w1 ho hro
    have hr1 := (⟨hro _ _ _ _ hr.h⟩ : RoA w1 _ Al l.length cl 3 (flat smpE l))
    have hrs := hr1.sub1 hn
    clear hro
    have hp := pS_in a1 hi
    have htl := tab_len (cstF (wY K.ys) (hY K.ys) f s l n) i
    have e : tab (cstF (wY K.ys) (hY K.ys) f s l n) (i + 1) = tab (cstF (wY K.ys) (hY K.ys) f s l n) i ++ [cstF (wY K.ys) (hY K.ys) f s l n i] := rfl
    have ec : cstF (wY K.ys) (hY K.ys) f s l n i = if codeF (wY K.ys) (hY K.ys) f (s.x + (pS s.far i).1 * s.step + (l.getD n default).dx) (s.y + (pS s.far i).2 * s.step + (l.getD n default).dy) = 0 then max (heightT (wY K.ys) (hY K.ys) f (s.x + (pS s.far i).1 * s.step + (l.getD n default).dx) (s.y + (pS s.far i).2 * s.step + (l.getD n default).dy) - (l.getD n default).z) (-(heightT (wY K.ys) (hY K.ys) f (s.x + (pS s.far i).1 * s.step + (l.getD n default).dx) (s.y + (pS s.far i).2 * s.step + (l.getD n default).dy) - (l.getD n default).z)) else -1 := rfl
    generalize hgx : l.getD n default = x at *
    generalize pS s.far i = p at *
    obtain ⟨p1, p2⟩ := p
    dsimp only at hp ec ⊢
    have h1 := mulB 32 4096 (a := p1) (b := s.step) (by omega) (by omega)
    have h2 := mulB 32 4096 (a := p2) (b := s.step) (by omega) (by omega)
    have hz1 := heightT_in hF.good.1 (W := wY K.ys) (H := hY K.ys) (s.x + p1 * s.step + x.dx) (s.y + p2 * s.step + x.dy)
    have hl1 : ∀ j, j < [x].length → SmpOk ([x].getD j default) := fun j hj => by
      have h0 : j = 0 := by simp only [List.length_cons, List.length_nil] at hj; omega
      subst h0
      exact hsx
    show Yields _ _ [.int .i64 i, .agg #[.int .i64 p1, .int .i64 p2]] _ _ _
    refine yields_of (N := 83) ho rfl (by simp) (fun _ => ?_)
    simp only [over]
    refine z_tas
    refine c_beg ?_
    refine z_tas
    rename_i b11
    refine c_dvL [.blk b4 36 [.pointer (some ⟨K.g, 0, none⟩)], .blk b5 26 (schE s), .blk b6 27 [.slice Al l.length cl], .blk b7 3 [.int .i64 n], .blk b11 94 [.int .i64 p1, .int .i64 p2]] (0 :: 1 :: 2 :: 3 :: 4 :: 5 :: 6 :: 7 :: 8 :: 9 :: 10 :: 11 :: 12 :: 13 :: 14 :: 15 :: 16 :: 17 :: 18 :: 19 :: 20 :: 21 :: 22 :: 23 :: 24 :: 25 :: 26 :: 27 :: 28 :: 29 :: 30 :: []) Sub.au ?_
    intro _
    refine z_govG
    all_goals
      rw [show n + 1 - n = [x].length by simp]
      refine lf rfl rfl rfl (S := K.H s1) (fun w hw ho => apart_t K s1 f (s.x + p1 * s.step) (s.y + p2 * s.step) (b + 4 * (i : Int)) (subA Al n cl 3) (cl - n) [x] w ho hF hk1 (by omega) ⟨hrs.h.go hw Split.au⟩ (by simp) (by omega) (by omega) hl1) ?_
      rintro v S' ⟨s2, hk2, hap⟩
      rw [show ([x].length : Int) = 1 from rfl] at hk2
      unfold ApR at hap
      rw [onTo_one, apTo_one] at hap
      generalize heightT (wY K.ys) (hY K.ys) f (s.x + p1 * s.step + x.dx) (s.y + p2 * s.step + x.dy) = zz at *
      generalize codeF (wY K.ys) (hY K.ys) f (s.x + p1 * s.step + x.dx) (s.y + p2 * s.step + x.dy) = ee at *
      generalize hgt : tab (cstF (wY K.ys) (hY K.ys) f s l n) i = gt at *
      rcases hap with ⟨hon, Ad, cd, rfl, rfl⟩ | ⟨hon, rfl, rfl⟩
      · have he0 : ee = 0 := by simpa using hon
        rw [if_pos he0] at ec
        rw [show [zz - x.z].length = 1 from rfl, show ints .i64 [zz - x.z] = [.int .i64 (zz - x.z)] from rfl]
        refine z_govG
        refine j_opn (A := Ad) (m := 1) (cc := cd) (by decide) (fun gd hgd => ?_)
        subst hgd
        refine c_dvL [.row (.slice (some ⟨gd, 0, none⟩) 1 cd) 2 1 1 [.int .i64 (zz - x.z)]] (0 :: 1 :: 2 :: 3 :: 4 :: 5 :: 6 :: 7 :: 8 :: 9 :: 10 :: 11 :: []) Sub.au ?_
        intro _
        refine z_govG
        all_goals
          rename_i A2 c2
          refine c_rnH (S' := _ :: K.HC s2 [.blk b4 36 [.pointer (some ⟨K.g, 0, none⟩)], .blk b5 26 (schE s), .blk b6 27 [.slice Al l.length cl], .blk b7 3 [.int .i64 n], .blk b9 58 [.slice A2 (tab (cstF (wY K.ys) (hY K.ys) f s l n) (i + 1)).length c2], .row (.slice A2 (tab (cstF (wY K.ys) (hY K.ys) f s l n) (i + 1)).length c2) 2 1 (tab (cstF (wY K.ys) (hY K.ys) f s l n) (i + 1)).length (ints .i64 (tab (cstF (wY K.ys) (hY K.ys) f s l n) (i + 1)))]) ?_ (.inl ⟨rfl, _, rfl, s2, A2, c2, hk2.mono (by omega), rfl⟩)
          rw [e, ec]
          exact Sub.au
      · have he0 : ee ≠ 0 := by simpa using hon
        rw [if_neg he0] at ec
        refine z_govG
        rename_i A2 c2
        refine c_rnH (S' := _ :: K.HC s2 [.blk b4 36 [.pointer (some ⟨K.g, 0, none⟩)], .blk b5 26 (schE s), .blk b6 27 [.slice Al l.length cl], .blk b7 3 [.int .i64 n], .blk b9 58 [.slice A2 (tab (cstF (wY K.ys) (hY K.ys) f s l n) (i + 1)).length c2], .row (.slice A2 (tab (cstF (wY K.ys) (hY K.ys) f s l n) (i + 1)).length c2) 2 1 (tab (cstF (wY K.ys) (hY K.ys) f s l n) (i + 1)).length (ints .i64 (tab (cstF (wY K.ys) (hY K.ys) f s l n) (i + 1)))]) ?_ (.inl ⟨rfl, _, rfl, s2, A2, c2, hk2.mono (by omega), rfl⟩)
        rw [e, ec]
        exact Sub.au
  · rintro d S1 ⟨s1, A1, c1, hk1, rfl⟩
    refine z_tas
    refine j_outMK (Ds := [d]) (S' := .row (.slice A1 (tab (cstF (wY K.ys) (hY K.ys) f s l n) (sideN s.far * sideN s.far)).length c1) 2 1 (tab (cstF (wY K.ys) (hY K.ys) f s l n) (sideN s.far * sideN s.far)).length (ints .i64 (tab (cstF (wY K.ys) (hY K.ys) f s l n) (sideN s.far * sideN s.far))) :: K.H s1) ?_ ?_
    · show Sub (_ :: K.HC s1 [.obj d (.deferred (some []))]) _
      exact Sub.au
    · refine z_rk
      exact ⟨s1, A1, c1, hk1.mono (by omega), rfl, rfl⟩
  · rintro d c S1 h
    exact h.elim
end Go.Proofs.YtemmnpgebpffbaaGreat
/- Package drift: what it costs to go from one step to another one; the trellis, in memory. -/
namespace Go.Proofs.YtemmnpgebpffbaaGreat
open Go.RowKit
def absD (a b : Int) : Int := max (a - b) (b - a)
/-- What it costs to go from a step to another one, and whether they are near enough. -/
def trnF (t : Int) (p q : Int × Int) : Int × Bool := ((absD p.1 q.1 + absD p.2 q.2) * t, decide (absD p.1 q.1 ≤ 1 ∧ absD p.2 q.2 ≤ 1))
/-- The best way to a step, by the first so many steps ahead of it: what it costs, and from where it comes. -/
def growTo (t far : Int) (last : Nat → Int) (c : Int) (a : Nat) : Nat → Int × Int
  | 0 => (-1, -1)
  | k + 1 => if (trnF t (pS far k) (pS far a)).2 = false ∨ last k = -1 then growTo t far last c a k else
    if (growTo t far last c a k).1 = -1 ∨ last k + (trnF t (pS far k) (pS far a)).1 + c < (growTo t far last c a k).1 then (last k + (trnF t (pS far k) (pS far a)).1 + c, (k : Int)) else growTo t far last c a k
def cellT (t far : Int) (N : Nat) (last : Option (Nat → Int)) (c : Int) (a : Nat) : Int × Int := if c = -1 then (-1, -1) else
  match last with
  | none => (c, -1)
  | some l => growTo t far l c a N
/-- The trellis: height by height. -/
def tre (t far : Int) (N : Nat) (cst : Nat → Nat → Int) : Nat → Nat → Int × Int
  | 0, a => cellT t far N none (cst 0 a) a
  | n + 1, a => cellT t far N (some fun k => (tre t far N cst n k).1) (cst (n + 1) a) a
abbrev slE (N : Nat) : Nat → List Value := fun b => [.slice (some ⟨b, 0, none⟩) N N]
instance (N : Nat) : RowE (slE N) 1 := ⟨fun _ => rfl, by decide⟩
instance (N : Nat) : OneE (slE N) := ⟨fun a u hu => by simp [slE] at hu; subst hu; rfl⟩
instance (N b : Nat) : UnE (slE N) [.slice (some ⟨b, 0, none⟩) N N] b := ⟨rfl⟩
/-- A row of which the first so many are told. -/
def prt (g : Nat → Int) (N i : Nat) : List Int := tab g i ++ List.replicate (N - i) 0
theorem prt_len (g : Nat → Int) {N i : Nat} (h : i ≤ N) : (prt g N i).length = N := by
  unfold prt
  rw [List.length_append, tab_len, List.length_replicate]
  omega
theorem prt_zero (g : Nat → Int) (N : Nat) : prt g N 0 = List.replicate N 0 := rfl
theorem prt_all (g : Nat → Int) (N : Nat) : prt g N N = tab g N := by unfold prt; rw [Nat.sub_self]; simp
theorem prt_set (g : Nat → Int) {N i : Nat} (h : i < N) : (prt g N i).set i (g i) = prt g N (i + 1) := by
  unfold prt
  rw [List.set_append_right _ _ (by rw [tab_len]; exact Nat.le_refl _), tab_len, Nat.sub_self, tab, List.append_assoc]
  congr 1
  rw [show N - i = (N - (i + 1)) + 1 by omega, List.replicate_succ]
  rfl
/-- The rows of a trellis, the last ones first. -/
def rowsT (g : Nat → Nat → Int × Int) (N : Nat) : List (Nat × Nat) → List HE
  | [] => []
  | p :: r => .row (.slice (some ⟨p.1, 0, none⟩) N N) 2 1 N (ints .i64 (tab (fun a => (g r.length a).1) N)) :: .row (.slice (some ⟨p.2, 0, none⟩) N N) 3 1 N (ints .i64 (tab (fun a => (g r.length a).2) N)) :: rowsT g N r
instance (g : Nat → Nat → Int × Int) (N : Nat) (rs : List (Nat × Nat)) : SubC (rowsT g N rs) (rowsT g N rs) := ⟨Sub.refl _⟩
instance (priority := 50) (g : Nat → Nat → Int × Int) (N : Nat) (rs : List (Nat × Nat)) (y : HE) (R : List HE) [h : SubC (rowsT g N rs) R] : SubC (rowsT g N rs) (y :: R) := ⟨h.h.skip y⟩
theorem split_self : ∀ T : List HE, Split T T []
  | [] => .nil _
  | x :: T => .cons (.here _ _) (split_self T)
instance (g : Nat → Nat → Int × Int) (N : Nat) (rs : List (Nat × Nat)) : SplitC (rowsT g N rs) (rowsT g N rs) [] := ⟨split_self _⟩
instance (priority := 50) (g : Nat → Nat → Int × Int) (N : Nat) (rs : List (Nat × Nat)) (y : HE) (R R' : List HE) [h : SplitC R (rowsT g N rs) R'] : SplitC (y :: R) (rowsT g N rs) (y :: R') := ⟨split_push y h.h⟩
instance lit_pred (n : Nat) : LitI (((n + 1 : Nat) : Int) - 1) n := ⟨by omega⟩
instance (priority := 60) {P : Program} {w0 : World} {W : Nat → Prop} {H : List HE} (x y : Operand) (t e b q m c sz bs j r r' : Nat) (a : Int) (z : Value) (k : IntKind) [hu : Und P t (.slice e)] [hI : Inf P e sz bs z] [ha : LitI a j] [hm : NMul j sz r] [hr : NAdd q r r'] : MS P w0 W H (.indexAddr t x y) [.slice (some ⟨b, q, none⟩) m c, .int k a] (.pointer (some ⟨b, r', none⟩)) (j < m) := by
  have h0 : MS P w0 W H (.indexAddr t x y) [.slice (some ⟨b, q, none⟩) m c, .int k (j : Int)] (.pointer (some ⟨b, r', none⟩)) (j < m) := inferInstance
  rw [ha.h]
  exact h0
instance (priority := 60) {P : Program} {w0 : World} {W : Nat → Prop} {H : List HE} (x y : Operand) (t e b q m c sz bs j r r' : Nat) (a : Int) (z : Value) (k : IntKind) [hu : Und P t (.slice e)] [hI : Inf P e sz bs z] [ha : LitI a j] [hm : NMul j sz r] [hr : NAdd q r r'] : LV P w0 W H (.indexAddr t x y) [.slice (some ⟨b, q, none⟩) m c, .int k a] (.pointer (some ⟨b, r', none⟩)) (j < m) := by
  have h0 : LV P w0 W H (.indexAddr t x y) [.slice (some ⟨b, q, none⟩) m c, .int k (j : Int)] (.pointer (some ⟨b, r', none⟩)) (j < m) := inferInstance
  rw [ha.h]
  exact h0
theorem slE_last (N : Nat) (f : Nat × Nat → Nat) (p : Nat × Nat) (r : List (Nat × Nat)) : Elem (flat (slE N) ((p :: r).reverse.map f)) r.length (.slice (some ⟨f p, 0, none⟩) N N) True := ⟨fun _ => by
  rw [List.reverse_cons, List.map_append, flat_app, List.getElem?_append_right (by rw [flat_len, List.length_map, List.length_reverse, Nat.mul_one]; exact Nat.le_refl _), flat_len, List.length_map, List.length_reverse, Nat.mul_one, Nat.sub_self]
  rfl⟩
@[reducible] def trlE (s : Sch) (t : Int) (Ac : Option Addr) (cc : Nat) (Ab : Option Addr) (cb : Nat) (n : Nat) : List Value := [.int .i64 s.x, .int .i64 s.y, .int .i64 s.far, .int .i64 s.step, .int .i64 t, .slice Ac n cc, .slice Ab n cb]
/-- The memory of a trellis. -/
@[reducible] def TrH (tb : Nat) (s : Sch) (t : Int) (Ac : Option Addr) (cc : Nat) (Ab : Option Addr) (cb : Nat) (g : Nat → Nat → Int × Int) (N : Nat) (rs : List (Nat × Nat)) : List HE :=
  .blk tb 100 (trlE s t Ac cc Ab cb rs.length) :: .row (.slice Ac rs.length cc) 58 1 rs.length (flat (slE N) (rs.reverse.map (·.1))) :: .row (.slice Ab rs.length cb) 106 1 rs.length (flat (slE N) (rs.reverse.map (·.2))) :: rowsT g N rs
theorem pv_eqD (neg : Bool) (t u : TypeId) (x y : Operand) (a b c d : Int) (ht : t = 94) : PV Tryz.prog (.binOp (if neg then .neq else .eql) t x y u) [.agg #[.int .i64 a, .int .i64 b], .agg #[.int .i64 c, .int .i64 d]] (.bool (neg != (a == c && b == d))) True := ⟨by
  subst ht
  rintro _ ρ ⟨dst, op', ty, pos, aft, gd⟩ rfl h w
  obtain ⟨h1, h2⟩ := map2 h
  have hS : Tryz.prog.underlying 94 = some (.array 2 3) := by kernel_rfl
  have hE : Tryz.prog.underlying 3 = some (.int .i64) := by kernel_rfl
  obtain ⟨i, hi⟩ := info_of_underlying hE
  have hc : Tryz.prog.cellsOf 3 = 1 := by kernel_rfl
  have hm2 : Tryz.prog.eqGuardType Tryz.prog.depth 94 = false := by kernel_rfl
  have key : (Op.equalIn 10000 94 (.agg #[.int .i64 a, .int .i64 b]) (.agg #[.int .i64 c, .int .i64 d])).run Tryz.prog w = .ok (a == c && b == d) w := by
    rw [show (10000 : Nat) = 9999 + 1 from rfl, run_equalIn_array w 9999 _ _ hS hi, hc, show (9999 : Nat) = 9998 + 1 from rfl]
    have := eqItems_ints w 9998 (k := .i64) hE [a, b] [c, d] (List.range 2) (fun i hi => by have := List.mem_range.1 hi; simp; omega)
    rw [show (#[.int .i64 a, .int .i64 b] : Array Value) = (ints .i64 [a, b]).toArray from rfl, show (#[.int .i64 c, .int .i64 d] : Array Value) = (ints .i64 [c, d]).toArray from rfl, this]
    simp [List.range, List.range.loop]
  cases neg
  · simp only [Bool.false_eq_true, if_false, execOp, h1, h2, Sem.run_bind, run_eqGuard_agg w _ _ _ _ _ _ hm2, Result.andThen_ok]
    rw [run_eql_struct, key]
    simp
  · simp only [if_true, execOp, h1, h2, Sem.run_bind, run_eqGuard_agg w _ _ _ _ _ _ hm2, Result.andThen_ok]
    rw [run_neq_struct, key]
    simp⟩
instance eqD_pv (u : TypeId) (x y : Operand) (a b c d : Int) : PV Tryz.prog (.binOp .eql 94 x y u) [.agg #[.int .i64 a, .int .i64 b], .agg #[.int .i64 c, .int .i64 d]] (.bool (a == c && b == d)) True := by
  have hp := pv_eqD false 94 u x y a b c d rfl
  simp only [Bool.false_bne, Bool.false_eq_true, if_false] at hp
  exact hp
instance {w0 : World} {W : Nat → Prop} {H : List HE} (u : TypeId) (x y : Operand) (a b c d : Int) : MS Tryz.prog w0 W H (.binOp .eql 94 x y u) [.agg #[.int .i64 a, .int .i64 b], .agg #[.int .i64 c, .int .i64 d]] (.bool (a == c && b == d)) True := ⟨by
  intro _ F n N ds σ dd ty pos aft gd K Q _ hv hdN h
  exact o_val (by simp) rfl hdN (fun a w ha _ => pq_of (o := ⟨some dd, _, ty, pos, aft, gd⟩) hv trivial a.eval (fun x _ u hu => ha.eval hu) w) h⟩
attribute [local irreducible] OJ J HdJ Code.wpIn wpListIn Oper.wpIn bodyPost CallsIn Does
set_option maxRecDepth 4000
set_option maxHeartbeats 64000000 in
instance turned_cv (p1 p2 q1 q2 t : Int) : CV Tryz.prog 88 [.agg #[.int .i64 p1, .int .i64 p2], .agg #[.int .i64 q1, .int .i64 q2], .int .i64 t] (.tuple #[.int .i64 (trnF t (p1, p2) (q1, q2)).1, .bool (trnF t (p1, p2) (q1, q2)).2]) (((-32 ≤ p1 ∧ p1 ≤ 32) ∧ (-32 ≤ p2 ∧ p2 ≤ 32)) ∧ ((-32 ≤ q1 ∧ q1 ≤ 32) ∧ (-32 ≤ q2 ∧ q2 ≤ 32)) ∧ (0 ≤ t ∧ t ≤ 1048576)) := ⟨fun hc w => by
  have hx : 0 ≤ max (p1 - q1) (q1 - p1) ∧ max (p1 - q1) (q1 - p1) ≤ 64 := by omega
  have hy : 0 ≤ max (p2 - q2) (q2 - p2) ∧ max (p2 - q2) (q2 - p2) ≤ 64 := by omega
  have hm := mulB 128 1048576 (a := max (p1 - q1) (q1 - p1) + max (p2 - q2) (q2 - p2)) (b := t) (by omega) (by omega)
  have e0 : p1 = q1 ∧ p2 = q2 → (max (p1 - q1) (q1 - p1) + max (p2 - q2) (q2 - p2)) * t = 0 := fun ⟨h1, h2⟩ => by
    rw [show max (p1 - q1) (q1 - p1) + max (p2 - q2) (q2 - p2) = 0 by omega, Int.zero_mul]
  refine does_of Tryz.func88 rfl Tryz.ntmps88 rfl ⟨by simp, .nil⟩ (fun n => ?_)
  simp only [slots]
  unfold trnF absD
  dsimp only
  refine z_tas
  all_goals try (refine c_dv (0 :: 1 :: 2 :: 3 :: 4 :: 5 :: 6 :: 7 :: 8 :: 9 :: 10 :: 11 :: 12 :: 13 :: 14 :: 15 :: 16 :: 17 :: 18 :: 19 :: 20 :: 21 :: []) ?_; intro _)
  all_goals try (refine z_govG)
  · refine j_out2 rfl rfl rfl (.nil _) ⟨?_, rfl⟩
    rename_i h
    rw [e0 h, decide_eq_true (by omega)]
  all_goals exact j_out2 rfl rfl rfl (.nil _) ⟨congrArg (fun q => Value.tuple #[.int .i64 ((max (p1 - q1) (q1 - p1) + max (p2 - q2) (q2 - p2)) * t), .bool q]) (by rw [Bool.eq_iff_iff]; simp only [decide_eq_true_eq, Bool.false_eq_true, false_iff, true_iff]; omega), rfl⟩⟩
end Go.Proofs.YtemmnpgebpffbaaGreat
