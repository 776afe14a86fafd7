
import Derived.Test.YtemmnpgebpffbaaGreatMG19
set_option linter.unusedVariables false
set_option linter.unusedSimpArgs false
/- Packages seed and theodoliteref22: even seeds; the reference's grid of a search. -/
namespace Go.Proofs.YtemmnpgebpffbaaGreat
open Go.RowKit
/-- Where a search's grid begins. -/
def X0 (x far step : Int) : Int := IntKind.i64.wrap (x - IntKind.i64.wrap (far * step))
theorem X0_in (x far step : Int) : InR .i64 (X0 x far step) := by
  unfold X0
  rw [IntKind.wrap_i64]
  show (-9223372036854775808 : Int) ≤ _ ∧ _ ≤ (9223372036854775807 : Int)
  omega
def evS (s : Sch) : Grd := evenG (2 * s.far + 1) (2 * s.far + 1) (X0 s.x s.far s.step) (X0 s.y s.far s.step) s.step
/-- How much each step of a search is believed. -/
def wtS (W H : Nat) (f : List Int) (s : Sch) (l : List Smp) (m times : Int) : List Int := wtTo (sideN s.far * sideN s.far) s.far (cbTo (allL W H f s l m) (allL W H f s l m).length).cost times (allL W H f s l m) (allL W H f s l m).length
/-- What is wrong with a seed. -/
def mkC (W H : Nat) (f : List Int) (s : Sch) (l : List Smp) (m times : Int) : Int := if chk21 s l ≠ 0 then chk21 s l else if ¬ sidesOk (2 * s.far + 1) (2 * s.far + 1) s.step then 2 else if (allL W H f s l m).length = 0 then 7 else if wsTo (evS s).p (wtS W H f s l m times) (evS s).p.length = 0 then 7 else 0
def mkG (W H : Nat) (f : List Int) (s : Sch) (l : List Smp) (m times : Int) : Grd := { evS s with p := wghL (evS s).p (wtS W H f s l m times) }
theorem evS_p {s : Sch} (hf : 0 ≤ s.far) : (evS s).p = tab (fun _ => 1073741824 / ((sideN s.far * sideN s.far : Nat) : Int)) (sideN s.far * sideN s.far) := by
  have hs : (2 * s.far + 1) * (2 * s.far + 1) = ((sideN s.far * sideN s.far : Nat) : Int) := by
    have : ((sideN s.far : Nat) : Int) = 2 * s.far + 1 := by unfold sideN; omega
    rw [← this]
    push_cast
    rfl
  show evenL ((2 * s.far + 1) * (2 * s.far + 1)).toNat = _
  rw [hs, Int.toNat_natCast]
  rfl
theorem evS_len {s : Sch} (hf : 0 ≤ s.far) : (evS s).p.length = sideN s.far * sideN s.far := by rw [evS_p hf, tab_len]
theorem evS_pos {s : Sch} (hf : 0 ≤ s.far) (hN : sideN s.far * sideN s.far ≤ 4096) : Pos30 (evS s).p ∧ ∀ i, i < (evS s).p.length → (evS s).p.getD i 0 = 1073741824 / ((sideN s.far * sideN s.far : Nat) : Int) := by
  have hp : 0 < sideN s.far * sideN s.far := Nat.mul_pos (by unfold sideN; omega) (by unfold sideN; omega)
  have h1 := even_pos ⟨hp, hN⟩
  have key : ∀ i, i < (evS s).p.length → (evS s).p.getD i 0 = 1073741824 / ((sideN s.far * sideN s.far : Nat) : Int) := fun i hi => by
    rw [evS_len hf] at hi
    rw [evS_p hf]
    exact even_get hi
  exact ⟨fun i hi => by rw [key i hi]; omega, key⟩
theorem side_le {s : Sch} (h : sidesOk (2 * s.far + 1) (2 * s.far + 1) s.step) : 0 ≤ s.far ∧ s.far ≤ 31 ∧ sideN s.far * sideN s.far ≤ 4096 ∧ 0 < sideN s.far * sideN s.far := by
  obtain ⟨⟨h1, h2⟩, -⟩ := h
  have h3 : sideN s.far ≤ 63 := by unfold sideN; omega
  have := Nat.mul_le_mul h3 h3
  exact ⟨by omega, by omega, by omega, Nat.mul_pos (by unfold sideN; omega) (by unfold sideN; omega)⟩
theorem evenS_any (s : Sch) (w : World) (hok : sidesOk (2 * s.far + 1) (2 * s.far + 1) s.step) : Does Tryz.prog 63 [.int .i64 (2 * s.far + 1), .int .i64 (2 * s.far + 1), .int .i64 (X0 s.x s.far s.step), .int .i64 (X0 s.y s.far s.step), .int .i64 s.step] [] w (fun v S' => ∃ u, v = .tuple #[u, .int .i64 0] ∧ GrR (evS s) u S') := even_any _ _ _ _ _ w hok
theorem revenS_any (s : Sch) (w : World) (hok : sidesOk (2 * s.far + 1) (2 * s.far + 1) s.step) : Does Tryz.prog 30 [.int .i64 (2 * s.far + 1), .int .i64 (2 * s.far + 1), .int .i64 (X0 s.x s.far s.step), .int .i64 (X0 s.y s.far s.step), .int .i64 s.step] [] w (fun v S' => ∃ u, v = .tuple #[u, .int .i64 0] ∧ GrR (evS s) u S') := reven_any _ _ _ _ _ w hok
attribute [local irreducible] OJ J HdJ Code.wpIn wpListIn Oper.wpIn bodyPost CallsIn Does
set_option maxRecDepth 4000
set_option maxHeartbeats 64000000 in
theorem flat_bad (s : Sch) (w : World) (h : s.far < 0 ∨ 32 < s.far) : Does Tryz.prog 29 [.agg (schE s).toArray] [] w (fun v S' => v = .tuple #[.agg (grN).toArray, .int .i64 2] ∧ S' = []) := by
  refine does_of Tryz.func29 rfl Tryz.ntmps29 rfl ⟨by simp, .nil⟩ (fun n => ?_)
  simp only [slots]
  refine z_tas
  all_goals first
    | (refine z_ro; exact ⟨rfl, rfl⟩)
    | (exfalso; omega)
set_option maxHeartbeats 64000000 in
theorem flat_any (s : Sch) (w : World) (h : 0 ≤ s.far ∧ s.far ≤ 32) : Does Tryz.prog 29 [.agg (schE s).toArray] [] w
    (fun v S' => (sidesOk (2 * s.far + 1) (2 * s.far + 1) s.step ∧ ∃ u, v = .tuple #[u, .int .i64 0] ∧ GrR (evS s) u S') ∨ (¬ sidesOk (2 * s.far + 1) (2 * s.far + 1) s.step ∧ v = .tuple #[.agg (grN).toArray, .int .i64 2] ∧ S' = [])) := by
  have iM : ∀ w0 W H t u a b, MS Tryz.prog w0 W H (.binOp .mul t a b u) [.int .i64 s.far, .int .i64 s.step] (.int .i64 (IntKind.i64.wrap (s.far * s.step))) True := fun _ _ _ _ _ _ _ => msW inferInstance trivial rfl
  have iX : ∀ w0 W H t u a b, MS Tryz.prog w0 W H (.binOp .sub t a b u) [.int .i64 s.x, .int .i64 (IntKind.i64.wrap (s.far * s.step))] (.int .i64 (X0 s.x s.far s.step)) True := fun _ _ _ _ _ _ _ => msW inferInstance trivial rfl
  have iY : ∀ w0 W H t u a b, MS Tryz.prog w0 W H (.binOp .sub t a b u) [.int .i64 s.y, .int .i64 (IntKind.i64.wrap (s.far * s.step))] (.int .i64 (X0 s.y s.far s.step)) True := fun _ _ _ _ _ _ _ => msW inferInstance trivial rfl
  refine does_of Tryz.func29 rfl Tryz.ntmps29 rfl ⟨by simp, .nil⟩ (fun n => ?_)
  simp only [slots]
  refine z_tas
  by_cases hok : sidesOk (2 * s.far + 1) (2 * s.far + 1) s.step
  · refine lf rfl rfl rfl (S := []) (fun w hw ho => evenS_any s w hok) ?_
    rintro v S' ⟨u, rfl, A, c, rfl, rfl⟩
    refine z_tas
    refine j_outK (S' := [.row (.slice A (evS s).p.length c) 2 1 (evS s).p.length (ints .i64 (evS s).p)]) Sub.au ?_
    refine z_rk
    exact .inl ⟨hok, _, rfl, A, c, rfl, rfl⟩
  · refine lf rfl rfl rfl (S := []) (fun w hw ho => even_bad (2 * s.far + 1) (2 * s.far + 1) (X0 s.x s.far s.step) (X0 s.y s.far s.step) s.step w hok) ?_
    rintro v S' ⟨rfl, rfl⟩
    refine z_tas
    refine z_ro
    exact .inr ⟨hok, rfl, rfl⟩
set_option maxHeartbeats 64000000 in
theorem sat_any (b6 b15 : Nat) (s : Sch) (x : Stp) (hx : (-s.far ≤ x.i ∧ x.i ≤ s.far) ∧ (-s.far ≤ x.k ∧ x.k ≤ s.far)) (hs : 0 ≤ s.far ∧ s.far ≤ 32) (w : World) (ho : Own [.blk b6 26 (schE s), .blk b15 3 [.int .i64 (2 * s.far + 1)]] w) : Does Tryz.prog 64 [.agg (stpE x).toArray, .pointer (some ⟨b6, 0, none⟩), .pointer (some ⟨b15, 0, none⟩)] [.blk b6 26 (schE s), .blk b15 3 [.int .i64 (2 * s.far + 1)]] w
    (fun v S' => v = .int .i64 (ixS s.far x.i x.k : Nat) ∧ S' = [.blk b6 26 (schE s), .blk b15 3 [.int .i64 (2 * s.far + 1)]]) := by
  obtain ⟨-, -, e⟩ := ixS_ok hx
  have hm := mulB 64 65 (a := x.k + s.far) (b := 2 * s.far + 1) (by omega) (by omega)
  refine does_of Tryz.func64 rfl Tryz.ntmps64 rfl ho (fun n => ?_)
  simp only [slots]
  refine z_tas
  refine j_out1 rfl rfl Sub.au ⟨?_, rfl⟩
  rw [e]
set_option maxHeartbeats 128000000 in
theorem rmake_any (W H : Nat) (A : Option Addr) (c : Nat) (f : List Int) (s : Sch) (Al : Option Addr) (cl : Nat) (l : List Smp) (m times : Int) (w : World) (hr : RoA w (blocks []) A f.length c 1 (ints .i16 f)) (hW : 1 ≤ W ∧ W ≤ 256 ∧ 1 ≤ H ∧ H ≤ 256) (hz : f.length = W * H) (hf : In16 f)
    (hrl : RoA w (blocks []) Al l.length cl 3 (flat smpE l)) (hm : l.length ≤ 1000000) (ht : InR .i64 times) :
    Does Tryz.prog 26 [.agg #[.int .i64 W, .int .i64 H, .slice A f.length c], .agg (schE s).toArray, .slice Al l.length cl, .int .i64 m, .int .i64 times] [] w
      (fun v S' => (mkC W H f s l m times ≠ 0 ∧ v = .tuple #[.agg (grN).toArray, .int .i64 (mkC W H f s l m times)] ∧ S' = []) ∨ (mkC W H f s l m times = 0 ∧ ∃ u, v = .tuple #[u, .int .i64 0] ∧ GrR (mkG W H f s l m times) u S')) := by
  have iM : ∀ w0 W H t u a b, MS Tryz.prog w0 W H (.binOp .mul t a b u) [.int .i64 s.far, .int .i64 s.step] (.int .i64 (IntKind.i64.wrap (s.far * s.step))) True := fun _ _ _ _ _ _ _ => msW inferInstance trivial rfl
  have iX : ∀ w0 W H t u a b, MS Tryz.prog w0 W H (.binOp .sub t a b u) [.int .i64 s.x, .int .i64 (IntKind.i64.wrap (s.far * s.step))] (.int .i64 (X0 s.x s.far s.step)) True := fun _ _ _ _ _ _ _ => msW inferInstance trivial rfl
  have iY : ∀ w0 W H t u a b, MS Tryz.prog w0 W H (.binOp .sub t a b u) [.int .i64 s.y, .int .i64 (IntKind.i64.wrap (s.far * s.step))] (.int .i64 (X0 s.y s.far s.step)) True := fun _ _ _ _ _ _ _ => msW inferInstance trivial rfl
  have hC : mkC W H f s l m times = if chk21 s l ≠ 0 then chk21 s l else if ¬ sidesOk (2 * s.far + 1) (2 * s.far + 1) s.step then 2 else if (allL W H f s l m).length = 0 then 7 else if wsTo (evS s).p (wtS W H f s l m times) (evS s).p.length = 0 then 7 else 0 := rfl
  have hG : mkG W H f s l m times = { evS s with p := wghL (evS s).p (wtS W H f s l m times) } := rfl
  have hr0 := hr
  have hrl0 := hrl
  refine does_of Tryz.func26 rfl Tryz.ntmps26 rfl ⟨by simp, .nil⟩ (fun n => ?_)
  simp only [slots]
  refine z_tas
  refine lfv rfl rfl rfl (fun w hw => rcheck21_any s Al cl l w ⟨hrl.h.go hw (Split.nil _)⟩ hm) ?_
  by_cases hc : chk21 s l = 0
  rotate_left
  · rw [if_pos hc] at hC
    generalize chk21 s l = e at *
    refine z_tas
    refine z_ro
    exact .inl ⟨by rw [hC]; exact hc, by rw [hC]; rfl, rfl⟩
  obtain ⟨⟨⟨a1, a2⟩, ⟨a3, a4⟩, ⟨a5, a6⟩, a7, a8⟩, ⟨l1, l2⟩, hl⟩ := chk21_ok hc
  rw [if_neg (by rw [hc]; simp)] at hC
  rw [hc]
  refine z_tas
  by_cases hok : sidesOk (2 * s.far + 1) (2 * s.far + 1) s.step
  rotate_left
  · rw [if_pos hok] at hC
    refine lf rfl rfl rfl (S := []) (fun w hw ho => reven_bad (2 * s.far + 1) (2 * s.far + 1) (X0 s.x s.far s.step) (X0 s.y s.far s.step) s.step w hok) ?_
    rintro v S' ⟨rfl, rfl⟩
    refine z_tas
    refine z_ro
    exact .inl ⟨by rw [hC]; decide, by rw [hC]; rfl, rfl⟩
  obtain ⟨-, q1, q2, q3⟩ := side_le hok
  rw [if_neg (by simpa using hok)] at hC
  obtain ⟨hp, hpc⟩ := evS_pos a1 q2
  have hpl := evS_len a1
  have hside : ((sideN s.far : Nat) : Int) = 2 * s.far + 1 := by unfold sideN; omega
  refine lf rfl rfl rfl (S := []) (fun w hw ho => revenS_any s w hok) ?_
  rintro v S' ⟨u, rfl, Ae, ce, rfl, rfl⟩
  refine z_tas
  refine lf rfl rfl rfl (S := []) (fun w hw ho => rall_any W H A c f s Al cl l m w ⟨hr.h.go hw (Split.nil _)⟩ hW hz hf ⟨hrl.h.go hw (Split.nil _)⟩ hm) ?_
  rintro v S' ⟨Aa, ca, rfl, rfl⟩
  have hall := fun i hi => allL_in (W := W) (H := H) (f := f) (s := s) (l := l) (m := m) (i := i) hi
  have hln := allL_len W H f s l m
  have hwd : wtS W H f s l m times = wtTo (sideN s.far * sideN s.far) s.far (cbTo (allL W H f s l m) (allL W H f s l m).length).cost times (allL W H f s l m) (allL W H f s l m).length := rfl
  obtain ⟨cb1, cb2⟩ := cb_bst (l := allL W H f s l m) (fun i hi => (hall i hi).2.2.1.1) (Nat.le_refl _)
  generalize allL W H f s l m = L at *
  refine z_tas
  refine lfv rfl rfl rfl (fun w hw => rbest_any Aa ca L 0 w ⟨Ro.row hw (Split.nil _) (by refine z_hs)⟩ hln (fun i hi => ⟨(hall i hi).1, (hall i hi).2.1⟩)) ?_
  cases hb : bstTo L L.length with
  | none =>
    have hl0 : L.length = 0 := bstTo_none.1 hb
    rw [if_pos hl0] at hC
    rw [bstV_none hb]
    refine z_tas
    refine z_ro
    exact .inl ⟨by rw [hC]; decide, by rw [hC]; rfl, rfl⟩
  | some k =>
    have hkl := bstTo_lt hb
    rw [if_neg (by omega)] at hC
    rw [bstV_some hb]
    rw [cb2 k hb] at hwd
    have hbk := hall k hkl
    have iSS : ∀ w0 W H t u a b, MS Tryz.prog w0 W H (.binOp .mul t a b u) [.int .i64 (2 * s.far + 1), .int .i64 (2 * s.far + 1)] (.int .i64 ((sideN s.far * sideN s.far : Nat) : Int)) True := fun _ _ _ _ _ _ _ => msM inferInstance (by rw [← hside, ← Int.natCast_mul]; show (-9223372036854775808 : Int) ≤ _ ∧ _ ≤ (9223372036854775807 : Int); omega) (by rw [← hside, ← Int.natCast_mul])
    refine j_opn (A := Aa) (m := L.length) (cc := ca) (by omega) (fun gL hgL => ?_)
    subst hgL
    refine z_tas
    rename_i b5 b6 b10 b15 bw
    generalize hN : sideN s.far * sideN s.far = N at *
    refine c_loop (X := Nat) (fun i => i ≤ L.length) (fun i => [(4, .int .i64 times), (6, .pointer (some ⟨b6, 0, none⟩)), (10, .pointer (some ⟨b10, 0, none⟩)), (13, .int .i64 (2 * s.far + 1)), (15, .pointer (some ⟨b15, 0, none⟩)), (17, .slice (some ⟨gL, 0, none⟩) L.length ca), (18, .int .i64 k), (20, .slice (some ⟨bw, 0, none⟩) N N), (21, .int .i64 i)])
      (fun i => [.row (.slice (some ⟨bw, 0, none⟩) N N) 2 1 N (ints .i64 (wtTo N s.far (L.getD k default).cost times L i)), .row (.slice (some ⟨gL, 0, none⟩) L.length ca) 46 3 L.length (flat stpE L), .blk b15 60 (grE (evS s) Ae ce), .row (.slice Ae (evS s).p.length ce) 2 1 (evS s).p.length (ints .i64 (evS s).p), .blk b10 60 grN, .blk b6 26 (schE s)]) (fun i => L.length - i) 0 (Nat.zero_le _) ⟨rfl, rfl, rfl, rfl, rfl, rfl, rfl, rfl, rfl, trivial⟩ (by show Sub [.row (.slice (some ⟨bw, 0, none⟩) N N) 2 1 N (ints .i64 (List.replicate N 0)), _, _, _, _, _] _; exact Sub.au) ?_
    intro i hi
    rcases Nat.lt_or_ge i L.length with h | h
    · have hx := hall i h
      have e : wtTo N s.far (L.getD k default).cost times L (i + 1) = (wtTo N s.far (L.getD k default).cost times L i).set (ixS s.far (L.getD i default).i (L.getD i default).k) (wgtF (L.getD k default).cost (L.getD i default).cost times) := rfl
      have hwl := wtTo_len (N := N) (far := s.far) (best := (L.getD k default).cost) (times := times) (L := L) i
      obtain ⟨-, hix, hie⟩ := ixS_ok (far := s.far) (i := (L.getD i default).i) (k := (L.getD i default).k) ⟨hx.2.2.2.1, hx.2.2.2.2⟩
      rw [hN] at hix
      have iL : LitI (((L.getD i default).k + s.far) * (2 * s.far + 1) + (L.getD i default).i + s.far) (ixS s.far (L.getD i default).i (L.getD i default).k) := ⟨hie.symm⟩
      have hmb := mulB 64 65 (a := (L.getD i default).k + s.far) (b := 2 * s.far + 1) (by omega) (by omega)
      generalize ixS s.far (L.getD i default).i (L.getD i default).k = ix at *
      generalize wtTo N s.far (L.getD k default).cost times L i = wr at *
      clear hwd hC hG hpc hp
      refine z_tas
      refine c_dvL _ (0 :: 1 :: 2 :: 3 :: 4 :: 5 :: 6 :: 7 :: 8 :: 9 :: 10 :: 11 :: 12 :: 13 :: 14 :: 15 :: 16 :: 17 :: 18 :: 19 :: 20 :: 21 :: 22 :: 23 :: 24 :: 25 :: 26 :: 27 :: 28 :: 29 :: 30 :: 31 :: 32 :: 33 :: []) (Sub.cons (Has.there _ (Has.here _ _)) (Sub.cons (Has.there _ (Has.there _ (Has.there _ (Has.there _ (Has.here _ _))))) (Sub.nil _))) ?_
      intro _
      refine z_gvs
      all_goals
        refine c_round (i + 1) h (by show L.length - (i + 1) < L.length - i; omega) ⟨rfl, rfl, rfl, rfl, rfl, rfl, rfl, rfl, by simp [look], trivial⟩ ?_
        simp only [e]
        exact Sub.au
    · obtain rfl : i = L.length := by omega
      rw [← hwd]
      have hwl : (wtS W H f s l m times).length = N := by rw [hwd]; exact wtTo_len _
      have hww : Wt (wtS W H f s l m times) := by rw [hwd]; exact wtTo_in _
      clear hwd
      generalize wtS W H f s l m times = wt at *
      obtain rfl : N = wt.length := hwl.symm
      refine z_tas
      by_cases hz0 : wsTo (evS s).p wt (evS s).p.length = 0
      · rw [if_pos hz0] at hC
        refine lf rfl rfl rfl (S := []) (fun w hw ho => rweigh_zero (evS s) Ae ce (some ⟨bw, 0, none⟩) wt.length wt w ⟨Ro.row hw (Split.nil _) (by refine z_hs)⟩ ⟨Ro.row hw (Split.nil _) (by refine z_hs)⟩ hp hww hpl.symm (by omega) hz0) ?_
        rintro v S' ⟨rfl, rfl⟩
        refine z_tas
        refine z_ro
        exact .inl ⟨by rw [hC]; decide, by rw [hC]; rfl, rfl⟩
      · rw [if_neg hz0] at hC
        have hz1 := (ws_in hp hww hpl.symm (evS s).p.length (Nat.le_refl _)).1
        refine lf rfl rfl rfl (S := []) (fun w hw ho => rweigh_any (evS s) Ae ce (some ⟨bw, 0, none⟩) wt.length wt w ⟨Ro.row hw (Split.nil _) (by refine z_hs)⟩ ⟨Ro.row hw (Split.nil _) (by refine z_hs)⟩ hp hww hpl.symm (by omega) (by omega)) ?_
        rw [← hG]
        rintro v S' ⟨u, rfl, Ag, cg, rfl, rfl⟩
        generalize mkG W H f s l m times = G at *
        refine z_tas
        refine j_outK (S' := [.row (.slice Ag G.p.length cg) 2 1 G.p.length (ints .i64 G.p)]) Sub.au ?_
        refine z_rk
        exact .inr ⟨hC, _, rfl, Ag, cg, rfl, rfl⟩
end Go.Proofs.YtemmnpgebpffbaaGreat
