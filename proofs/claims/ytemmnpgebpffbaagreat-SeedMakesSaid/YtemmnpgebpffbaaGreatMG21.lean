
import Derived.Test.YtemmnpgebpffbaaGreatMG20
set_option linter.unusedVariables false
set_option linter.unusedSimpArgs false
/- Package seed: the grid of a search. -/
namespace Go.Proofs.YtemmnpgebpffbaaGreat
open Go.RowKit
instance : ZC .nilFunc [.nilFunc] := ⟨rfl⟩
instance : NoAgg (Tryz.t124.desc) := ⟨by kernel_rfl⟩
attribute [local irreducible] OJ J HdJ Code.wpIn wpListIn Oper.wpIn bodyPost CallsIn Does
set_option maxRecDepth 4000
set_option maxHeartbeats 256000000 in
theorem smake_t (K : CaT) (s0 : CaV) (f : List Int) (s : Sch) (Al : Option Addr) (cl : Nat) (l : List Smp) (m times b : Int) (w : World) (hown : Own (K.H s0) w) (hF : CaF K.ys f K.room) (hk0 : CaOk K.ys f K.room s0 b) (hb : b ≤ 500000000000000000)
    (hr : RoA w (blocks (K.H s0)) Al l.length cl 3 (flat smpE l)) (hm : l.length ≤ 1000000) (ht : InR .i64 times) :
    Does Tryz.prog 25 [.pointer (some ⟨K.g, 0, none⟩), .agg (schE s).toArray, .slice Al l.length cl, .int .i64 m, .int .i64 times] (K.H s0) w
      (fun v S' => ∃ s', CaOk K.ys f K.room s' (b + 3244800) ∧
        ((mkC (wY K.ys) (hY K.ys) f s l m times ≠ 0 ∧ v = .tuple #[.agg (grN).toArray, .agg (stpE ⟨0, 0, -1⟩).toArray, .int .i64 (mkC (wY K.ys) (hY K.ys) f s l m times)] ∧ S' = K.H s') ∨
        (mkC (wY K.ys) (hY K.ys) f s l m times = 0 ∧ ∃ A c, v = .tuple #[.agg (grE (mkG (wY K.ys) (hY K.ys) f s l m times) A c).toArray, .agg (stpE (cbTo (allL (wY K.ys) (hY K.ys) f s l m) (allL (wY K.ys) (hY K.ys) f s l m).length)).toArray, .int .i64 0] ∧
          S' = .row (.slice A (mkG (wY K.ys) (hY K.ys) f s l m times).p.length c) 2 1 (mkG (wY K.ys) (hY K.ys) f s l m times).p.length (ints .i64 (mkG (wY K.ys) (hY K.ys) f s l m times).p) :: K.H s'))) := by
  have iM : ∀ w0 W H t u a b, MS Tryz.prog w0 W H (.binOp .mul t a b u) [.int .i64 s.far, .int .i64 s.step] (.int .i64 (IntKind.i64.wrap (s.far * s.step))) True := fun _ _ _ _ _ _ _ => msW inferInstance trivial rfl
  have iX : ∀ w0 W H t u a b, MS Tryz.prog w0 W H (.binOp .sub t a b u) [.int .i64 s.x, .int .i64 (IntKind.i64.wrap (s.far * s.step))] (.int .i64 (X0 s.x s.far s.step)) True := fun _ _ _ _ _ _ _ => msW inferInstance trivial rfl
  have iY : ∀ w0 W H t u a b, MS Tryz.prog w0 W H (.binOp .sub t a b u) [.int .i64 s.y, .int .i64 (IntKind.i64.wrap (s.far * s.step))] (.int .i64 (X0 s.y s.far s.step)) True := fun _ _ _ _ _ _ _ => msW inferInstance trivial rfl
  have hC : mkC (wY K.ys) (hY K.ys) f s l m times = if chk21 s l ≠ 0 then chk21 s l else if ¬ sidesOk (2 * s.far + 1) (2 * s.far + 1) s.step then 2 else if (allL (wY K.ys) (hY K.ys) f s l m).length = 0 then 7 else if wsTo (evS s).p (wtS (wY K.ys) (hY K.ys) f s l m times) (evS s).p.length = 0 then 7 else 0 := rfl
  have hG : mkG (wY K.ys) (hY K.ys) f s l m times = { evS s with p := wghL (evS s).p (wtS (wY K.ys) (hY K.ys) f s l m times) } := rfl
  refine does_ofM Tryz.func25 rfl Tryz.ntmps25 rfl hown (fun n => ?_)
  simp only [slots]
  refine z_tas
  rename_i b6 b9 b10 b11 b13
  refine lfv rfl rfl rfl (fun w hw => mcheck_any s Al cl l w ⟨hr.h.go hw (Split.nil _)⟩ hm) ?_
  by_cases hc : chk21 s l = 0
  rotate_left
  · rw [if_pos hc] at hC
    generalize chk21 s l = e at *
    refine z_tas
    refine c_dvL [.blk b13 43 [.int .i64 0, .int .i64 0, .int .i64 (-1)]] (0 :: 1 :: 2 :: 3 :: 4 :: 5 :: []) Sub.au ?_
    intro _
    refine z_gvs
    all_goals
      refine j_outMS (Ds := []) (S' := K.H s0) (S2 := K.HC s0 [.blk b10 60 grN, .blk b11 43 [.int .i64 0, .int .i64 0, .int .i64 (-1)]]) (by show Sub (K.HC s0 [.blk b10 60 grN, .blk b11 43 [.int .i64 0, .int .i64 0, .int .i64 (-1)]]) _; exact Sub.au) Sub.au ?_
      refine z_rk
      exact ⟨s0, hk0.mono (by omega), .inl ⟨by rw [hC]; exact hc, by rw [hC]; rfl, rfl⟩⟩
  obtain ⟨⟨⟨a1, a2⟩, ⟨a3, a4⟩, ⟨a5, a6⟩, a7, a8⟩, ⟨l1, l2⟩, hl⟩ := chk21_ok hc
  rw [if_neg (by rw [hc]; simp)] at hC
  rw [hc]
  refine z_tas
  rename_i b15
  by_cases hok : sidesOk (2 * s.far + 1) (2 * s.far + 1) s.step
  rotate_left
  · rw [if_pos hok] at hC
    refine lf rfl rfl rfl (S := []) (fun w hw ho => even_bad (2 * s.far + 1) (2 * s.far + 1) (X0 s.x s.far s.step) (X0 s.y s.far s.step) s.step w hok) ?_
    rintro v S' ⟨rfl, rfl⟩
    refine z_tas
    refine c_dvL [.blk b13 43 [.int .i64 0, .int .i64 0, .int .i64 (-1)]] (0 :: 1 :: 2 :: 3 :: 4 :: 5 :: []) Sub.au ?_
    intro _
    refine z_gvs
    all_goals
      refine j_outMS (Ds := []) (S' := K.H s0) (S2 := K.HC s0 [.blk b10 60 grN, .blk b11 43 [.int .i64 0, .int .i64 0, .int .i64 (-1)]]) (by show Sub (K.HC s0 [.blk b10 60 grN, .blk b11 43 [.int .i64 0, .int .i64 0, .int .i64 (-1)]]) _; exact Sub.au) Sub.au ?_
      refine z_rk
      exact ⟨s0, hk0.mono (by omega), .inl ⟨by rw [hC]; decide, by rw [hC]; rfl, rfl⟩⟩
  obtain ⟨-, q1, q2, q3⟩ := side_le hok
  rw [if_neg (by simpa using hok)] at hC
  obtain ⟨hp, hpc⟩ := evS_pos a1 q2
  have hpl := evS_len a1
  have hside : ((sideN s.far : Nat) : Int) = 2 * s.far + 1 := by unfold sideN; omega
  have iSS : ∀ w0 W H t u a b, MS Tryz.prog w0 W H (.binOp .mul t a b u) [.int .i64 (2 * s.far + 1), .int .i64 (2 * s.far + 1)] (.int .i64 ((sideN s.far * sideN s.far : Nat) : Int)) True := fun _ _ _ _ _ _ _ => msM inferInstance (by rw [← hside, ← Int.natCast_mul]; show (-9223372036854775808 : Int) ≤ _ ∧ _ ≤ (9223372036854775807 : Int); omega) (by rw [← hside, ← Int.natCast_mul])
  refine lf rfl rfl rfl (S := []) (fun w hw ho => evenS_any s w hok) ?_
  rintro v S' ⟨u, rfl, Ae, ce, rfl, rfl⟩
  refine z_tas
  rename_i b17
  refine lf rfl rfl rfl (S := K.H s0) (fun w hw ho => mbest_t K s0 f s Al cl l m 0 b w ho hF hk0 (by omega) ⟨hr.h.go hw Split.au⟩ hm) ?_
  rintro v S' ⟨s1, k1, rfl, rfl⟩
  have hall := fun i hi => allL_in (W := wY K.ys) (H := hY K.ys) (f := f) (s := s) (l := l) (m := m) (i := i) hi
  have hln := allL_len (wY K.ys) (hY K.ys) f s l m
  have hwd : wtS (wY K.ys) (hY K.ys) f s l m times = wtTo (sideN s.far * sideN s.far) s.far (cbTo (allL (wY K.ys) (hY K.ys) f s l m) (allL (wY K.ys) (hY K.ys) f s l m).length).cost times (allL (wY K.ys) (hY K.ys) f s l m) (allL (wY K.ys) (hY K.ys) f s l m).length := rfl
  have hcbi : -1 ≤ (cbTo (allL (wY K.ys) (hY K.ys) f s l m) (allL (wY K.ys) (hY K.ys) f s l m).length).cost ∧ (cbTo (allL (wY K.ys) (hY K.ys) f s l m) (allL (wY K.ys) (hY K.ys) f s l m).length).cost ≤ 4611686018427387904 := by
    obtain ⟨cb1, cb2⟩ := cb_bst (l := allL (wY K.ys) (hY K.ys) f s l m) (fun i hi => (hall i hi).2.2.1.1) (Nat.le_refl _)
    cases hb : bstTo (allL (wY K.ys) (hY K.ys) f s l m) (allL (wY K.ys) (hY K.ys) f s l m).length with
    | none => rw [cb1 hb]; decide
    | some k => rw [cb2 k hb]; have := (hall k (bstTo_lt hb)).2.2.1; omega
  obtain ⟨cb, hcb⟩ : ∃ x, cbTo (allL (wY K.ys) (hY K.ys) f s l m) (allL (wY K.ys) (hY K.ys) f s l m).length = x := ⟨_, rfl⟩
  rw [hcb] at hwd hcbi ⊢
  obtain ⟨sc, hsc⟩ : ∃ x, secTo (allL (wY K.ys) (hY K.ys) f s l m) cb 0 (allL (wY K.ys) (hY K.ys) f s l m).length = x := ⟨_, rfl⟩
  rw [hsc]
  refine z_tas
  · rename_i hl0
    rw [if_pos (by omega)] at hC
    refine c_dvL [.blk b13 43 [.int .i64 0, .int .i64 0, .int .i64 (-1)]] (0 :: 1 :: 2 :: 3 :: 4 :: []) Sub.au ?_
    intro _
    refine z_gvs
    all_goals
      refine j_outMS (Ds := []) (S' := K.H s1) (S2 := K.HC s1 [.blk b10 60 grN, .blk b11 43 [.int .i64 0, .int .i64 0, .int .i64 (-1)]]) (by show Sub (K.HC s1 [.blk b10 60 grN, .blk b11 43 [.int .i64 0, .int .i64 0, .int .i64 (-1)]]) _; exact Sub.au) Sub.au ?_
      refine z_rk
      exact ⟨s1, k1.mono (by omega), .inl ⟨by rw [hC]; decide, by rw [hC]; rfl, rfl⟩⟩
  · rename_i b19 hl0 bw b22 b23
    rw [if_neg (by omega)] at hC
    generalize hN : sideN s.far * sideN s.far = N at *
    refine lf rfl rfl rfl (S := []) (fun w hw ho => all21_any K.g s Al l.length cl m w) ?_
    rintro v S' ⟨gs, gl, gc, gm, rfl, rfl⟩
    refine z_tas
    refine c_alls (K := K) (s0 := s1) (s := s) (m := m) (b := b + 2163200) (S := [.row (.slice (some ⟨bw, 0, none⟩) N N) 2 1 N (ints .i64 (List.replicate N 0)), .blk b22 58 [.slice (some ⟨bw, 0, none⟩) N N], .blk b23 124 [.func (.func 64) #[] #[.pointer (some ⟨b6, 0, none⟩), .pointer (some ⟨b15, 0, none⟩)]], .blk b19 43 (stpE cb), .blk b9 2 [.int .i64 times], .blk b6 26 (schE s), .blk b15 3 [.int .i64 (2 * s.far + 1)]])
      (fun i S => S = [.row (.slice (some ⟨bw, 0, none⟩) N N) 2 1 N (ints .i64 (wtTo N s.far cb.cost times (allL (wY K.ys) (hY K.ys) f s l m) i)), .blk b22 58 [.slice (some ⟨bw, 0, none⟩) N N], .blk b23 124 [.func (.func 64) #[] #[.pointer (some ⟨b6, 0, none⟩), .pointer (some ⟨b15, 0, none⟩)]], .blk b19 43 (stpE cb), .blk b9 2 [.int .i64 times], .blk b6 26 (schE s), .blk b15 3 [.int .i64 (2 * s.far + 1)]])
      (fun _ _ => False) rfl Split.au hF k1 (by omega) hr.h hm rfl ?_ ?_ ?_
    · rintro lp i S1 hi rfl w1 ho
      have hx := hall i hi
      have e : wtTo N s.far cb.cost times (allL (wY K.ys) (hY K.ys) f s l m) (i + 1) = (wtTo N s.far cb.cost times (allL (wY K.ys) (hY K.ys) f s l m) i).set (ixS s.far ((allL (wY K.ys) (hY K.ys) f s l m).getD i default).i ((allL (wY K.ys) (hY K.ys) f s l m).getD i default).k) (wgtF cb.cost ((allL (wY K.ys) (hY K.ys) f s l m).getD i default).cost times) := rfl
      have hwl := wtTo_len (N := N) (far := s.far) (best := cb.cost) (times := times) (L := allL (wY K.ys) (hY K.ys) f s l m) i
      dsimp only at hx
      generalize (allL (wY K.ys) (hY K.ys) f s l m).getD i default = x at *
      obtain ⟨-, hix, hie⟩ := ixS_ok (far := s.far) (i := x.i) (k := x.k) ⟨hx.2.2.2.1, hx.2.2.2.2⟩
      have hsat := fun w ho => sat_any b6 b15 s x ⟨hx.2.2.2.1, hx.2.2.2.2⟩ ⟨a1, a2⟩ w ho
      rw [hN] at hix
      generalize ixS s.far x.i x.k = ix at *
      generalize wtTo N s.far cb.cost times (allL (wY K.ys) (hY K.ys) f s l m) i = wr at *
      refine yields_of (N := 116) ho rfl (by simp) (fun n => ?_)
      simp only [over]
      refine z_tas
      refine c_beg ?_
      refine z_tas
      rename_i b24
      refine c_dvL [.blk b22 58 [.slice (some ⟨bw, 0, none⟩) N N], .blk b23 124 [.func (.func 64) #[] #[.pointer (some ⟨b6, 0, none⟩), .pointer (some ⟨b15, 0, none⟩)]], .blk b19 43 (stpE cb), .blk b9 2 [.int .i64 times], .blk b24 43 (stpE x), .blk b6 26 (schE s), .blk b15 3 [.int .i64 (2 * s.far + 1)]] (0 :: 1 :: 2 :: 3 :: 4 :: 5 :: 6 :: 7 :: 8 :: 9 :: 10 :: 11 :: []) Sub.au ?_
      intro _
      refine z_gvs
      all_goals
        refine lb (f := 64) (first := #[]) (captured := #[.pointer (some ⟨b6, 0, none⟩), .pointer (some ⟨b15, 0, none⟩)]) (vs := [.agg (stpE x).toArray]) (S := [.blk b6 26 (schE s), .blk b15 3 [.int .i64 (2 * s.far + 1)]]) rfl rfl rfl rfl (fun w hw ho => hsat w ho) ?_
        rintro v S' ⟨rfl, rfl⟩
        refine z_gvs
      all_goals
        refine c_rnH (S' := _ :: [.row (.slice (some ⟨bw, 0, none⟩) N N) 2 1 N (ints .i64 (wtTo N s.far cb.cost times (allL (wY K.ys) (hY K.ys) f s l m) (i + 1))), .blk b22 58 [.slice (some ⟨bw, 0, none⟩) N N], .blk b23 124 [.func (.func 64) #[] #[.pointer (some ⟨b6, 0, none⟩), .pointer (some ⟨b15, 0, none⟩)]], .blk b19 43 (stpE cb), .blk b9 2 [.int .i64 times], .blk b6 26 (schE s), .blk b15 3 [.int .i64 (2 * s.far + 1)]]) ?_ (.inl ⟨rfl, _, rfl, rfl⟩)
        rw [e]
        exact Sub.au
    · rintro d s2 S2 hk2 rfl
      have hwl : (wtS (wY K.ys) (hY K.ys) f s l m times).length = N := by rw [hwd]; exact wtTo_len _
      have hww : Wt (wtS (wY K.ys) (hY K.ys) f s l m times) := by rw [hwd]; exact wtTo_in _
      rw [← hwd]
      clear hwd
      generalize wtS (wY K.ys) (hY K.ys) f s l m times = wt at *
      obtain rfl : N = wt.length := hwl.symm
      refine z_tas
      by_cases hz0 : wsTo (evS s).p wt (evS s).p.length = 0
      · rw [if_pos hz0] at hC
        refine lf rfl rfl rfl (S := []) (fun w hw ho => weigh_zero (evS s) Ae ce (some ⟨bw, 0, none⟩) wt.length wt w ⟨Ro.row hw (Split.nil _) (by refine z_hs)⟩ ⟨Ro.row hw (Split.nil _) (by refine z_hs)⟩ hp hww hpl.symm (by omega) hz0) ?_
        rintro v S' ⟨u2, u3, rfl, rfl⟩
        refine z_tas
        refine c_dvL [.blk b13 43 [.int .i64 0, .int .i64 0, .int .i64 (-1)]] (0 :: 1 :: 2 :: 3 :: 4 :: 5 :: []) Sub.au ?_
        intro _
        refine z_gvs
        all_goals
          refine j_outMS (Ds := [d]) (S' := K.H s2) (S2 := K.HC s2 [.blk b10 60 grN, .blk b11 43 [.int .i64 0, .int .i64 0, .int .i64 (-1)]]) (by show Sub (K.HC s2 [.blk b10 60 grN, .blk b11 43 [.int .i64 0, .int .i64 0, .int .i64 (-1)], .obj d (.deferred (some []))]) _; exact Sub.au) Sub.au ?_
          refine z_rk
          exact ⟨s2, hk2.mono (by omega), .inl ⟨by rw [hC]; decide, by rw [hC]; rfl, rfl⟩⟩
      · rw [if_neg hz0] at hC
        have hz1 := (ws_in hp hww hpl.symm (evS s).p.length (Nat.le_refl _)).1
        refine lf rfl rfl rfl (S := []) (fun w hw ho => weigh_any (evS s) Ae ce (some ⟨bw, 0, none⟩) wt.length wt w ⟨Ro.row hw (Split.nil _) (by refine z_hs)⟩ ⟨Ro.row hw (Split.nil _) (by refine z_hs)⟩ hp hww hpl.symm (by omega) (by omega)) ?_
        rw [← hG]
        rintro v S' ⟨u, rfl, Ag, cg, rfl, rfl⟩
        generalize mkG (wY K.ys) (hY K.ys) f s l m times = G at *
        refine z_tas
        refine c_dvL [.blk b17 60 (grE G Ag cg), .blk b19 43 (stpE cb)] (0 :: 1 :: 2 :: 3 :: 4 :: []) Sub.au ?_
        intro _
        refine z_gvs
        all_goals
          refine j_outMS (Ds := [d]) (S' := .row (.slice Ag G.p.length cg) 2 1 G.p.length (ints .i64 G.p) :: K.H s2) (S2 := .row (.slice Ag G.p.length cg) 2 1 G.p.length (ints .i64 G.p) :: K.HC s2 [.blk b10 60 (grE G Ag cg), .blk b11 43 (stpE cb)]) (by show Sub (.row (.slice Ag G.p.length cg) 2 1 G.p.length (ints .i64 G.p) :: K.HC s2 [.blk b10 60 (grE G Ag cg), .blk b11 43 (stpE cb), .obj d (.deferred (some []))]) _; exact Sub.au) Sub.au ?_
          refine z_rk
          exact ⟨s2, hk2.mono (by omega), .inr ⟨hC, Ag, cg, rfl, rfl⟩⟩
    · rintro d c s2 S2 hk2 h
      exact h.elim
end Go.Proofs.YtemmnpgebpffbaaGreat
/- Layer 22: what the statements' own check reckons: the plain part. -/
namespace Go.Proofs.YtemmnpgebpffbaaGreat
open Go.RowKit
def zF22 (i : Nat) : Int := (i : Int) * (i : Int) % 311
def zTo22 : Nat → List Int
  | 0 => []
  | n + 1 => zTo22 n ++ [zF22 n]
theorem zTo22_len : ∀ n, (zTo22 n).length = n
  | 0 => rfl
  | n + 1 => by rw [zTo22, List.length_append, zTo22_len n]; rfl
def z22 : List Int := zTo22 144
theorem z22_in : In16 z22 := in16_of (by decide +kernel)
def l22 : List Smp := [⟨0, 0, 32⟩, ⟨256, 0, 2160⟩, ⟨0, 256, 2800⟩]
def s22 : Sch := ⟨1280, 1280, 2, 256⟩
theorem w22_h1 : heightT 12 12 z22 1536 1280 = 32 ∧ codeF 12 12 z22 1536 1280 = 0 := by decide +kernel
theorem w22_h2 : heightT 12 12 z22 1792 1280 = 2160 ∧ codeF 12 12 z22 1792 1280 = 0 := by decide +kernel
theorem w22_h3 : heightT 12 12 z22 1536 1536 = 2800 ∧ codeF 12 12 z22 1536 1536 = 0 := by decide +kernel
theorem w22_C : mkC 12 12 z22 s22 l22 0 1000 = 0 := by decide +kernel
theorem w22_N (t : Int) : mkC 12 12 z22 s22 [] 0 t = 5 := by
  have h : chk21 s22 [] = 5 := by decide +kernel
  unfold mkC
  rw [h]
  rfl
theorem w22_b : cbTo (allL 12 12 z22 s22 l22 0) (allL 12 12 z22 s22 l22 0).length = ⟨1, 0, 0⟩ := by kernel_rfl
theorem w22_len : (mkG 12 12 z22 s22 l22 0 1000).p.length = 25 := by decide +kernel
theorem w22_pk : (pkTo (mkG 12 12 z22 s22 l22 0 1000).p 25).1 = 13 := by decide +kernel
theorem w22_pos : Pos30 (mkG 12 12 z22 s22 l22 0 1000).p := by
  have h : ∀ i, i < 25 → 0 ≤ (mkG 12 12 z22 s22 l22 0 1000).p.getD i 0 ∧ (mkG 12 12 z22 s22 l22 0 1000).p.getD i 0 ≤ 1073741824 := by decide +kernel
  unfold Pos30
  rw [w22_len]
  exact h
theorem w22_sum : 1073741824 - ((25 : Nat) : Int) ≤ sumL (mkG 12 12 z22 s22 l22 0 1000).p 25 ∧ sumL (mkG 12 12 z22 s22 l22 0 1000).p 25 ≤ 1073741824 := by decide +kernel
theorem w22_side : sidesOk (2 * s22.far + 1) (2 * s22.far + 1) s22.step := by decide
theorem w22_ev : (evS s22).p.length = 25 ∧ (evS s22).x = 768 := by decide +kernel
end Go.Proofs.YtemmnpgebpffbaaGreat
