
import Derived.Test.YtemmnpgebpffbaaGreatMG11
set_option linter.unusedVariables false
set_option linter.unusedSimpArgs false
/- Package match: all steps of a search. -/
namespace Go.Proofs.YtemmnpgebpffbaaGreat
open Go.RowKit
theorem Split.tailT : ∀ T : List HE, Split T T []
  | [] => .nil _
  | x :: T => .cons (.here _ _) (Split.tailT T)
theorem Split.preT (T : List HE) : ∀ l : List HE, Split (l ++ T) T l
  | [] => Split.tailT T
  | y :: l => by
    have key : ∀ {H S R : List HE} (y : HE), Split H S R → Split (y :: H) S (y :: R) := by
      intro H S R y hsp
      induction hsp with
      | nil H => exact .nil _
      | cons h _ ih => exact .cons (.there y h) ih
    exact key y (Split.preT T l)
theorem j_swapT {N : Nat} {ds : List Deferred} {w0 : World} {W : Nat → Prop} {σ : List (Nat × Value)} {S R : List HE} {q : Act → World → Prop} (h : J N ds w0 W σ (R ++ S) q) : J N ds w0 W σ (S ++ R) q := fun a w ha hw => h a w ha (hw.perm List.perm_append_comm)
theorem blocks_perm {S T : List HE} (hp : S.Perm T) : blocks S = blocks T := by
  funext b
  apply propext
  exact ⟨fun ⟨x, hx, hb⟩ => ⟨x, hp.mem_iff.1 hx, hb⟩, fun ⟨x, hx, hb⟩ => ⟨x, hp.mem_iff.2 hx, hb⟩⟩
theorem Sub.appT {S H : List HE} (T : List HE) (h : Sub S H) : Sub (S ++ T) (H ++ T) := by
  have key : ∀ {H S R : List HE} (x : HE), Has H x R → Has (H ++ T) x (R ++ T) := by
    intro H S R x h
    induction h with
    | here x r => exact .here _ _
    | there y _ ih => exact .there y ih
  induction h with
  | nil H => 
    induction H with
    | nil => exact Sub.refl _
    | cons y H ih => exact Sub.skip ih y
  | cons h _ ih => exact .cons (key (S := []) _ h) ih
/-- What an iterator over steps holds, and what its user holds. -/
@[reducible] def ItH (gs gl gc gm : Nat) (K : CaT) (s : Sch) (Al : Option Addr) (cl : Nat) (l : List Smp) (m : Int) (c : CaV) (S : List HE) : List HE :=
  .blk gs 26 (schE s) :: .blk gl 27 [.slice Al l.length cl] :: .blk gc 36 [.pointer (some ⟨K.g, 0, none⟩)] :: .blk gm 3 [.int .i64 m] :: K.HC c S
theorem it_split (gs gl gc gm : Nat) (K : CaT) (s : Sch) (Al : Option Addr) (cl : Nat) (l : List Smp) (m : Int) (c : CaV) (S : List HE) : Split (ItH gs gl gc gm K s Al cl l m c S) S (ItH gs gl gc gm K s Al cl l m c []) := Split.preT S (ItH gs gl gc gm K s Al cl l m c [])
theorem it_perm (x : HE) (gs gl gc gm : Nat) (K : CaT) (s : Sch) (Al : Option Addr) (cl : Nat) (l : List Smp) (m : Int) (c : CaV) (S : List HE) : (x :: ItH gs gl gc gm K s Al cl l m c S).Perm (ItH gs gl gc gm K s Al cl l m c (x :: S)) :=
  (List.perm_middle (l₁ := ItH gs gl gc gm K s Al cl l m c []) (l₂ := S) (a := x)).symm
theorem all_round {W H : Nat} {f : List Int} {s : Sch} {l : List Smp} {m : Int} {i j : Nat} (hi : i < sideN s.far) :
    gS W H f s l m (j * sideN s.far + i) = if onTo W H f (s.x + ((i : Int) - s.far) * s.step) (s.y + ((j : Int) - s.far) * s.step) l l.length = true then some (costF (apTo W H f (s.x + ((i : Int) - s.far) * s.step) (s.y + ((j : Int) - s.far) * s.step) l l.length) m 1 2 10) else none := by
  unfold gS plcF
  rw [pS_at hi]
attribute [local irreducible] OJ J HdJ Code.wpIn wpListIn Oper.wpIn bodyPost CallsIn Does
set_option maxRecDepth 4000
set_option maxHeartbeats 128000000 in
theorem all1_any (lp gs gl gc gm : Nat) (K : CaT) (s0 : CaV) (f : List Int) (s : Sch) (Al : Option Addr) (cl : Nat) (l : List Smp) (m b : Int) (w : World) (S : List HE) (I : Nat → List HE → Prop) (D : List HE → Prop)
    (hown : Own (ItH gs gl gc gm K s Al cl l m s0 S) w) (hF : CaF K.ys f K.room) (hk0 : CaOk K.ys f K.room s0 b) (hb : b ≤ 700000000000000000)
    (hr : RoA w (blocks (ItH gs gl gc gm K s Al cl l m s0 S)) Al l.length cl 3 (flat smpE l)) (hm : l.length ≤ 1000000) (h0 : I 0 S)
    (hy : ∀ i S', i < (allL (wY K.ys) (hY K.ys) f s l m).length → I i S' → ∀ w', Own S' w' → Yields Tryz.prog lp [.agg (stpE ((allL (wY K.ys) (hY K.ys) f s l m).getD i default)).toArray] S' w' (fun v S'' => (v = .bool true ∧ I (i + 1) S'') ∨ (v = .bool false ∧ D S''))) :
    Does Tryz.prog 72 [.func (.yield lp) #[] #[], .pointer (some ⟨gs, 0, none⟩), .pointer (some ⟨gl, 0, none⟩), .pointer (some ⟨gc, 0, none⟩), .pointer (some ⟨gm, 0, none⟩)] (ItH gs gl gc gm K s Al cl l m s0 S) w
      (fun v S' => v = .tuple #[] ∧ ∃ s1 S1, CaOk K.ys f K.room s1 (b + 1081600) ∧ S' = ItH gs gl gc gm K s Al cl l m s1 S1 ∧ (I (allL (wY K.ys) (hY K.ys) f s l m).length S1 ∨ D S1)) := by
  refine does_of Tryz.func72 rfl Tryz.ntmps72 rfl hown (fun n => ?_)
  simp only [slots]
  refine z_tas
  refine lfv rfl rfl rfl (fun w hw => mcheck_any s Al cl l w ⟨hr.h.go hw (Split.nil _)⟩ hm) ?_
  by_cases hc : chk21 s l = 0
  · obtain ⟨⟨⟨a1, a2⟩, ⟨a3, a4⟩, ⟨a5, a6⟩, a7, a8⟩, ⟨l1, l2⟩, hl⟩ := chk21_ok hc
    have hL : allL (wY K.ys) (hY K.ys) f s l m = (allN (wY K.ys) (hY K.ys) f s l m (sideN s.far * sideN s.far)).1 := if_pos hc
    have hside : ((sideN s.far : Nat) : Int) = 2 * s.far + 1 := by unfold sideN; omega
    rw [hL] at hy ⊢
    have hrd := fun i j hi => all_round (W := wY K.ys) (H := hY K.ys) (f := f) (s := s) (l := l) (m := m) (i := i) (j := j) hi
    generalize hsd : sideN s.far = sd at *
    rw [hc]
    refine z_tas
    refine c_loop (X := Nat × CaV × List HE) (fun q => q.1 ≤ sd ∧ CaOk K.ys f K.room q.2.1 (b + 256 * ((q.1 * sd : Nat) : Int)) ∧ (allN (wY K.ys) (hY K.ys) f s l m (q.1 * sd)).2 = false ∧ I (allN (wY K.ys) (hY K.ys) f s l m (q.1 * sd)).1.length q.2.2)
      (fun q => [(0, .func (.yield lp) #[] #[]), (0 + 1, .pointer (some ⟨gs, 0, none⟩)), (0 + 1 + 1, .pointer (some ⟨gl, 0, none⟩)), (0 + 1 + 1 + 1, .pointer (some ⟨gc, 0, none⟩)), (0 + 1 + 1 + 1 + 1, .pointer (some ⟨gm, 0, none⟩)), (6, .int .i64 ((q.1 : Int) - s.far))])
      (fun q => ItH gs gl gc gm K s Al cl l m q.2.1 q.2.2) (fun q => sd - q.1) (0, s0, S) ⟨by omega, by simpa using hk0, by rw [Nat.zero_mul]; rfl, by rw [Nat.zero_mul]; exact h0⟩ ⟨rfl, rfl, rfl, rfl, rfl, by simp [look], trivial⟩ (Sub.refl _) ?_
    rintro ⟨j, s1, S1⟩ ⟨hj, hk, hok, hI⟩
    dsimp only at hj hk hok hI ⊢
    rcases Nat.lt_or_ge j sd with hlt | hge
    · have hjs : j * sd + sd ≤ sd * sd := by have := Nat.mul_le_mul_right sd (show j + 1 ≤ sd from hlt); rw [Nat.add_mul, Nat.one_mul] at this; exact this
      have hss : sd * sd ≤ 4225 := by have := Nat.mul_le_mul (show sd ≤ 65 by omega) (show sd ≤ 65 by omega); omega
      have hsj : (j + 1) * sd = j * sd + sd := by rw [Nat.add_mul, Nat.one_mul]
      refine z_tas
      refine c_loop (X := Nat × CaV × List HE) (fun q => q.1 ≤ sd ∧ CaOk K.ys f K.room q.2.1 (b + 256 * ((j * sd + q.1 : Nat) : Int)) ∧ (allN (wY K.ys) (hY K.ys) f s l m (j * sd + q.1)).2 = false ∧ I (allN (wY K.ys) (hY K.ys) f s l m (j * sd + q.1)).1.length q.2.2)
        (fun q => [(0, .func (.yield lp) #[] #[]), (0 + 1, .pointer (some ⟨gs, 0, none⟩)), (0 + 1 + 1, .pointer (some ⟨gl, 0, none⟩)), (0 + 1 + 1 + 1, .pointer (some ⟨gc, 0, none⟩)), (0 + 1 + 1 + 1 + 1, .pointer (some ⟨gm, 0, none⟩)), (6, .int .i64 ((j : Int) - s.far)), (7, .int .i64 ((q.1 : Int) - s.far))])
        (fun q => ItH gs gl gc gm K s Al cl l m q.2.1 q.2.2) (fun q => sd - q.1) (0, s1, S1) ⟨by omega, hk, hok, hI⟩ ⟨rfl, rfl, rfl, rfl, rfl, rfl, by simp [look], trivial⟩ (Sub.refl _) ?_
      rintro ⟨i, s2, S2⟩ ⟨hi, hk2, hok2, hI2⟩
      dsimp only at hi hk2 hok2 hI2 ⊢
      rcases Nat.lt_or_ge i sd with hlt2 | hge2
      · have hg := hrd i j hlt2
        have hx := mulB 32 4096 (a := (i : Int) - s.far) (b := s.step) (by omega) (by omega)
        have hy2 := mulB 32 4096 (a := (j : Int) - s.far) (b := s.step) (by omega) (by omega)
        have hn := all_none (g := gS (wY K.ys) (hY K.ys) f s l m) (p := pS s.far) (n := j * sd + i) hok2
        have hsm := fun c => all_some (g := gS (wY K.ys) (hY K.ys) f s l m) (p := pS s.far) (n := j * sd + i) (c := c) hok2
        have her := fun c e => all_err (g := gS (wY K.ys) (hY K.ys) f s l m) (p := pS s.far) (n := j * sd + i) (c := c) (e := e) hok2
        have hat := fun c => all_at (g := gS (wY K.ys) (hY K.ys) f s l m) (p := pS s.far) (n := j * sd + i) (N := sd * sd) (c := c) (by omega) hok2
        have hst := fun h => all_stop (g := gS (wY K.ys) (hY K.ys) f s l m) (p := pS s.far) (n := j * sd + i + 1) h (sd * sd - (j * sd + i + 1))
        rw [show j * sd + i + 1 + (sd * sd - (j * sd + i + 1)) = sd * sd by omega] at hst
        have hps : pS s.far (j * sd + i) = ((i : Int) - s.far, (j : Int) - s.far) := by rw [← hsd]; exact pS_at (by rw [hsd]; exact hlt2)
        generalize hXe : s.x + ((i : Int) - s.far) * s.step = X at *
        generalize hYe : s.y + ((j : Int) - s.far) * s.step = Y at *
        refine z_tas
        rw [hXe, hYe]
        refine lf rfl rfl rfl (S := K.H s2) (fun w hw ho => apart_t K s2 f X Y (b + 256 * ((j * sd + i : Nat) : Int)) Al cl l w ho hF hk2 (by omega) ⟨hr.h.go hw Split.au⟩ hm (by omega) (by omega) hl) ?_
        rintro v S' ⟨s3, hk3, hap⟩
        rcases hap with ⟨hon, Aa, ca, rfl, rfl⟩ | ⟨hon, rfl, rfl⟩
        · rw [if_pos hon] at hg
          have hal := apTo_len (wY K.ys) (hY K.ys) f X Y l l.length
          generalize hd : apTo (wY K.ys) (hY K.ys) f X Y l l.length = d at *
          refine z_tas
          refine lfv rfl rfl rfl (fun w hw => mcost_any Aa ca d m w ⟨Ro.row hw (Split.nil _) (by refine z_hs)⟩ (by omega)) ?_
          obtain ⟨cc1, e1, hce⟩ : ∃ c e, costF d m 1 2 10 = (c, e) := ⟨_, _, rfl⟩
          rw [hce] at hg ⊢
          dsimp only
          refine z_tas
          · rename_i hne
            have hne' : e1 ≠ 0 := by simpa using hne
            have he := her _ _ hg hne'
            refine j_outN rfl (Sub.appT (S := ItH gs gl gc gm K s Al cl l m s3 []) (H := .row (.slice Aa d.length ca) 2 1 d.length (ints .i64 d) :: K.HC s3 [.blk gs 26 (schE s), .blk gl 27 [.slice Al l.length cl], .blk gc 36 [.pointer (some ⟨K.g, 0, none⟩)], .blk gm 3 [.int .i64 m]]) S2 Sub.au) ⟨rfl, s3, S2, hk3.mono (by omega), rfl, .inl ?_⟩
            unfold allN at hI2 ⊢
            rw [hst (by rw [he]), he]
            exact hI2
          · rename_i hne
            obtain rfl : e1 = 0 := by simpa using hne
            have hsm' := hsm _ hg
            obtain ⟨hat1, hat2⟩ := hat _ hg
            refine j_perm (H' := ItH gs gl gc gm K s Al cl l m s3 S2) (Sub.appT (S := ItH gs gl gc gm K s Al cl l m s3 []) (H := .row (.slice Aa d.length ca) 2 1 d.length (ints .i64 d) :: K.HC s3 [.blk gs 26 (schE s), .blk gl 27 [.slice Al l.length cl], .blk gc 36 [.pointer (some ⟨K.g, 0, none⟩)], .blk gm 3 [.int .i64 m]]) S2 Sub.au) ?_
            refine z_tas
            refine lyl rfl rfl rfl (it_split gs gl gc gm K s Al cl l m s3 S2) rfl (fun w hw ho => by have := hy _ S2 hat2 hI2 w ho; unfold allN at this; rw [hat1, hps] at this; exact this) ?_
            rintro v S3 (⟨rfl, hI3⟩ | ⟨rfl, hD⟩)
            · refine j_swapT ?_
              show J _ _ _ _ _ (ItH gs gl gc gm K s Al cl l m s3 S3) _
              refine z_tas
              exact c_round (i + 1, s3, S3) ⟨hlt2, hk3.mono (by dsimp only; omega), by show (allN _ _ _ _ _ _ (j * sd + i + 1)).2 = false; unfold allN; rw [hsm'], by show I (allN _ _ _ _ _ _ (j * sd + i + 1)).1.length _; unfold allN; rw [hsm', List.length_append]; exact hI3⟩ (by show sd - (i + 1) < sd - i; omega) ⟨rfl, rfl, rfl, rfl, rfl, rfl, by simp [look]; omega, trivial⟩ (Sub.refl _)
            · refine j_swapT ?_
              show J _ _ _ _ _ (ItH gs gl gc gm K s Al cl l m s3 S3) _
              refine z_tas
              exact j_out0 rfl (Sub.refl _) ⟨rfl, s3, S3, hk3.mono (by omega), rfl, .inr hD⟩
        · rw [hon, if_neg (by decide)] at hg
          refine z_tas
          exact c_round (i + 1, s3, S2) ⟨hlt2, hk3.mono (by dsimp only; omega), by show (allN _ _ _ _ _ _ (j * sd + i + 1)).2 = false; unfold allN; rw [hn hg]; exact hok2, by show I (allN _ _ _ _ _ _ (j * sd + i + 1)).1.length _; unfold allN; rw [hn hg]; exact hI2⟩ (by show sd - (i + 1) < sd - i; omega) ⟨rfl, rfl, rfl, rfl, rfl, rfl, by simp [look]; omega, trivial⟩ (Sub.appT (S := ItH gs gl gc gm K s Al cl l m s3 []) (H := K.HC s3 [.blk gs 26 (schE s), .blk gl 27 [.slice Al l.length cl], .blk gc 36 [.pointer (some ⟨K.g, 0, none⟩)], .blk gm 3 [.int .i64 m]]) S2 Sub.au)
      · obtain rfl : i = sd := by omega
        refine z_tas
        refine c_round (j + 1, s2, S2) ⟨hlt, by dsimp only; rw [hsj]; exact hk2, by dsimp only; rw [hsj]; exact hok2, by dsimp only; rw [hsj]; exact hI2⟩ (by show i - (j + 1) < i - j; omega) ⟨rfl, rfl, rfl, rfl, rfl, by simp [look]; omega, trivial⟩ (Sub.refl _)
    · obtain rfl : j = sd := by omega
      have hss : j * j ≤ 4225 := by have := Nat.mul_le_mul (show j ≤ 65 by omega) (show j ≤ 65 by omega); omega
      refine z_tas
      exact j_outN rfl (Sub.refl _) ⟨rfl, s1, S1, hk.mono (by omega), rfl, .inl hI⟩
  · have hL : allL (wY K.ys) (hY K.ys) f s l m = [] := if_neg hc
    rw [hL] at hy ⊢
    refine z_tas
    exact j_out0 rfl (Sub.refl _) ⟨rfl, s0, S, hk0.mono (by omega), rfl, .inl h0⟩
end Go.Proofs.YtemmnpgebpffbaaGreat
/- Package match: a range over all steps of a search; the best of them. -/
namespace Go.Proofs.YtemmnpgebpffbaaGreat
open Go.RowKit
theorem cbTo_in {L : List Stp} (h : ∀ i, i < L.length → ((-32 ≤ (L.getD i default).i ∧ (L.getD i default).i ≤ 32) ∧ (-32 ≤ (L.getD i default).k ∧ (L.getD i default).k ≤ 32))) : ∀ n, n ≤ L.length → (-32 ≤ (cbTo L n).i ∧ (cbTo L n).i ≤ 32) ∧ (-32 ≤ (cbTo L n).k ∧ (cbTo L n).k ≤ 32)
  | 0, _ => by simp [cbTo]
  | n + 1, hn => by
    have h1 := cbTo_in h n (by omega)
    have h2 := h n (by omega)
    rw [cbTo]
    split
    · exact h2
    · exact h1
attribute [local irreducible] OJ J HdJ Code.wpIn wpListIn Oper.wpIn bodyPost CallsIn Does
set_option maxRecDepth 4000
set_option maxHeartbeats 64000000 in
theorem all21_any (g : Nat) (s : Sch) (Al : Option Addr) (n cl : Nat) (m : Int) (w : World) :
    Does Tryz.prog 34 [.pointer (some ⟨g, 0, none⟩), .agg (schE s).toArray, .slice Al n cl, .int .i64 m] [] w
      (fun v S' => ∃ gs gl gc gm, v = .func (.func 72) #[] #[.pointer (some ⟨gs, 0, none⟩), .pointer (some ⟨gl, 0, none⟩), .pointer (some ⟨gc, 0, none⟩), .pointer (some ⟨gm, 0, none⟩)] ∧
        S' = [.blk gs 26 (schE s), .blk gl 27 [.slice Al n cl], .blk gc 36 [.pointer (some ⟨g, 0, none⟩)], .blk gm 3 [.int .i64 m]]) := by
  refine does_of Tryz.func34 rfl Tryz.ntmps34 rfl ⟨by simp, .nil⟩ (fun _ => ?_)
  simp only [slots]
  refine z_tas
  exact j_out1 rfl rfl Sub.au ⟨_, _, _, _, rfl, rfl⟩
theorem Split.push1 {H S R : List HE} (y : HE) (h : Split H S R) : Split (y :: H) S (y :: R) := by
  induction h with
  | nil H => exact .nil _
  | cons h _ ih => exact .cons (.there y h) ih
/-- A range over all steps of a search. -/
theorem c_allsG {n N : Nat} {ds : List Deferred} {w0 : World} {W : Nat → Prop} {σ : List (Nat × Value)} {H : List HE} {Q : Exit → Act → World → Prop} {g : Operand} {ps : Array Tmp} {assign body : Code} {gs gl gc gm : Nat} {K : CaT} {s0 : CaV} {f : List Int} {s : Sch} {Al : Option Addr} {cl : Nat} {l : List Smp} {m b : Int} {S R : List HE} (I : Nat → List HE → Prop) (D : Code → List HE → Prop)
    (hx : ev σ g = some (.func (.func 72) #[] #[.pointer (some ⟨gs, 0, none⟩), .pointer (some ⟨gl, 0, none⟩), .pointer (some ⟨gc, 0, none⟩), .pointer (some ⟨gm, 0, none⟩)])) (hs : Split H (ItH gs gl gc gm K s Al cl l m s0 S) R)
    (hF : CaF K.ys f K.room) (hk0 : CaOk K.ys f K.room s0 b) (hb : b ≤ 700000000000000000) (hr : ∀ x y w1, St w0 W (x :: y :: H) w1 → Ro w1 (blocks (x :: ItH gs gl gc gm K s Al cl l m s0 S)) 3 (.slice Al l.length cl) l.length (flat smpE l)) (hm : l.length ≤ 1000000) (h0 : I 0 S)
    (hy : ∀ lp i S1, i < (allL (wY K.ys) (hY K.ys) f s l m).length → I i S1 → ∀ w1, Own (.loop lp N σ ps assign body .ready none :: S1) w1 → Yields Tryz.prog lp [.agg (stpE ((allL (wY K.ys) (hY K.ys) f s l m).getD i default)).toArray] (.loop lp N σ ps assign body .ready none :: S1) w1
      (fun v S2 => (v = .bool true ∧ ∃ S3, S2 = .loop lp N σ ps assign body .ready none :: S3 ∧ I (i + 1) S3) ∨ (v = .bool false ∧ ∃ c S3, S2 = .loop lp N σ ps assign body .done (some c) :: S3 ∧ D c S3)))
    (hn : ∀ d s1 S1, CaOk K.ys f K.room s1 (b + 1081600) → I (allL (wY K.ys) (hY K.ys) f s l m).length S1 → J N (mk d :: ds) w0 W σ (K.HC s1 S1 ++ .obj d (.deferred (some [])) :: R) (Q .normal))
    (hd : ∀ d c s1 S1, CaOk K.ys f K.room s1 (b + 1081600) → D c S1 → J N (mk d :: ds) w0 W σ (K.HC s1 S1 ++ .obj d (.deferred (some [])) :: R) (c.wpIn Fence.wide n Tryz.prog Q)) : J N ds w0 W σ H ((Code.rangeFunc g ps assign body).wpIn Fence.wide n Tryz.prog Q) := by
  refine c_range (Rp := fun d lp pend S1 => ∃ s1 S2, S1 = ItH gs gl gc gm K s Al cl l m s1 S2 ∧ CaOk K.ys f K.room s1 (b + 1081600) ∧ ((pend = none ∧ I (allL (wY K.ys) (hY K.ys) f s l m).length S2) ∨ ∃ c, pend = some c ∧ D c S2)) hx hs (fun d lp w1 LE hLE hw ho => ?_) ?_
  · have hp := it_perm LE gs gl gc gm K s Al cl l m s0 S
    have hr1 : Ro w1 (blocks (LE :: ItH gs gl gc gm K s Al cl l m s0 S)) 3 (.slice Al l.length cl) l.length (flat smpE l) := hr _ _ w1 hw
    rw [blocks_perm hp] at hr1
    refine Does.conv (all1_any lp gs gl gc gm K s0 f s Al cl l m b w1 (LE :: S) (fun i S' => ∃ S1, S' = LE :: S1 ∧ I i S1) (fun S' => ∃ c S1, S' = .loop lp N σ ps assign body .done (some c) :: S1 ∧ D c S1) (ho.perm hp) hF hk0 hb ⟨hr1⟩ hm ⟨S, rfl, h0⟩ ?_) hp.symm ?_
    · rintro i S' hi ⟨S1, rfl, hI⟩ w2 ho2
      subst hLE
      exact hy lp i S1 hi hI w2 ho2
    · rintro v S' ⟨-, s1, S1, hk1, rfl, ⟨S2, rfl, hI⟩ | ⟨c, S2, rfl, hD⟩⟩
      · exact ⟨_, (it_perm _ gs gl gc gm K s Al cl l m s1 S2).symm, .ready, none, _, by rw [hLE], by simp, s1, S2, rfl, hk1, .inl ⟨rfl, hI⟩⟩
      · exact ⟨_, (it_perm _ gs gl gc gm K s Al cl l m s1 S2).symm, .done, some c, _, rfl, by simp, s1, S2, rfl, hk1, .inr ⟨c, rfl, hD⟩⟩
  · rintro d lp pend S1 ⟨s1, S2, rfl, hk1, ⟨rfl, hI⟩ | ⟨c, rfl, hD⟩⟩
    · exact ⟨fun _ => j_perm (Sub.skip (Sub.skip (Sub.skip (Sub.skip (Sub.refl _) _) _) _) _) (hn d s1 S2 hk1 hI), fun c h => by cases h⟩
    · exact ⟨fun h => (by cases h), fun c' h => (by injection h with h; subst h; exact j_perm (Sub.skip (Sub.skip (Sub.skip (Sub.skip (Sub.refl _) _) _) _) _) (hd d c s1 S2 hk1 hD))⟩
/-- A range over all steps of a search. -/
theorem c_alls {n N : Nat} {ds : List Deferred} {w0 : World} {W : Nat → Prop} {σ : List (Nat × Value)} {H : List HE} {Q : Exit → Act → World → Prop} {g : Operand} {ps : Array Tmp} {assign body : Code} {gs gl gc gm : Nat} {K : CaT} {s0 : CaV} {f : List Int} {s : Sch} {Al : Option Addr} {cl : Nat} {l : List Smp} {m b : Int} {S R : List HE} (I : Nat → List HE → Prop) (D : Code → List HE → Prop)
    (hx : ev σ g = some (.func (.func 72) #[] #[.pointer (some ⟨gs, 0, none⟩), .pointer (some ⟨gl, 0, none⟩), .pointer (some ⟨gc, 0, none⟩), .pointer (some ⟨gm, 0, none⟩)])) (hs : Split H (ItH gs gl gc gm K s Al cl l m s0 S) R)
    (hF : CaF K.ys f K.room) (hk0 : CaOk K.ys f K.room s0 b) (hb : b ≤ 700000000000000000) (hr : Ro w0 W 3 (.slice Al l.length cl) l.length (flat smpE l)) (hm : l.length ≤ 1000000) (h0 : I 0 S)
    (hy : ∀ lp i S1, i < (allL (wY K.ys) (hY K.ys) f s l m).length → I i S1 → ∀ w1, Own (.loop lp N σ ps assign body .ready none :: S1) w1 → Yields Tryz.prog lp [.agg (stpE ((allL (wY K.ys) (hY K.ys) f s l m).getD i default)).toArray] (.loop lp N σ ps assign body .ready none :: S1) w1
      (fun v S2 => (v = .bool true ∧ ∃ S3, S2 = .loop lp N σ ps assign body .ready none :: S3 ∧ I (i + 1) S3) ∨ (v = .bool false ∧ ∃ c S3, S2 = .loop lp N σ ps assign body .done (some c) :: S3 ∧ D c S3)))
    (hn : ∀ d s1 S1, CaOk K.ys f K.room s1 (b + 1081600) → I (allL (wY K.ys) (hY K.ys) f s l m).length S1 → J N (mk d :: ds) w0 W σ (K.HC s1 S1 ++ .obj d (.deferred (some [])) :: R) (Q .normal))
    (hd : ∀ d c s1 S1, CaOk K.ys f K.room s1 (b + 1081600) → D c S1 → J N (mk d :: ds) w0 W σ (K.HC s1 S1 ++ .obj d (.deferred (some [])) :: R) (c.wpIn Fence.wide n Tryz.prog Q)) : J N ds w0 W σ H ((Code.rangeFunc g ps assign body).wpIn Fence.wide n Tryz.prog Q) :=
  c_allsG I D hx hs hF hk0 hb (fun x y w1 hw => hr.go hw (.cons (.here _ _) (hs.push1 y))) hm h0 hy hn hd
/-- The same, by a profile of one's own. -/
theorem c_allsO {n N : Nat} {ds : List Deferred} {w0 : World} {W : Nat → Prop} {σ : List (Nat × Value)} {H : List HE} {Q : Exit → Act → World → Prop} {g : Operand} {ps : Array Tmp} {assign body : Code} {gs gl gc gm : Nat} {K : CaT} {s0 : CaV} {f : List Int} {s : Sch} {Al : Option Addr} {cl : Nat} {l : List Smp} {m b : Int} {S R : List HE} (I : Nat → List HE → Prop) (D : Code → List HE → Prop)
    (hx : ev σ g = some (.func (.func 72) #[] #[.pointer (some ⟨gs, 0, none⟩), .pointer (some ⟨gl, 0, none⟩), .pointer (some ⟨gc, 0, none⟩), .pointer (some ⟨gm, 0, none⟩)])) (hs : Split H (ItH gs gl gc gm K s Al cl l m s0 S) R)
    (hF : CaF K.ys f K.room) (hk0 : CaOk K.ys f K.room s0 b) (hb : b ≤ 700000000000000000) (hr : ∃ T, Has R (.row (.slice Al l.length cl) 73 3 l.length (flat smpE l)) T) (hm : l.length ≤ 1000000) (h0 : I 0 S)
    (hy : ∀ lp i S1, i < (allL (wY K.ys) (hY K.ys) f s l m).length → I i S1 → ∀ w1, Own (.loop lp N σ ps assign body .ready none :: S1) w1 → Yields Tryz.prog lp [.agg (stpE ((allL (wY K.ys) (hY K.ys) f s l m).getD i default)).toArray] (.loop lp N σ ps assign body .ready none :: S1) w1
      (fun v S2 => (v = .bool true ∧ ∃ S3, S2 = .loop lp N σ ps assign body .ready none :: S3 ∧ I (i + 1) S3) ∨ (v = .bool false ∧ ∃ c S3, S2 = .loop lp N σ ps assign body .done (some c) :: S3 ∧ D c S3)))
    (hn : ∀ d s1 S1, CaOk K.ys f K.room s1 (b + 1081600) → I (allL (wY K.ys) (hY K.ys) f s l m).length S1 → J N (mk d :: ds) w0 W σ (K.HC s1 S1 ++ .obj d (.deferred (some [])) :: R) (Q .normal))
    (hd : ∀ d c s1 S1, CaOk K.ys f K.room s1 (b + 1081600) → D c S1 → J N (mk d :: ds) w0 W σ (K.HC s1 S1 ++ .obj d (.deferred (some [])) :: R) (c.wpIn Fence.wide n Tryz.prog Q)) : J N ds w0 W σ H ((Code.rangeFunc g ps assign body).wpIn Fence.wide n Tryz.prog Q) :=
  c_allsG I D hx hs hF hk0 hb (fun x y w1 hw => let ⟨_, h⟩ := hr; Ro.row hw (.cons (.here _ _) (hs.push1 y)) (.there y h)) hm h0 hy hn hd
set_option maxHeartbeats 128000000 in
theorem mbest_t (K : CaT) (s0 : CaV) (f : List Int) (s : Sch) (Al : Option Addr) (cl : Nat) (l : List Smp) (m away b : Int) (w : World) (hown : Own (K.H s0) w) (hF : CaF K.ys f K.room) (hk0 : CaOk K.ys f K.room s0 b) (hb : b ≤ 600000000000000000)
    (hr : RoA w (blocks (K.H s0)) Al l.length cl 3 (flat smpE l)) (hm : l.length ≤ 1000000) :
    Does Tryz.prog 14 [.pointer (some ⟨K.g, 0, none⟩), .agg (schE s).toArray, .slice Al l.length cl, .int .i64 m, .int .i64 away] (K.H s0) w
      (fun v S' => ∃ s', CaOk K.ys f K.room s' (b + 2163200) ∧ v = .tuple #[.agg (stpE (cbTo (allL (wY K.ys) (hY K.ys) f s l m) (allL (wY K.ys) (hY K.ys) f s l m).length)).toArray, .int .i64 (secTo (allL (wY K.ys) (hY K.ys) f s l m) (cbTo (allL (wY K.ys) (hY K.ys) f s l m) (allL (wY K.ys) (hY K.ys) f s l m).length) away (allL (wY K.ys) (hY K.ys) f s l m).length), .int .i64 (allL (wY K.ys) (hY K.ys) f s l m).length] ∧ S' = K.H s') := by
  have hall := fun i hi => allL_in (W := wY K.ys) (H := hY K.ys) (f := f) (s := s) (l := l) (m := m) (i := i) hi
  have hlen := allL_len (wY K.ys) (hY K.ys) f s l m
  have hcb := cbTo_in (fun i hi => ⟨(hall i hi).1, (hall i hi).2.1⟩)
  refine does_ofM Tryz.func14 rfl Tryz.ntmps14 rfl hown (fun n => ?_)
  simp only [slots]
  refine z_tas
  rename_i b6 b9 b10 b13 b14
  refine lf rfl rfl rfl (S := []) (fun w hw ho => all21_any K.g s Al l.length cl m w) ?_
  rintro v S' ⟨gs, gl, gc, gm, rfl, rfl⟩
  refine z_tas
  refine c_alls (K := K) (s0 := s0) (s := s) (m := m) (S := [.blk b13 43 [.int .i64 0, .int .i64 0, .int .i64 (-1)], .blk b14 3 [.int .i64 0]]) (fun i S => S = [.blk b13 43 (stpE (cbTo (allL (wY K.ys) (hY K.ys) f s l m) i)), .blk b14 3 [.int .i64 i]]) (fun _ _ => False) rfl Split.au hF hk0 (by omega) hr.h hm rfl ?_ ?_ ?_
  · rintro lp i S1 hi rfl w1 ho
    have hx := hall i hi
    have e := cbTo.eq_2 (allL (wY K.ys) (hY K.ys) f s l m) i
    dsimp only at hx
    generalize (allL (wY K.ys) (hY K.ys) f s l m).getD i default = x at *
    generalize hgc : cbTo (allL (wY K.ys) (hY K.ys) f s l m) i = cb at *
    refine yields_of (N := 67) ho rfl (by simp) (fun n => ?_)
    simp only [over]
    refine z_tas
    refine c_beg ?_
    refine z_tas
    · refine c_rnH (S' := [_, .blk b13 43 (stpE (cbTo (allL (wY K.ys) (hY K.ys) f s l m) (i + 1))), .blk b14 3 [.int .i64 ((i + 1 : Nat) : Int)]]) ?_ (.inl ⟨rfl, _, rfl, rfl⟩)
      rw [e, if_pos (.inl (by assumption)), show ((i + 1 : Nat) : Int) = (i : Int) + 1 by omega]
      exact Sub.au
    · refine c_rnH (S' := [_, .blk b13 43 (stpE (cbTo (allL (wY K.ys) (hY K.ys) f s l m) (i + 1))), .blk b14 3 [.int .i64 ((i + 1 : Nat) : Int)]]) ?_ (.inl ⟨rfl, _, rfl, rfl⟩)
      rw [e, if_pos (.inr (by assumption)), show ((i + 1 : Nat) : Int) = (i : Int) + 1 by omega]
      exact Sub.au
    · refine c_rnH (S' := [_, .blk b13 43 (stpE (cbTo (allL (wY K.ys) (hY K.ys) f s l m) (i + 1))), .blk b14 3 [.int .i64 ((i + 1 : Nat) : Int)]]) ?_ (.inl ⟨rfl, _, rfl, rfl⟩)
      rw [e, if_neg (by omega), show ((i + 1 : Nat) : Int) = (i : Int) + 1 by omega]
      exact Sub.au
  · rintro d s1 S1 hk1 rfl
    have hbest := hcb _ (Nat.le_refl _)
    obtain ⟨best, hbe⟩ : ∃ x, cbTo (allL (wY K.ys) (hY K.ys) f s l m) (allL (wY K.ys) (hY K.ys) f s l m).length = x := ⟨_, rfl⟩
    rw [hbe] at hbest ⊢
    refine z_tas
    rename_i b16
    refine lf rfl rfl rfl (S := []) (fun w hw ho => all21_any K.g s Al l.length cl m w) ?_
    rintro v S' ⟨gs2, gl2, gc2, gm2, rfl, rfl⟩
    refine z_tas
    refine c_alls (K := K) (s0 := s1) (s := s) (m := m) (S := [.blk b13 43 (stpE best), .blk b14 3 [.int .i64 (allL (wY K.ys) (hY K.ys) f s l m).length], .blk b9 3 [.int .i64 away], .blk b16 2 [.int .i64 (-1)]]) (fun i S => S = [.blk b13 43 (stpE best), .blk b14 3 [.int .i64 (allL (wY K.ys) (hY K.ys) f s l m).length], .blk b9 3 [.int .i64 away], .blk b16 2 [.int .i64 (secTo (allL (wY K.ys) (hY K.ys) f s l m) best away i)]]) (fun _ _ => False) rfl Split.au hF hk1 (by omega) hr.h hm rfl ?_ ?_ ?_
    · rintro lp i S1 hi rfl w1 ho
      have hx := hall i hi
      have e := secTo.eq_2 (allL (wY K.ys) (hY K.ys) f s l m) best away i
      dsimp only at hx
      generalize (allL (wY K.ys) (hY K.ys) f s l m).getD i default = x at *
      generalize hgs : secTo (allL (wY K.ys) (hY K.ys) f s l m) best away i = sc at *
      have hlp : (0 : Int) < (allL (wY K.ys) (hY K.ys) f s l m).length := by omega
      have hfc := far_cv x best away
      generalize farB x best away = fr at *
      refine yields_of (N := 67) ho rfl (by simp) (fun n => ?_)
      simp only [over]
      refine z_tas
      refine c_beg ?_
      refine z_tas
      all_goals
        refine c_rnH (S' := [_, .blk b13 43 (stpE best), .blk b14 3 [.int .i64 (allL (wY K.ys) (hY K.ys) f s l m).length], .blk b9 3 [.int .i64 away], .blk b16 2 [.int .i64 (secTo (allL (wY K.ys) (hY K.ys) f s l m) best away (i + 1))]]) ?_ (.inl ⟨rfl, _, rfl, rfl⟩)
        first
        | (rw [e, if_pos ⟨by assumption, by omega⟩]; exact Sub.au)
        | (rw [e, if_neg (by rintro ⟨h1, h2⟩; first | omega | contradiction)]; exact Sub.au)
    · rintro d2 s2 S2 hk2 rfl
      refine z_tas
      refine c_dvL [.blk b13 43 (stpE best), .blk b14 3 [.int .i64 (allL (wY K.ys) (hY K.ys) f s l m).length], .blk b16 2 [.int .i64 (secTo (allL (wY K.ys) (hY K.ys) f s l m) best away (allL (wY K.ys) (hY K.ys) f s l m).length)]] (0 :: 1 :: 2 :: 3 :: 4 :: 5 :: []) Sub.au ?_
      intro _
      refine z_govG
      refine j_outMS (Ds := [d2, d]) (S' := K.H s2) (S2 := K.HC s2 [.blk b10 43 (stpE best)]) ?_ ?_ ?_
      · show Sub (K.HC s2 [.blk b10 43 (stpE best), .obj d2 (.deferred (some [])), .obj d (.deferred (some []))]) _
        exact Sub.au
      · exact Sub.au
      · refine z_rk
        exact ⟨s2, hk2.mono (by omega), rfl, rfl⟩
    · rintro d2 c s2 S2 hk2 h
      exact h.elim
  · rintro d c s1 S1 hk1 h
    exact h.elim
end Go.Proofs.YtemmnpgebpffbaaGreat
/- Layer 21: what the statements' own check reckons: the plain part. -/
namespace Go.Proofs.YtemmnpgebpffbaaGreat
open Go.RowKit
def zF21 (i : Nat) : Int := 7 * ((i : Int) % 12) * ((i : Int) % 12) + 13 * ((i : Int) / 12) * ((i : Int) / 12) + 3 * ((i : Int) % 12) * ((i : Int) / 12)
def zTo21 : Nat → List Int
  | 0 => []
  | n + 1 => zTo21 n ++ [zF21 n]
theorem zTo21_len : ∀ n, (zTo21 n).length = n
  | 0 => rfl
  | n + 1 => by rw [zTo21, List.length_append, zTo21_len n]; rfl
def z21 : List Int := [0, 7, 28, 63, 112, 175, 252, 343, 448, 567, 700, 847, 13, 23, 47, 85, 137, 203, 283, 377, 485, 607, 743, 893, 52, 65, 92, 133, 188, 257, 340, 437, 548, 673, 812, 965, 117, 133, 163, 207, 265, 337, 423, 523, 637, 765, 907, 1063, 208, 227, 260, 307, 368, 443, 532, 635, 752, 883, 1028, 1187, 325, 347, 383, 433, 497, 575, 667, 773, 893, 1027, 1175, 1337, 468, 493, 532, 585, 652, 733, 828, 937, 1060, 1197, 1348, 1513, 637, 665, 707, 763, 833, 917, 1015, 1127, 1253, 1393, 1547, 1715, 832, 863, 908, 967, 1040, 1127, 1228, 1343, 1472, 1615, 1772, 1943, 1053, 1087, 1135, 1197, 1273, 1363, 1467, 1585, 1717, 1863, 2023, 2197, 1300, 1337, 1388, 1453, 1532, 1625, 1732, 1853, 1988, 2137, 2300, 2477, 1573, 1613, 1667, 1735, 1817, 1913, 2023, 2147, 2285, 2437, 2603, 2783]
theorem zTo21_all : zTo21 144 = z21 := by decide +kernel
theorem z21_in : In16 z21 := in16_of (by decide +kernel)

def l21 : List Smp := [⟨0, 0, 4912⟩, ⟨256, 0, 5888⟩]
def s21 : Sch := ⟨1280, 1280, 3, 256⟩
def L21 : List Stp := [⟨-3, -3, 25971200⟩, ⟨-2, -3, 16045056⟩, ⟨-1, -3, 6779392⟩, ⟨0, -3, 840704⟩, ⟨1, -3, 1497600⟩, ⟨2, -3, 12620800⟩, ⟨3, -3, 38683136⟩, ⟨-3, -2, 11944192⟩, ⟨-2, -2, 5275904⟩, ⟨-1, -2, 697600⟩, ⟨0, -2, 1004800⟩, ⟨1, -2, 9595136⟩, ⟨2, -2, 30468352⟩, ⟨3, -2, 68226304⟩, ⟨-3, -1, 1518080⟩, ⟨-2, -1, 0⟩, ⟨-1, -1, 2392576⟩, ⟨0, -1, 11620352⟩, ⟨1, -1, 31209984⟩, ⟨2, -1, 65290240⟩, ⟨3, -1, 118592000⟩, ⟨-3, 0, 2560256⟩, ⟨-2, 0, 8324352⟩, ⟨-1, 0, 20210944⟩, ⟨0, 0, 41273600⟩, ⟨1, 0, 75168000⟩, ⟨2, 0, 126151936⟩, ⟨3, 0, 199085312⟩, ⟨-3, 1, 25014784⟩, ⟨-2, 1, 40432640⟩, ⟨-1, 1, 64576000⟩, ⟨0, 1, 100627456⟩, ⟨1, 1, 152371712⟩, ⟨2, 1, 224195584⟩, ⟨3, 1, 321088000⟩, ⟨-3, 2, 80902400⟩, ⟨-2, 2, 108585216⟩, ⟨-1, 2, 147987712⟩, ⟨0, 2, 202421504⟩, ⟨1, 2, 275800320⟩, ⟨2, 2, 372640000⟩, ⟨3, 2, 498058496⟩, ⟨-3, 3, 184320512⟩, ⟨-2, 3, 227119104⟩, ⟨-1, 3, 285022720⟩, ⟨0, 3, 361472000⟩, ⟨1, 3, 460509696⟩, ⟨2, 3, 586780672⟩, ⟨3, 3, 745531904⟩]
theorem chk21_w : chk21 s21 l21 = 0 := by decide +kernel
theorem chk21_n : chk21 s21 [] = 5 := by decide +kernel
theorem w21_h1 : heightT 12 12 z21 768 1024 = 4912 ∧ codeF 12 12 z21 768 1024 = 0 := by decide +kernel
theorem w21_h2 : heightT 12 12 z21 1024 1024 = 5888 ∧ codeF 12 12 z21 1024 1024 = 0 := by decide +kernel
theorem w21_all : allL 12 12 z21 s21 l21 1 = L21 := by kernel_rfl
theorem w21_n : (allL 12 12 z21 s21 l21 0).length = 49 := by decide +kernel
theorem w21_b : cbTo L21 L21.length = ⟨-2, -1, 0⟩ := by kernel_rfl
theorem w21_s : secTo L21 ⟨-2, -1, 0⟩ 1 L21.length = 840704 := by decide +kernel
theorem w21_on : onTo 12 12 z21 768 1024 l21 l21.length = true := by decide +kernel
theorem w21_ap : apTo 12 12 z21 768 1024 l21 l21.length = [0, 0] := by decide +kernel
theorem w21_c1 : costF [3, -5] 2 1 2 10 = (16, 0) := by decide +kernel
theorem w21_c2 : costF [3, -5] 1 1 2 10 = (34, 0) := by decide +kernel
theorem w21_c3 : costF [] 4 1 2 10 = (0, 1) := by decide +kernel
end Go.Proofs.YtemmnpgebpffbaaGreat
