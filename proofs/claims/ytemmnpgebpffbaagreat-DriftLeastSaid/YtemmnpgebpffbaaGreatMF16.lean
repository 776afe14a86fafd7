
import Derived.Test.YtemmnpgebpffbaaGreatMF15
set_option linter.unusedVariables false
set_option linter.unusedSimpArgs false
/- Package drift: the trellis grows. -/
namespace Go.Proofs.YtemmnpgebpffbaaGreat
open Go.RowKit
/-- Many orders join: what holds at the join. -/
theorem c_joinE {F : Fence} {n : Nat} {P : Program} {N : Nat} {ds : List Deferred} {w0 : World} {W : Nat → Prop} {σ : List (Nat × Value)} {H : List HE} {K : Act → World → Prop} {Q : Exit → Act → World → Prop} {x : Code} {X : Type} (R : X → Prop) (σI : X → List (Nat × Value)) (HI : X → List HE)
    (hx : J N ds w0 W σ H (x.wpIn F n P (Exit.then (fun a w => ∃ z, R z ∧ True ∧ Tm N ds (σI z) a ∧ St w0 W (HI z) w) Q))) (hy : ∀ z, R z → J N ds w0 W (σI z) (HI z) K) : J N ds w0 W σ H (x.wpIn F n P (Exit.then K Q)) :=
  hx.mono fun a w h => wpIn_mono h (by
    rintro e a w h
    cases e with
    | normal => obtain ⟨z, h1, -, h2, h3⟩ := h; exact hy z h1 a w h2 h3
    | _ => exact h)
theorem tre_zero (t far : Int) (N : Nat) (cst : Nat → Nat → Int) (a : Nat) : tre t far N cst 0 a = (cst 0 a, -1) ∨ cst 0 a = -1 := by
  by_cases h : cst 0 a = -1
  · exact .inr h
  · left
    show cellT t far N none (cst 0 a) a = _
    unfold cellT
    rw [if_neg h]
theorem tre_none (t far : Int) (N : Nat) (cst : Nat → Nat → Int) (n a : Nat) (h : cst n a = -1) : tre t far N cst n a = (-1, -1) := by
  cases n with
  | zero => show cellT t far N none (cst 0 a) a = _; unfold cellT; rw [if_pos h]
  | succ n => show cellT t far N _ (cst (n + 1) a) a = _; unfold cellT; rw [if_pos h]
theorem tre_first (t far : Int) (N : Nat) (cst : Nat → Nat → Int) (a : Nat) (h : cst 0 a ≠ -1) : tre t far N cst 0 a = (cst 0 a, -1) := by
  show cellT t far N none (cst 0 a) a = _; unfold cellT; rw [if_neg h]
theorem tre_next (t far : Int) (N : Nat) (cst : Nat → Nat → Int) (n a : Nat) (h : cst (n + 1) a ≠ -1) : tre t far N cst (n + 1) a = growTo t far (fun k => (tre t far N cst n k).1) (cst (n + 1) a) a N := by
  show cellT t far N _ (cst (n + 1) a) a = _; unfold cellT; rw [if_neg h]
theorem trn_bnd {t p1 p2 q1 q2 : Int} (hp : (-8 ≤ p1 ∧ p1 ≤ 8) ∧ (-8 ≤ p2 ∧ p2 ≤ 8)) (hq : (-8 ≤ q1 ∧ q1 ≤ 8) ∧ (-8 ≤ q2 ∧ q2 ≤ 8)) (ht : 0 ≤ t ∧ t ≤ 1048576) : 0 ≤ (trnF t (p1, p2) (q1, q2)).1 ∧ (trnF t (p1, p2) (q1, q2)).1 ≤ 134217728 := by
  unfold trnF absD
  dsimp only
  have h1 : 0 ≤ max (p1 - q1) (q1 - p1) + max (p2 - q2) (q2 - p2) ∧ max (p1 - q1) (q1 - p1) + max (p2 - q2) (q2 - p2) ≤ 128 := by omega
  have := mulB 128 1048576 (a := max (p1 - q1) (q1 - p1) + max (p2 - q2) (q2 - p2)) (b := t) (by omega) (by omega)
  have := Int.mul_nonneg h1.1 ht.1
  omega
theorem trn_two {t : Int} {p q : Int × Int} (ht : 0 ≤ t ∧ t ≤ 1048576) (h : (trnF t p q).2 = true) : 0 ≤ (trnF t p q).1 ∧ (trnF t p q).1 ≤ 2097152 := by
  unfold trnF absD at h ⊢
  dsimp only at h ⊢
  have h := of_decide_eq_true h
  have h1 : 0 ≤ max (p.1 - q.1) (q.1 - p.1) + max (p.2 - q.2) (q.2 - p.2) ∧ max (p.1 - q.1) (q.1 - p.1) + max (p.2 - q.2) (q.2 - p.2) ≤ 2 := by omega
  have := mulB 2 1048576 (a := max (p.1 - q.1) (q.1 - p.1) + max (p.2 - q.2) (q.2 - p.2)) (b := t) (by omega) (by omega)
  have := Int.mul_nonneg h1.1 ht.1
  omega
theorem grow_bnd {t far : Int} {last : Nat → Int} {c : Int} {a : Nat} {B : Int} (ht : 0 ≤ t ∧ t ≤ 1048576) (hB : 0 ≤ B) (hl : ∀ k, -1 ≤ last k ∧ last k ≤ B) (hc : 0 ≤ c ∧ c ≤ 8388608) : ∀ n, -1 ≤ (growTo t far last c a n).1 ∧ (growTo t far last c a n).1 ≤ B + 10485760
  | 0 => by show (-1 : Int) ≤ -1 ∧ (-1 : Int) ≤ B + 10485760; omega
  | n + 1 => by
    have ih := grow_bnd (far := far) (a := a) ht hB hl hc n
    rw [growTo]
    split
    · exact ih
    · rename_i h1
      have h2 : (trnF t (pS far n) (pS far a)).2 = true := by
        cases h3 : (trnF t (pS far n) (pS far a)).2 with
        | true => rfl
        | false => exact absurd (.inl h3) h1
      have h3 := trn_two ht h2
      have h4 := hl n
      split
      · show -1 ≤ last n + (trnF t (pS far n) (pS far a)).1 + c ∧ _
        have : last n ≠ -1 := fun e => h1 (.inr e)
        dsimp only
        omega
      · exact ih
theorem tre_bnd {t far : Int} {N : Nat} {cst : Nat → Nat → Int} (ht : 0 ≤ t ∧ t ≤ 1048576) (hc : ∀ n a, -1 ≤ cst n a ∧ cst n a ≤ 8388608) : ∀ n a, -1 ≤ (tre t far N cst n a).1 ∧ (tre t far N cst n a).1 ≤ 10485760 * ((n : Int) + 1)
  | 0, a => by
    have := hc 0 a
    by_cases h : cst 0 a = -1
    · rw [tre_none t far N cst 0 a h]; dsimp only; omega
    · rw [tre_first t far N cst a h]; dsimp only; omega
  | n + 1, a => by
    have := hc (n + 1) a
    by_cases h : cst (n + 1) a = -1
    · rw [tre_none t far N cst (n + 1) a h]; dsimp only; omega
    · rw [tre_next t far N cst n a h]
      have := grow_bnd (far := far) (last := fun k => (tre t far N cst n k).1) (a := a) (c := cst (n + 1) a) (B := 10485760 * ((n : Int) + 1)) ht (by omega) (fun k => tre_bnd ht hc n k) (by omega) N
      omega
/-- What the trellis' costs may be. -/
def CstOk (cst : Nat → Nat → Int) : Prop := ∀ n a, -1 ≤ cst n a ∧ cst n a ≤ 8388608
theorem has_swap {H R R' : List HE} {x y : HE} (h : Has H x R) : Has R y R' → ∃ R2, Has H y R2 ∧ Has R2 x R' := by
  induction h generalizing R' with
  | here x R => exact fun hy => ⟨x :: R', .there x hy, .here x R'⟩
  | there z h ih =>
    rename_i H1 x R1
    intro hy
    cases hy with
    | here => exact ⟨H1, .here _ _, h⟩
    | there _ hy =>
      obtain ⟨R2, h1, h2⟩ := ih hy
      exact ⟨z :: R2, .there z h1, .there z h2⟩
theorem sub_last {x : HE} : ∀ {S H R : List HE}, Has H x R → Sub S R → Sub (S ++ [x]) H
  | [], _, _, h, _ => .cons h (.nil _)
  | y :: S, H, R, h, hs => by
    cases hs with
    | cons hy hs =>
      obtain ⟨R2, h1, h2⟩ := has_swap h hy
      exact .cons h1 (sub_last h2 hs)
theorem sub_end {S H : List HE} {d : Nat} (h : Sub (.obj d (.deferred (some [])) :: S) H) : Sub (S ++ marksH [d]) H := by
  cases h with
  | cons h hs => exact sub_last h hs
attribute [local irreducible] OJ J HdJ Code.wpIn wpListIn Oper.wpIn bodyPost CallsIn Does
set_option maxRecDepth 4000
set_option maxHeartbeats 256000000 in
theorem grow_t (tb : Nat) (s : Sch) (t : Int) (Ac : Option Addr) (kc : Nat) (Ab : Option Addr) (kb : Nat) (cst : Nat → Nat → Int) (rs : List (Nat × Nat)) (Ak : Option Addr) (ck : Nat) (w : World) (N : Nat) (hN : N = sideN s.far * sideN s.far) (hf : 0 ≤ s.far ∧ s.far ≤ 8) (ht : 0 ≤ t ∧ t ≤ 1048576) (h64 : rs.length < 64)
    (hown : Own (TrH tb s t Ac kc Ab kb (tre t s.far N cst) N rs) w) (hr : RoA w (blocks (TrH tb s t Ac kc Ab kb (tre t s.far N cst) N rs)) Ak N ck 1 (ints .i64 (tab (cst rs.length) N))) (hc : CstOk cst) :
    Does Tryz.prog 49 [.pointer (some ⟨tb, 0, none⟩), .slice Ak N ck] (TrH tb s t Ac kc Ab kb (tre t s.far N cst) N rs) w
      (fun v S' => v = .tuple #[] ∧ ∃ bc bb Ac' kc2 Ab' kb2, S' = TrH tb s t Ac' kc2 Ab' kb2 (tre t s.far N cst) N ((bc, bb) :: rs)) := by
  have hss : sideN s.far * sideN s.far ≤ 289 := Nat.mul_le_mul (show sideN s.far ≤ 17 by unfold sideN; omega) (show sideN s.far ≤ 17 by unfold sideN; omega)
  have hN0 : 0 < N := by rw [hN]; exact Nat.mul_pos (by unfold sideN; omega) (by unfold sideN; omega)
  refine does_ofM Tryz.func49 rfl Tryz.ntmps49 rfl hown (fun _ => ?_)
  simp only [slots]
  refine z_tas
  rename_i b2 b3
  refine c_joinE (X := Nat × Nat × Nat × Nat) (fun _ => True) (fun q => [(2, .pointer (some ⟨b2, 0, none⟩)), (3, .pointer (some ⟨b3, 0, none⟩)), (4, .pointer (some ⟨q.1, 0, none⟩)), (5, .pointer (some ⟨q.2.1, 0, none⟩))])
    (fun q => .blk b2 96 [.pointer (some ⟨tb, 0, none⟩)] :: .blk b3 58 [.slice Ak N ck] :: .blk q.1 58 [.slice (some ⟨q.2.2.1, 0, none⟩) N N] :: .blk q.2.1 106 [.slice (some ⟨q.2.2.2, 0, none⟩) N N] :: .row (.slice (some ⟨q.2.2.1, 0, none⟩) N N) 2 1 N (ints .i64 (List.replicate N 0)) :: .row (.slice (some ⟨q.2.2.2, 0, none⟩) N N) 3 1 N (ints .i64 (List.replicate N 0)) :: TrH tb s t Ac kc Ab kb (tre t s.far N cst) N rs) ?_ ?_
  · refine c_dvL [.blk b3 58 [.slice Ak N ck]] (0 :: 1 :: 2 :: 3 :: 4 :: 5 :: 6 :: 7 :: 8 :: 9 :: []) Sub.au ?_
    intro _
    refine z_gvs
    all_goals
      rename_i x1 x2 x3 x4
      first
      | exact c_round (x1, x2, x3, x4) trivial trivial ⟨rfl, rfl, rfl, rfl, trivial⟩ Sub.au
      | exact c_round (x1, x2, x4, x3) trivial trivial ⟨rfl, rfl, rfl, rfl, trivial⟩ Sub.au
      | exact c_round (x1, x3, x2, x4) trivial trivial ⟨rfl, rfl, rfl, rfl, trivial⟩ Sub.au
      | exact c_round (x1, x3, x4, x2) trivial trivial ⟨rfl, rfl, rfl, rfl, trivial⟩ Sub.au
      | exact c_round (x1, x4, x2, x3) trivial trivial ⟨rfl, rfl, rfl, rfl, trivial⟩ Sub.au
      | exact c_round (x1, x4, x3, x2) trivial trivial ⟨rfl, rfl, rfl, rfl, trivial⟩ Sub.au
      | exact c_round (x2, x1, x3, x4) trivial trivial ⟨rfl, rfl, rfl, rfl, trivial⟩ Sub.au
      | exact c_round (x2, x1, x4, x3) trivial trivial ⟨rfl, rfl, rfl, rfl, trivial⟩ Sub.au
      | exact c_round (x2, x3, x1, x4) trivial trivial ⟨rfl, rfl, rfl, rfl, trivial⟩ Sub.au
      | exact c_round (x2, x3, x4, x1) trivial trivial ⟨rfl, rfl, rfl, rfl, trivial⟩ Sub.au
      | exact c_round (x2, x4, x1, x3) trivial trivial ⟨rfl, rfl, rfl, rfl, trivial⟩ Sub.au
      | exact c_round (x2, x4, x3, x1) trivial trivial ⟨rfl, rfl, rfl, rfl, trivial⟩ Sub.au
      | exact c_round (x3, x1, x2, x4) trivial trivial ⟨rfl, rfl, rfl, rfl, trivial⟩ Sub.au
      | exact c_round (x3, x1, x4, x2) trivial trivial ⟨rfl, rfl, rfl, rfl, trivial⟩ Sub.au
      | exact c_round (x3, x2, x1, x4) trivial trivial ⟨rfl, rfl, rfl, rfl, trivial⟩ Sub.au
      | exact c_round (x3, x2, x4, x1) trivial trivial ⟨rfl, rfl, rfl, rfl, trivial⟩ Sub.au
      | exact c_round (x3, x4, x1, x2) trivial trivial ⟨rfl, rfl, rfl, rfl, trivial⟩ Sub.au
      | exact c_round (x3, x4, x2, x1) trivial trivial ⟨rfl, rfl, rfl, rfl, trivial⟩ Sub.au
      | exact c_round (x4, x1, x2, x3) trivial trivial ⟨rfl, rfl, rfl, rfl, trivial⟩ Sub.au
      | exact c_round (x4, x1, x3, x2) trivial trivial ⟨rfl, rfl, rfl, rfl, trivial⟩ Sub.au
      | exact c_round (x4, x2, x1, x3) trivial trivial ⟨rfl, rfl, rfl, rfl, trivial⟩ Sub.au
      | exact c_round (x4, x2, x3, x1) trivial trivial ⟨rfl, rfl, rfl, rfl, trivial⟩ Sub.au
      | exact c_round (x4, x3, x1, x2) trivial trivial ⟨rfl, rfl, rfl, rfl, trivial⟩ Sub.au
      | exact c_round (x4, x3, x2, x1) trivial trivial ⟨rfl, rfl, rfl, rfl, trivial⟩ Sub.au
  · rintro ⟨b4, b5, rc, rb⟩ -
    dsimp only
    refine z_tas
    refine lf rfl rfl rfl (S := []) (fun w hw ho => steps_any s w) ?_
    rintro v S' ⟨gs, rfl, rfl⟩
    refine z_tas
    refine c_steps (s := s) (S := .blk b2 96 [.pointer (some ⟨tb, 0, none⟩)] :: .blk b3 58 [.slice Ak N ck] :: .blk b4 58 [.slice (some ⟨rc, 0, none⟩) N N] :: .blk b5 106 [.slice (some ⟨rb, 0, none⟩) N N] :: .row (.slice (some ⟨rc, 0, none⟩) N N) 2 1 N (ints .i64 (List.replicate N 0)) :: .row (.slice (some ⟨rb, 0, none⟩) N N) 3 1 N (ints .i64 (List.replicate N 0)) :: .blk tb 100 (trlE s t Ac kc Ab kb rs.length) :: .row (.slice Ac rs.length kc) 58 1 rs.length (flat (slE N) (rs.reverse.map (·.1))) :: .row (.slice Ab rs.length kb) 106 1 rs.length (flat (slE N) (rs.reverse.map (·.2))) :: rowsT (tre t s.far N cst) N rs) (fun i S => S = .blk b2 96 [.pointer (some ⟨tb, 0, none⟩)] :: .blk b3 58 [.slice Ak N ck] :: .blk b4 58 [.slice (some ⟨rc, 0, none⟩) N N] :: .blk b5 106 [.slice (some ⟨rb, 0, none⟩) N N] :: .row (.slice (some ⟨rc, 0, none⟩) N N) 2 1 N (ints .i64 (prt (fun a => (tre t s.far N cst rs.length a).1) N i)) :: .row (.slice (some ⟨rb, 0, none⟩) N N) 3 1 N (ints .i64 (prt (fun a => (tre t s.far N cst rs.length a).2) N i)) :: .blk tb 100 (trlE s t Ac kc Ab kb rs.length) :: .row (.slice Ac rs.length kc) 58 1 rs.length (flat (slE N) (rs.reverse.map (·.1))) :: .row (.slice Ab rs.length kb) 106 1 rs.length (flat (slE N) (rs.reverse.map (·.2))) :: rowsT (tre t s.far N cst) N rs) (fun _ _ => False) rfl Split.au ⟨hf.1, by omega⟩ rfl ?_ ?_ ?_
    · rintro lp i S1 hi rfl w1 ho hro
      cases rs with
      | nil =>
        simp only [List.length_nil] at ho hro hr ⊢
        have hfs := tre_first t s.far N cst i
        rw [← hN] at hi
        have hr1 := (⟨hro _ _ _ _ hr.h⟩ : RoA w1 _ Ak N ck 1 (ints .i64 (tab (cst 0) N)))
        obtain ⟨bK, oK, rfl, hK⟩ := hr1.at_ hN0
        have hcv := tab_get (cst 0) hi
        have htl := tab_len (cst 0) N
        have hca := hc 0 i
        have e1 := prt_set (fun a => (tre t s.far N cst 0 a).1) hi
        have e2 := prt_set (fun a => (tre t s.far N cst 0 a).2) hi
        have hl1 := prt_len (fun a => (tre t s.far N cst 0 a).1) (Nat.le_of_lt hi)
        have hl2 := prt_len (fun a => (tre t s.far N cst 0 a).2) (Nat.le_of_lt hi)
        have hn := tre_none t s.far N cst 0 i
        show Yields _ _ [.int .i64 i, .agg #[.int .i64 (pS s.far i).1, .int .i64 (pS s.far i).2]] _ _ _
        generalize hg1 : prt (fun a => (tre t s.far N cst 0 a).1) N i = l1 at *
        generalize hg2 : prt (fun a => (tre t s.far N cst 0 a).2) N i = l2 at *
        have hs1 : (l1.set i (-1)).length = N := by rw [List.length_set]; exact hl1
        have hs2 : (l2.set i (-1)).length = N := by rw [List.length_set]; exact hl2
        refine yields_of (N := 141) ho rfl (by simp) (fun _ => ?_)
        simp only [over]
        refine z_tas
        refine c_beg ?_
        refine z_tas
        rename_i b6 b7
        refine c_dvL [.blk b4 58 [.slice (some ⟨rc, 0, none⟩) N N], .blk b5 106 [.slice (some ⟨rb, 0, none⟩) N N], .blk b6 3 [.int .i64 i]] (0 :: 1 :: 2 :: 3 :: 4 :: 5 :: 6 :: 7 :: []) Sub.au ?_
        intro _
        refine z_govG
        · rename_i h
          rw [hcv] at h
          rw [hn h] at e1 e2
          refine c_rnH (S' := _ :: .blk b2 96 [.pointer (some ⟨tb, 0, none⟩)] :: .blk b3 58 [.slice (some ⟨bK, oK, none⟩) N ck] :: .blk b4 58 [.slice (some ⟨rc, 0, none⟩) N N] :: .blk b5 106 [.slice (some ⟨rb, 0, none⟩) N N] :: .row (.slice (some ⟨rc, 0, none⟩) N N) 2 1 N (ints .i64 (prt (fun a => (tre t s.far N cst 0 a).1) N (i + 1))) :: .row (.slice (some ⟨rb, 0, none⟩) N N) 3 1 N (ints .i64 (prt (fun a => (tre t s.far N cst 0 a).2) N (i + 1))) :: .blk tb 100 (trlE s t Ac kc Ab kb 0) :: .row (.slice Ac 0 kc) 58 1 0 (flat (slE N) (([] : List (Nat × Nat)).reverse.map (·.1))) :: .row (.slice Ab 0 kb) 106 1 0 (flat (slE N) (([] : List (Nat × Nat)).reverse.map (·.2))) :: []) ?_ (.inl ⟨rfl, _, rfl, rfl⟩)
          rw [← e1, ← e2]
          exact Sub.au
        · rename_i h
          rw [hcv] at h
          rw [hfs h] at e1 e2
          refine c_rnH (S' := _ :: .blk b2 96 [.pointer (some ⟨tb, 0, none⟩)] :: .blk b3 58 [.slice (some ⟨bK, oK, none⟩) N ck] :: .blk b4 58 [.slice (some ⟨rc, 0, none⟩) N N] :: .blk b5 106 [.slice (some ⟨rb, 0, none⟩) N N] :: .row (.slice (some ⟨rc, 0, none⟩) N N) 2 1 N (ints .i64 (prt (fun a => (tre t s.far N cst 0 a).1) N (i + 1))) :: .row (.slice (some ⟨rb, 0, none⟩) N N) 3 1 N (ints .i64 (prt (fun a => (tre t s.far N cst 0 a).2) N (i + 1))) :: .blk tb 100 (trlE s t Ac kc Ab kb 0) :: .row (.slice Ac 0 kc) 58 1 0 (flat (slE N) (([] : List (Nat × Nat)).reverse.map (·.1))) :: .row (.slice Ab 0 kb) 106 1 0 (flat (slE N) (([] : List (Nat × Nat)).reverse.map (·.2))) :: []) ?_ (.inl ⟨rfl, _, rfl, rfl⟩)
          rw [← e1, ← e2, hcv, List.set_set]
          exact Sub.au
      | cons p r =>
        simp only [rowsT, List.length_cons] at ho hro hr h64 ⊢
        have hnx := tre_next t s.far N cst r.length i
        have iLast := slE_last N (·.1) p r
        rw [← hN] at hi
        have hr1 := (⟨hro _ _ _ _ hr.h⟩ : RoA w1 _ Ak N ck 1 (ints .i64 (tab (cst (r.length + 1)) N)))
        obtain ⟨bK, oK, rfl, hK⟩ := hr1.at_ hN0
        have hcv := tab_get (cst (r.length + 1)) hi
        have htl := tab_len (cst (r.length + 1)) N
        have hca := hc (r.length + 1) i
        have e1 := prt_set (fun a => (tre t s.far N cst (r.length + 1) a).1) hi
        have e2 := prt_set (fun a => (tre t s.far N cst (r.length + 1) a).2) hi
        have hl1 := prt_len (fun a => (tre t s.far N cst (r.length + 1) a).1) (Nat.le_of_lt hi)
        have hl2 := prt_len (fun a => (tre t s.far N cst (r.length + 1) a).2) (Nat.le_of_lt hi)
        have hn := tre_none t s.far N cst (r.length + 1) i
        show Yields _ _ [.int .i64 i, .agg #[.int .i64 (pS s.far i).1, .int .i64 (pS s.far i).2]] _ _ _
        generalize hg1 : prt (fun a => (tre t s.far N cst (r.length + 1) a).1) N i = l1 at *
        generalize hg2 : prt (fun a => (tre t s.far N cst (r.length + 1) a).2) N i = l2 at *
        have hs1 : (l1.set i (-1)).length = N := by rw [List.length_set]; exact hl1
        have hs2 : (l2.set i (-1)).length = N := by rw [List.length_set]; exact hl2
        refine yields_of (N := 141) ho rfl (by simp) (fun _ => ?_)
        simp only [over]
        refine j_opn (A := Ac) (m := r.length + 1) (cc := kc) (by omega) (fun ga hga => ?_)
        subst hga
        refine z_tas
        refine c_beg ?_
        refine z_tas
        rename_i b6 b7
        refine c_dvL [.blk b4 58 [.slice (some ⟨rc, 0, none⟩) N N], .blk b5 106 [.slice (some ⟨rb, 0, none⟩) N N], .blk b6 3 [.int .i64 i]] (0 :: 1 :: 2 :: 3 :: 4 :: 5 :: 6 :: 7 :: []) Sub.au ?_
        intro _
        refine z_govG
        · rename_i h
          rw [hcv] at h
          rw [hn h] at e1 e2
          refine c_rnH (S' := _ :: .blk b2 96 [.pointer (some ⟨tb, 0, none⟩)] :: .blk b3 58 [.slice (some ⟨bK, oK, none⟩) N ck] :: .blk b4 58 [.slice (some ⟨rc, 0, none⟩) N N] :: .blk b5 106 [.slice (some ⟨rb, 0, none⟩) N N] :: .row (.slice (some ⟨rc, 0, none⟩) N N) 2 1 N (ints .i64 (prt (fun a => (tre t s.far N cst (r.length + 1) a).1) N (i + 1))) :: .row (.slice (some ⟨rb, 0, none⟩) N N) 3 1 N (ints .i64 (prt (fun a => (tre t s.far N cst (r.length + 1) a).2) N (i + 1))) :: .blk tb 100 (trlE s t (some ⟨ga, 0, none⟩) kc Ab kb (r.length + 1)) :: .row (.slice (some ⟨ga, 0, none⟩) (r.length + 1) kc) 58 1 (r.length + 1) (flat (slE N) ((p :: r).reverse.map (·.1))) :: .row (.slice Ab (r.length + 1) kb) 106 1 (r.length + 1) (flat (slE N) ((p :: r).reverse.map (·.2))) :: .row (.slice (some ⟨p.1, 0, none⟩) N N) 2 1 N (ints .i64 (tab (fun a => (tre t s.far N cst r.length a).1) N)) :: .row (.slice (some ⟨p.2, 0, none⟩) N N) 3 1 N (ints .i64 (tab (fun a => (tre t s.far N cst r.length a).2) N)) :: rowsT (tre t s.far N cst) N r) ?_ (.inl ⟨rfl, _, rfl, rfl⟩)
          rw [← e1, ← e2]
          exact Sub.au
        · rename_i h
          rw [hcv] at h
          refine c_dvL [.blk b2 96 [.pointer (some ⟨tb, 0, none⟩)], .blk tb 100 (trlE s t (some ⟨ga, 0, none⟩) kc Ab kb (r.length + 1)), .row (.slice (some ⟨ga, 0, none⟩) (r.length + 1) kc) 58 1 (r.length + 1) (flat (slE N) ((p :: r).reverse.map (·.1)))] (0 :: 1 :: 2 :: 3 :: 4 :: 5 :: 6 :: 7 :: 8 :: 9 :: 10 :: 11 :: 12 :: 13 :: []) Sub.au ?_
          intro _
          refine z_govG
          rename_i b8
          refine lf rfl rfl rfl (S := []) (fun w hw ho => steps_any s w) ?_
          rintro v S' ⟨gs2, rfl, rfl⟩
          refine z_tas
          refine c_stepsIn (s := s) (S := [.blk b2 96 [.pointer (some ⟨tb, 0, none⟩)], .blk b3 58 [.slice (some ⟨bK, oK, none⟩) N ck], .blk b4 58 [.slice (some ⟨rc, 0, none⟩) N N], .blk b5 106 [.slice (some ⟨rb, 0, none⟩) N N], .blk b6 3 [.int .i64 i], .blk b7 94 [.int .i64 (pS s.far i).1, .int .i64 (pS s.far i).2], .blk b8 58 [.slice (some ⟨p.1, 0, none⟩) N N], .row (.slice (some ⟨rc, 0, none⟩) N N) 2 1 N (ints .i64 (l1.set i (-1))), .row (.slice (some ⟨rb, 0, none⟩) N N) 3 1 N (ints .i64 (l2.set i (-1))), .blk tb 100 (trlE s t (some ⟨ga, 0, none⟩) kc Ab kb (r.length + 1)), .row (.slice (some ⟨p.1, 0, none⟩) N N) 2 1 N (ints .i64 (tab (fun a => (tre t s.far N cst r.length a).1) N))]) (fun k S => S = [.blk b2 96 [.pointer (some ⟨tb, 0, none⟩)], .blk b3 58 [.slice (some ⟨bK, oK, none⟩) N ck], .blk b4 58 [.slice (some ⟨rc, 0, none⟩) N N], .blk b5 106 [.slice (some ⟨rb, 0, none⟩) N N], .blk b6 3 [.int .i64 i], .blk b7 94 [.int .i64 (pS s.far i).1, .int .i64 (pS s.far i).2], .blk b8 58 [.slice (some ⟨p.1, 0, none⟩) N N], .row (.slice (some ⟨rc, 0, none⟩) N N) 2 1 N (ints .i64 (l1.set i (growTo t s.far (fun k => (tre t s.far N cst r.length k).1) (cst (r.length + 1) i) i k).1)), .row (.slice (some ⟨rb, 0, none⟩) N N) 3 1 N (ints .i64 (l2.set i (growTo t s.far (fun k => (tre t s.far N cst r.length k).1) (cst (r.length + 1) i) i k).2)), .blk tb 100 (trlE s t (some ⟨ga, 0, none⟩) kc Ab kb (r.length + 1)), .row (.slice (some ⟨p.1, 0, none⟩) N N) 2 1 N (ints .i64 (tab (fun a => (tre t s.far N cst r.length a).1) N))]) (fun _ _ => False) (by refine z_hs) rfl Split.au ⟨hf.1, by omega⟩ rfl ?_ ?_ ?_
          · rintro lp2 k S2 hk2 rfl w2 ho2 hro2
            rw [← hN] at hk2
            have hpk := pS_in hf.1 (show k < sideN s.far * sideN s.far by rw [← hN]; exact hk2)
            have hpi := pS_in hf.1 (show i < sideN s.far * sideN s.far by rw [← hN]; exact hi)
            have hr2 := (⟨hro2 _ _ _ _ hr1.h⟩ : RoA w2 _ (some ⟨bK, oK, none⟩) N ck 1 (ints .i64 (tab (cst (r.length + 1)) N)))
            obtain ⟨bK2, oK2, eK, hK2⟩ := hr2.at_ hN0
            injection eK with eK
            injection eK with eK1 eK2 _
            subst eK1 eK2
            have hlv := tab_get (fun a => (tre t s.far N cst r.length a).1) hk2
            have htl2 := tab_len (fun a => (tre t s.far N cst r.length a).1) N
            have htb := tre_bnd (far := s.far) (N := N) ht hc r.length k
            have e3 := growTo.eq_2 t s.far (fun k => (tre t s.far N cst r.length k).1) (cst (r.length + 1) i) i k
            have hgb := grow_bnd (far := s.far) (a := i) (c := cst (r.length + 1) i) (B := 10485760 * ((r.length : Int) + 1)) ht (by omega) (fun k => tre_bnd (far := s.far) (N := N) ht hc r.length k) (by omega) k
            rw [show k.succ = k + 1 from rfl] at e3
            (try dsimp only at hlv); (try dsimp only at e3)
            generalize growTo t s.far (fun k => (tre t s.far N cst r.length k).1) (cst (r.length + 1) i) i (k + 1) = Gk at *
            generalize growTo t s.far (fun k => (tre t s.far N cst r.length k).1) (cst (r.length + 1) i) i k = G at *
            generalize (tre t s.far N cst r.length k).1 = lv at *
            generalize pS s.far k = pk at *
            generalize pS s.far i = qi at *
            obtain ⟨p1, p2⟩ := pk
            obtain ⟨q1, q2⟩ := qi
            obtain ⟨g1, g2⟩ := G
            (try dsimp only at hpk); (try dsimp only at hpi); (try dsimp only at e3); (try dsimp only at hgb)
            have htn := trn_bnd (t := t) (p1 := p1) (p2 := p2) (q1 := q1) (q2 := q2) (by omega) (by omega) ht
            have itn := turned_cv p1 p2 q1 q2 t
            generalize trnF t (p1, p2) (q1, q2) = tr at *
            obtain ⟨m, ok⟩ := tr
            (try dsimp only at htn); (try dsimp only at itn); (try dsimp only at e3)
            have iE : Elem (ints .i64 (l1.set i g1)) i (.int .i64 g1) True := ⟨fun _ => by simp [ints, hl1, hi]⟩
            have iL : Elem (ints .i64 (tab (fun a => (tre t s.far N cst r.length a).1) N)) k (.int .i64 lv) True := ⟨fun _ => by
              have hk3 : k < (tab (fun a => (tre t s.far N cst r.length a).1) N).length := by rw [htl2]; exact hk2
              rw [List.getD_eq_getElem?_getD, List.getElem?_eq_getElem hk3, Option.getD_some] at hlv
              simp only [ints, List.getElem?_map, List.getElem?_eq_getElem hk3, Option.map_some, hlv]⟩
            have iC : Elem (ints .i64 (tab (cst (r.length + 1)) N)) i (.int .i64 (cst (r.length + 1) i)) True := ⟨fun _ => by
              have hk3 : i < (tab (cst (r.length + 1)) N).length := by rw [htl]; exact hi
              rw [List.getD_eq_getElem?_getD, List.getElem?_eq_getElem hk3, Option.getD_some] at hcv
              simp only [ints, List.getElem?_map, List.getElem?_eq_getElem hk3, Option.map_some, hcv]⟩
            have hs3 : (l1.set i g1).length = N := by rw [List.length_set]; exact hl1
            have hs4 : (l2.set i g2).length = N := by rw [List.length_set]; exact hl2
            clear hro hro2 iLast
            generalize hcc : cst (r.length + 1) i = cI at *
            show Yields _ _ [.int .i64 k, .agg #[.int .i64 p1, .int .i64 p2]] _ _ _
            refine yields_of (N := 141) ho2 rfl (by simp) (fun _ => ?_)
            simp only [over]
            refine z_tas
            refine c_beg ?_
            refine z_tas
            all_goals try (refine c_dv (0 :: 1 :: 2 :: 3 :: 4 :: 5 :: 6 :: 7 :: 8 :: 9 :: 10 :: 11 :: []) ?_; intro _)
            all_goals try (refine z_govG)
            all_goals try (refine c_dvL [.blk b4 58 [.slice (some ⟨rc, 0, none⟩) N N], .blk b5 106 [.slice (some ⟨rb, 0, none⟩) N N], .blk b6 3 [.int .i64 i]] (0 :: 1 :: 2 :: 3 :: 4 :: 5 :: 6 :: 7 :: 8 :: 9 :: []) Sub.au ?_; intro _; refine z_govG)
            all_goals refine c_rnH (S' := [_, .blk b2 96 [.pointer (some ⟨tb, 0, none⟩)], .blk b3 58 [.slice (some ⟨bK, oK, none⟩) N ck], .blk b4 58 [.slice (some ⟨rc, 0, none⟩) N N], .blk b5 106 [.slice (some ⟨rb, 0, none⟩) N N], .blk b6 3 [.int .i64 i], .blk b7 94 [.int .i64 q1, .int .i64 q2], .blk b8 58 [.slice (some ⟨p.1, 0, none⟩) N N], .row (.slice (some ⟨rc, 0, none⟩) N N) 2 1 N (ints .i64 (l1.set i Gk.1)), .row (.slice (some ⟨rb, 0, none⟩) N N) 3 1 N (ints .i64 (l2.set i Gk.2)), .blk tb 100 (trlE s t (some ⟨ga, 0, none⟩) kc Ab kb (r.length + 1)), .row (.slice (some ⟨p.1, 0, none⟩) N N) 2 1 N (ints .i64 (tab (fun a => (tre t s.far N cst r.length a).1) N))]) ?_ (.inl ⟨rfl, _, rfl, rfl⟩)
            · have hk0 : ok = false := Bool.eq_false_iff.2 (by assumption)
              rw [e3, if_pos (.inl hk0)]
              exact Sub.au
            · rw [e3, if_pos (.inr (by assumption))]
              exact Sub.au
            · have hk0 : ok = true := Classical.not_not.1 (by assumption)
              have hg0 : g1 = -1 := by assumption
              rw [e3, if_neg (by rintro (hq | hq); · rw [hk0] at hq; cases hq
                                 · contradiction), if_pos (.inl hg0), List.set_set, List.set_set]
              exact Sub.au
            · have hk0 : ok = true := Classical.not_not.1 (by assumption)
              have hg0 : lv + m + cI < g1 := by assumption
              rw [e3, if_neg (by rintro (hq | hq); · rw [hk0] at hq; cases hq
                                 · contradiction), if_pos (.inr hg0), List.set_set, List.set_set]
              exact Sub.au
            · have hk0 : ok = true := Classical.not_not.1 (by assumption)
              rw [e3, if_neg (by rintro (hq | hq); · rw [hk0] at hq; cases hq
                                 · contradiction), if_neg (by rintro (hq | hq) <;> contradiction)]
              exact Sub.au
          · rintro S2 rfl
            rw [← hN]
            rw [hnx h] at e1 e2
            refine z_tas
            refine c_rnH (S' := _ :: .blk b2 96 [.pointer (some ⟨tb, 0, none⟩)] :: .blk b3 58 [.slice (some ⟨bK, oK, none⟩) N ck] :: .blk b4 58 [.slice (some ⟨rc, 0, none⟩) N N] :: .blk b5 106 [.slice (some ⟨rb, 0, none⟩) N N] :: .row (.slice (some ⟨rc, 0, none⟩) N N) 2 1 N (ints .i64 (prt (fun a => (tre t s.far N cst (r.length + 1) a).1) N (i + 1))) :: .row (.slice (some ⟨rb, 0, none⟩) N N) 3 1 N (ints .i64 (prt (fun a => (tre t s.far N cst (r.length + 1) a).2) N (i + 1))) :: .blk tb 100 (trlE s t (some ⟨ga, 0, none⟩) kc Ab kb (r.length + 1)) :: .row (.slice (some ⟨ga, 0, none⟩) (r.length + 1) kc) 58 1 (r.length + 1) (flat (slE N) ((p :: r).reverse.map (·.1))) :: .row (.slice Ab (r.length + 1) kb) 106 1 (r.length + 1) (flat (slE N) ((p :: r).reverse.map (·.2))) :: .row (.slice (some ⟨p.1, 0, none⟩) N N) 2 1 N (ints .i64 (tab (fun a => (tre t s.far N cst r.length a).1) N)) :: .row (.slice (some ⟨p.2, 0, none⟩) N N) 3 1 N (ints .i64 (tab (fun a => (tre t s.far N cst r.length a).2) N)) :: rowsT (tre t s.far N cst) N r) ?_ (.inl ⟨rfl, _, rfl, rfl⟩)
            rw [← e1, ← e2]
            exact Sub.au
          · rintro c S2 h
            exact h.elim
    · rintro d S1 rfl
      rw [← hN, prt_all, prt_all]
      obtain ⟨L1, hL1⟩ : ∃ L, L = rs.reverse.map (·.1) := ⟨_, rfl⟩
      obtain ⟨L2, hL2⟩ : ∃ L, L = rs.reverse.map (·.2) := ⟨_, rfl⟩
      have hm1 : L1.length = rs.length := by rw [hL1]; simp
      have hm2 : L2.length = rs.length := by rw [hL2]; simp
      have e5 : (L1 ++ [rc]).length = rs.length + 1 := by simp [hm1]
      have e6 : (L2 ++ [rb]).length = rs.length + 1 := by simp [hm2]
      rw [← hL1, ← hL2]
      refine j_swapT ?_
      refine j_app ?_
      refine j_perm (H' := .blk b2 96 [.pointer (some ⟨tb, 0, none⟩)] :: .blk b4 58 [.slice (some ⟨rc, 0, none⟩) N N] :: .blk b5 106 [.slice (some ⟨rb, 0, none⟩) N N] :: .row (.slice (some ⟨rc, 0, none⟩) N N) 2 1 N (ints .i64 (tab (fun a => (tre t s.far N cst rs.length a).1) N)) :: .row (.slice (some ⟨rb, 0, none⟩) N N) 3 1 N (ints .i64 (tab (fun a => (tre t s.far N cst rs.length a).2) N)) :: .obj d (.deferred (some [])) :: .blk tb 100 [.int .i64 s.x, .int .i64 s.y, .int .i64 s.far, .int .i64 s.step, .int .i64 t, .slice Ac L1.length kc, .slice Ab L2.length kb] :: .row (.slice Ac L1.length kc) 58 1 L1.length (flat (slE N) L1) :: .row (.slice Ab L2.length kb) 106 1 L2.length (flat (slE N) L2) :: rowsT (tre t s.far N cst) N rs) (by rw [hm1, hm2]; exact Sub.au) ?_
      refine z_tas
      refine c_dvL [.blk b2 96 [.pointer (some ⟨tb, 0, none⟩)], .blk b4 58 [.slice (some ⟨rc, 0, none⟩) N N], .blk b5 106 [.slice (some ⟨rb, 0, none⟩) N N]] (0 :: 1 :: 2 :: 3 :: 4 :: 5 :: 6 :: 7 :: 8 :: 9 :: 10 :: 11 :: 12 :: 13 :: 14 :: 15 :: 16 :: 17 :: 18 :: 19 :: 20 :: 21 :: []) Sub.au ?_
      intro _
      refine z_gvs
      all_goals first
        | (rename_i A1 c1 A2 c2; refine j_outM0 (Ds := [d]) (S' := TrH tb s t A1 c1 A2 c2 (tre t s.far N cst) N ((rc, rb) :: rs)) rfl ?_ ⟨rfl, _, _, _, _, _, _, rfl⟩ _ (by first | exact .inl rfl | exact .inr rfl); rw [e5, e6]; refine sub_end ?_; simp only [TrH, List.reverse_cons, List.map_append, List.map_cons, List.map_nil, List.length_cons, rowsT, ← hL1, ← hL2]; exact Sub.au)
        | (rename_i A1 c1 A2 c2; refine j_outM0 (Ds := [d]) (S' := TrH tb s t A2 c2 A1 c1 (tre t s.far N cst) N ((rc, rb) :: rs)) rfl ?_ ⟨rfl, _, _, _, _, _, _, rfl⟩ _ (by first | exact .inl rfl | exact .inr rfl); rw [e5, e6]; refine sub_end ?_; simp only [TrH, List.reverse_cons, List.map_append, List.map_cons, List.map_nil, List.length_cons, rowsT, ← hL1, ← hL2]; exact Sub.au)
        | (rename_i A1 c1 b9 A2 c2; refine j_outM0 (Ds := [d]) (S' := TrH tb s t A1 c1 A2 c2 (tre t s.far N cst) N ((rc, rb) :: rs)) rfl ?_ ⟨rfl, _, _, _, _, _, _, rfl⟩ _ (by first | exact .inl rfl | exact .inr rfl); rw [e5, e6]; refine sub_end ?_; simp only [TrH, List.reverse_cons, List.map_append, List.map_cons, List.map_nil, List.length_cons, rowsT, ← hL1, ← hL2]; exact Sub.au)
        | (rename_i A1 c1 b9 A2 c2; refine j_outM0 (Ds := [d]) (S' := TrH tb s t A2 c2 A1 c1 (tre t s.far N cst) N ((rc, rb) :: rs)) rfl ?_ ⟨rfl, _, _, _, _, _, _, rfl⟩ _ (by first | exact .inl rfl | exact .inr rfl); rw [e5, e6]; refine sub_end ?_; simp only [TrH, List.reverse_cons, List.map_append, List.map_cons, List.map_nil, List.length_cons, rowsT, ← hL1, ← hL2]; exact Sub.au)
    · rintro d c S1 h
      exact h.elim
end Go.Proofs.YtemmnpgebpffbaaGreat
/- Package drift: rows of steps. -/
namespace Go.Proofs.YtemmnpgebpffbaaGreat
open Go.RowKit
section
variable {P : Program} {w0 : World} {W : Nat → Prop} {H : List HE}
theorem r_storeRowAgg {F : Fence} {n N : Nat} {ds : List Deferred} {σ : List (Nat × Value)} {ty : TypeId} {pos : String} {aft : Array Edge} {gd : Option (Nat × Bool)} {K : Act → World → Prop} {Q : Exit → Act → World → Prop} {R : List HE} [Wide F] {t sz bs : Nat} {z : Value} {x y : Operand} {b q e s m c : Nat} {xs vs xs' : List Value} [hI : Inf P t sz bs z]
    (hx : ev σ x = some (.pointer (some ⟨b, q, none⟩))) (hy : ev σ y = some (.agg vs.toArray)) (h1 : ∀ v ∈ vs, v.oneCell' = true) (hm : Has H (.row (.slice (some ⟨b, 0, none⟩) m c) e s m xs) R) (hl : vs.length = sz) (ho : xs.take q ++ vs ++ xs.drop (q + vs.length) = xs') (hq : q + vs.length ≤ xs.length)
    (h : J N ds w0 W σ (.row (.slice (some ⟨b, 0, none⟩) m c) e s m xs' :: R) K) : OJ F n P N ds w0 W σ H ⟨none, .store t x y, ty, pos, aft, gd⟩ K Q :=
  o_skip (by simp) rfl (fun a w ha hw => by
    obtain ⟨hl0, h'⟩ := hw.has hm
    rcases h' with ⟨h0, _⟩ | ⟨g, cap, cur, hv, hb0, hg, hnc, hcm, hcs, hxx⟩
    · cases h0
    injection hv with e1 _ e3; injection e1 with e1; injection e1 with e1 _ _; subst e1; subst e3
    have hlen : xs.length ≤ cur.size := by rw [← hxx]; simp; omega
    obtain ⟨i, e1, -, e2, -⟩ := hI.h
    have hst := run_storeCells_at P b q e vs 0 cur w hg (by omega) h1
    simp only [Nat.add_zero] at hst
    refine ⟨w.setRow b (cur.toList.take q ++ vs ++ cur.toList.drop (q + vs.length)).toArray, by
      simp only [execOp, ha.eval hx, ha.eval hy, Instr.storeAt, Instr.sureAddr, storeVar, sizeOf, typeInfo, Sem.run_bind, Sem.run_pure, Result.andThen_ok]
      simp [e1, e2, hl, Value.cells, hst], ?_⟩
    subst ho
    refine hw.turn hm ?_ rfl rfl rfl (by simp) (fun k _ hk => setRow_other _ _ _ _ (fun e => hk (by rw [e]; rfl))) (.inl rfl)
    refine ⟨by simp at hl0 ⊢; omega, .inr ⟨b, c, _, rfl, hb0, setRow_heap w b _ _ e _ hg, hnc, hcm, by simp at hcs ⊢; omega, ?_⟩⟩
    rw [← hxx]
    apply List.ext_getElem?
    intro j
    rw [← hxx] at hq
    simp at hq
    simp only [List.getElem?_take, List.getElem?_append, List.getElem?_drop, List.length_take, List.length_append, Array.length_toList, List.toList_toArray]
    repeat' split
    all_goals first | rfl | omega | (congr 1; omega) | (exfalso; omega)) h
/-- A row of a table that is told anew. -/
class EOver (xs : List Value) (q : Nat) (vs : List Value) (xs' : outParam (List Value)) (c : outParam Prop) : Prop where h : c → xs.take q ++ vs ++ xs.drop (q + vs.length) = xs' ∧ q + vs.length ≤ xs.length
theorem flat_set {α : Type} {E : α → List Value} {s : Nat} [hE : RowE E s] (l : List α) (i : Nat) (a : α) (hi : i < l.length) : (flat E l).take (i * s) ++ E a ++ (flat E l).drop (i * s + s) = flat E (l.set i a) := by
  have e1 : l = l.take i ++ l.drop i := (List.take_append_drop i l).symm
  have e2 : l.drop i = l[i] :: l.drop (i + 1) := List.drop_eq_getElem_cons hi
  have hl1 : (flat E (l.take i)).length = i * s := by rw [flat_len, List.length_take, Nat.min_eq_left (by omega)]
  have e3 : flat E l = flat E (l.take i) ++ (E l[i] ++ flat E (l.drop (i + 1))) := by
    conv => lhs; rw [e1, flat_app, e2, show l[i] :: l.drop (i + 1) = [l[i]] ++ l.drop (i + 1) from rfl, flat_app, flat_one]
  rw [List.set_eq_take_append_cons_drop, if_pos hi, flat_app, show a :: l.drop (i + 1) = [a] ++ l.drop (i + 1) from rfl, flat_app, flat_one, e3, ← hl1, List.take_left, List.append_assoc]
  congr 2
  rw [List.drop_append, List.drop_eq_nil_of_le (by omega), List.nil_append, show (flat E (l.take i)).length + s - (flat E (l.take i)).length = s by omega, List.drop_append, hE.h.1, Nat.sub_self, List.drop_zero, List.drop_eq_nil_of_le (by rw [hE.h.1]; exact Nat.le_refl _), List.nil_append]
instance {α : Type} (E : α → List Value) (s : Nat) [hE : RowE E s] (l : List α) (i : Nat) (vs : List Value) (a : α) [hu : UnE E vs a] : EOver (flat E l) (i * s) vs (flat E (l.set i a)) (i < l.length) := ⟨fun hi => by
  have hl : vs.length = s := by rw [← hu.h, hE.h.1]
  rw [hl]
  refine ⟨by rw [← hu.h]; exact flat_set l i a hi, ?_⟩
  rw [flat_len, ← Nat.succ_mul]
  exact Nat.mul_le_mul_right _ hi⟩
instance (priority := 60) (t b q sz bs m c e s : Nat) (z : Value) (p : Prop) (x y : Operand) (vs xs xs' : List Value) (k : HE → List HE) [Inf P t sz bs z] [hl : SameLen vs sz] [h1 : OneL vs] [h : AtRow b H m c e s xs k] [hs : EOver xs q vs xs' p] : SS P w0 W H (.store t x y) [.pointer (some ⟨b, q, none⟩), .agg vs.toArray] (k (.row (.slice (some ⟨b, 0, none⟩) m c) e s m xs')) p :=
  ⟨fun hc _ _ _ _ _ _ _ _ _ _ _ _ k1 k3 => let ⟨_, h4, h5⟩ := h.h; let ⟨p1, p2⟩ := vals2 k1; r_storeRowAgg (t := t) p1 p2 h1.h h4 hl.h (hs.h hc).1 (hs.h hc).2 (j_perm (h5 _) k3)⟩
end
/-- So many things told one by one. -/
def tabP {α : Type} (g : Nat → α) : Nat → List α
  | 0 => []
  | i + 1 => tabP g i ++ [g i]
theorem tabP_len {α : Type} (g : Nat → α) : ∀ n, (tabP g n).length = n
  | 0 => rfl
  | n + 1 => by rw [tabP, List.length_append, tabP_len g n]; rfl
theorem tabP_get {α : Type} [Inhabited α] (g : Nat → α) {i : Nat} : ∀ {n : Nat}, i < n → (tabP g n).getD i default = g i
  | n + 1, h => by
    rw [tabP]
    rcases Nat.lt_or_ge i n with h1 | h1
    · rw [List.getD_eq_getElem?_getD, List.getElem?_append_left (by rw [tabP_len]; exact h1), ← List.getD_eq_getElem?_getD, tabP_get g h1]
    · obtain rfl : i = n := by omega
      rw [List.getD_eq_getElem?_getD, List.getElem?_append_right (by rw [tabP_len]; exact Nat.le_refl _), tabP_len, Nat.sub_self]
      rfl
/-- The way that ends at a step: whence each step comes. -/
def bakL (G : Nat → Nat → Int × Int) : Nat → Nat → List Nat
  | 0, b => [b]
  | n + 1, b => bakL G n (G (n + 1) b).2.toNat ++ [b]
theorem bakL_len (G : Nat → Nat → Int × Int) : ∀ n b, (bakL G n b).length = n + 1
  | 0, _ => rfl
  | n + 1, b => by rw [bakL, List.length_append, bakL_len G n]; rfl
theorem grow_back (t far : Int) (last : Nat → Int) (c : Int) (a : Nat) : ∀ n, growTo t far last c a n = (-1, -1) ∨ ∃ k, k < n ∧ growTo t far last c a n = (last k + (trnF t (pS far k) (pS far a)).1 + c, (k : Int)) ∧ last k ≠ -1 ∧ (trnF t (pS far k) (pS far a)).2 = true
  | 0 => .inl rfl
  | n + 1 => by
    have ih := grow_back t far last c a n
    have ih' : growTo t far last c a n = (-1, -1) ∨ ∃ k, k < n + 1 ∧ growTo t far last c a n = (last k + (trnF t (pS far k) (pS far a)).1 + c, (k : Int)) ∧ last k ≠ -1 ∧ (trnF t (pS far k) (pS far a)).2 = true := by
      rcases ih with h | ⟨k, h1, h2⟩
      · exact .inl h
      · exact .inr ⟨k, by omega, h2⟩
    rw [growTo]
    split
    · exact ih'
    · rename_i h
      split
      · refine .inr ⟨n, by omega, rfl, fun e => h (.inr e), ?_⟩
        cases h3 : (trnF t (pS far n) (pS far a)).2 with
        | true => rfl
        | false => exact absurd (.inl h3) h
      · exact ih'
theorem tre_back {t far : Int} {N : Nat} {cst : Nat → Nat → Int} {n a : Nat} (h : (tre t far N cst (n + 1) a).1 ≠ -1) : ∃ k, k < N ∧ (tre t far N cst (n + 1) a).2 = (k : Int) ∧ (tre t far N cst n k).1 ≠ -1 ∧ (trnF t (pS far k) (pS far a)).2 = true ∧ (tre t far N cst (n + 1) a).1 = (tre t far N cst n k).1 + (trnF t (pS far k) (pS far a)).1 + cst (n + 1) a ∧ cst (n + 1) a ≠ -1 := by
  by_cases hc : cst (n + 1) a = -1
  · exfalso
    apply h
    show (cellT t far N _ (cst (n + 1) a) a).1 = _
    unfold cellT
    rw [if_pos hc]
  · have e : tre t far N cst (n + 1) a = growTo t far (fun k => (tre t far N cst n k).1) (cst (n + 1) a) a N := by
      show cellT t far N _ (cst (n + 1) a) a = _
      unfold cellT
      rw [if_neg hc]
    rw [e] at h ⊢
    rcases grow_back t far (fun k => (tre t far N cst n k).1) (cst (n + 1) a) a N with h1 | ⟨k, h1, h2, h3, h4⟩
    · exact absurd (by rw [h1]) h
    · exact ⟨k, h1, by rw [h2], h3, h4, by rw [h2], hc⟩
theorem rowsT_at (G : Nat → Nat → Int × Int) (N : Nat) : ∀ (rs : List (Nat × Nat)) (n : Nat), n < rs.length → ∃ q : Nat × Nat, rs.reverse[n]? = some q ∧ (∃ R, Has (rowsT G N rs) (.row (.slice (some ⟨q.2, 0, none⟩) N N) 3 1 N (ints .i64 (tab (fun a => (G n a).2) N))) R) ∧ ∃ R, Has (rowsT G N rs) (.row (.slice (some ⟨q.1, 0, none⟩) N N) 2 1 N (ints .i64 (tab (fun a => (G n a).1) N))) R
  | [], n, h => by simp at h
  | p :: r, n, h => by
    rcases Nat.lt_or_ge n r.length with h1 | h1
    · obtain ⟨q, e, ⟨R1, h2⟩, ⟨R2, h3⟩⟩ := rowsT_at G N r n h1
      refine ⟨q, ?_, ⟨_, .there _ (.there _ h2)⟩, ⟨_, .there _ (.there _ h3)⟩⟩
      rw [List.reverse_cons, List.getElem?_append_left (by rw [List.length_reverse]; exact h1), e]
    · obtain rfl : n = r.length := by simp only [List.length_cons] at h; omega
      refine ⟨p, ?_, ⟨_, .there _ (.here _ _)⟩, ⟨_, .here _ _⟩⟩
      rw [List.reverse_cons, List.getElem?_append_right (by rw [List.length_reverse]; exact Nat.le_refl _), List.length_reverse, Nat.sub_self]
      rfl
theorem slE_get (N : Nat) (f : Nat × Nat → Nat) (rs : List (Nat × Nat)) (n : Nat) (q : Nat × Nat) (h : rs.reverse[n]? = some q) : Elem (flat (slE N) (rs.reverse.map f)) n (.slice (some ⟨f q, 0, none⟩) N N) True := ⟨fun _ => by
  have hn := (List.getElem?_eq_some_iff.1 h).1
  have h1 := flat_at (e := slE N) (rs.reverse.map f) n 0 (by simpa using hn) (by decide)
  rw [Nat.mul_one, Nat.add_zero] at h1
  rw [h1, List.getD_eq_getElem?_getD, List.getElem?_map, h]
  rfl⟩
theorem cst_ok {W H : Nat} {f : List Int} (hf : In16 f) (s : Sch) (l : List Smp) (hl : ∀ j, j < l.length → SmpOk (l.getD j default)) : CstOk (cstF W H f s l) := by
  intro n a
  have hz : -4194304 ≤ (l.getD n default).z ∧ (l.getD n default).z ≤ 4194304 := by
    rcases Nat.lt_or_ge n l.length with h | h
    · exact (hl n h).1
    · rw [List.getD_eq_getElem?_getD, List.getElem?_eq_none h]
      decide
  unfold cstF offF
  have h1 := heightT_in hf (W := W) (H := H) (s.x + (pS s.far a).1 * s.step + (l.getD n default).dx) (s.y + (pS s.far a).2 * s.step + (l.getD n default).dy)
  split <;> omega
end Go.Proofs.YtemmnpgebpffbaaGreat
/- Package drift: Find. -/
namespace Go.Proofs.YtemmnpgebpffbaaGreat
open Go.RowKit
instance (p : Int × Int) : OneL (dE p) := ⟨fun u hu => by simp [dE] at hu; rcases hu with rfl | rfl <;> rfl⟩
attribute [local irreducible] OJ J HdJ Code.wpIn wpListIn Oper.wpIn bodyPost CallsIn Does
set_option maxRecDepth 4000
set_option maxHeartbeats 256000000 in
theorem find_t (K : CaT) (s0 : CaV) (f : List Int) (s : Sch) (Al : Option Addr) (cl : Nat) (l : List Smp) (t b : Int) (w : World) (N : Nat) (hN : N = sideN s.far * sideN s.far) (hown : Own (K.H s0) w) (hF : CaF K.ys f K.room) (hk0 : CaOk K.ys f K.room s0 b) (hb : b ≤ 600000000000000000) (hr : RoA w (blocks (K.H s0)) Al l.length cl 3 (flat smpE l)) (hm : l.length ≤ 1000000) :
    Does Tryz.prog 18 [.pointer (some ⟨K.g, 0, none⟩), .agg (schE s).toArray, .slice Al l.length cl, .int .i64 t] (K.H s0) w
      (fun v S' => ∃ s', CaOk K.ys f K.room s' (b + 73984) ∧
        ((chk40 s l t ≠ 0 ∧ v = .tuple #[.slice none 0 0, .int .i64 0, .int .i64 (chk40 s l t)] ∧ S' = K.H s') ∨
        (chk40 s l t = 0 ∧ bstG (fun a => (tre t s.far N (cstF (wY K.ys) (hY K.ys) f s l) (l.length - 1) a).1) N = none ∧ v = .tuple #[.slice none 0 0, .int .i64 0, .int .i64 7] ∧ S' = K.H s') ∨
        (∃ a A c, chk40 s l t = 0 ∧ bstG (fun a => (tre t s.far N (cstF (wY K.ys) (hY K.ys) f s l) (l.length - 1) a).1) N = some a ∧ v = .tuple #[.slice A l.length c, .int .i64 (tre t s.far N (cstF (wY K.ys) (hY K.ys) f s l) (l.length - 1) a).1, .int .i64 0] ∧
          S' = .row (.slice A l.length c) 94 2 l.length (flat dE ((bakL (tre t s.far N (cstF (wY K.ys) (hY K.ys) f s l)) (l.length - 1) a).map (pS s.far))) :: K.H s'))) := by
  have hlc : l.length ≤ cl := by obtain ⟨A', c', e1, h1, -⟩ := hr.h; injection e1 with e1 e2 e3; omega
  refine does_ofM Tryz.func18 rfl Tryz.ntmps18 rfl hown (fun _ => ?_)
  simp only [slots]
  refine j_nil (e := 58) (size := 1) ?_
  refine j_nil (e := 106) (size := 1) ?_
  refine j_nil (e := 94) (size := 2) ?_
  refine z_tas
  rename_i b5
  refine lfv rfl rfl rfl (fun w hw => dcheck_any s Al cl l t w ⟨hr.h.go hw (Split.nil _)⟩ (by omega)) ?_
  generalize hck : chk40 s l t = ck at *
  refine z_tas
  · refine j_outMK (Ds := []) (S' := K.H s0) (by show Sub (K.HC s0 []) _; exact Sub.au) ?_
    refine z_rk
    exact ⟨s0, hk0.mono (by omega), .inl ⟨by assumption, rfl, rfl⟩⟩
  rename_i hck0 tb
  have hc0 : ck = 0 := by omega
  subst hc0
  have hck2 := hck
  unfold chk40 at hck2
  have hc21 : chk21 s l = 0 := by
    by_cases h : chk21 s l = 0
    · exact h
    · rw [if_pos h] at hck2; exact absurd hck2 h
  rw [if_neg (by rw [hc21]; simp)] at hck2
  have hs8 : s.far ≤ 8 := by
    rcases Int.lt_or_le 8 s.far with h | h
    · rw [if_pos h] at hck2; cases hck2
    · exact h
  rw [if_neg (by omega)] at hck2
  have ht : 0 ≤ t ∧ t ≤ 1048576 := by
    by_cases h : t < 0 ∨ 1048576 < t
    · rw [if_pos h] at hck2; cases hck2
    · omega
  clear hck2
  obtain ⟨⟨⟨a1, a2⟩, ⟨a3, a4⟩, ⟨a5, a6⟩, a7, a8⟩, ⟨l1, l2⟩, hl⟩ := chk21_ok hc21
  have hss : sideN s.far * sideN s.far ≤ 289 := Nat.mul_le_mul (show sideN s.far ≤ 17 by unfold sideN; omega) (show sideN s.far ≤ 17 by unfold sideN; omega)
  have hN0 : 0 < N := by rw [hN]; exact Nat.mul_pos (by unfold sideN; omega) (by unfold sideN; omega)
  have hcst := cst_ok hF.good.1 s l hl (W := wY K.ys) (H := hY K.ys)
  obtain ⟨cst, hcs⟩ : ∃ x, cstF (wY K.ys) (hY K.ys) f s l = x := ⟨_, rfl⟩
  rw [hcs] at hcst ⊢
  refine c_loop (X := Nat × CaV × Option Addr × Nat × Option Addr × Nat × List (Nat × Nat)) (fun x => x.1 ≤ l.length ∧ x.2.2.2.2.2.2.length = x.1 ∧ CaOk K.ys f K.room x.2.1 (b + 1156 * (x.1 : Int)))
    (fun x => [(0, .pointer (some ⟨K.g, 0, none⟩)), (2, .slice Al l.length cl), (5, .pointer (some ⟨b5, 0, none⟩)), (12, .pointer (some ⟨tb, 0, none⟩)), (33, .int .i64 l.length), (34, .int .i64 x.1)])
    (fun x => K.HC x.2.1 (.blk b5 26 (schE s) :: .row (.slice none 0 0) 94 2 0 [] :: TrH tb s t x.2.2.1 x.2.2.2.1 x.2.2.2.2.1 x.2.2.2.2.2.1 (tre t s.far N cst) N x.2.2.2.2.2.2))
    (fun x => l.length - x.1) (0, s0, none, 0, none, 0, []) ⟨Nat.zero_le _, rfl, by simpa using hk0⟩ ⟨rfl, rfl, rfl, rfl, rfl, rfl, trivial⟩ ?_ ?_
  · show Sub (K.HC s0 [.blk b5 26 (schE s), .row (.slice none 0 0) 94 2 0 [], .blk tb 100 (trlE s t none 0 none 0 0), .row (.slice none 0 0) 58 1 0 [], .row (.slice none 0 0) 106 1 0 []]) _
    exact Sub.au
  rintro ⟨i, s1, Ac, kc, Ab, kb, rs⟩ ⟨hi, hrl, hk1⟩
  dsimp only at hi hrl hk1 ⊢
  rcases Nat.lt_or_ge i l.length with h | h
  · refine z_tas
    refine lf rfl rfl rfl (S := K.H s1) (fun w hw ho => dcosts_t K s1 f s Al cl l i _ w ho hF hk1 (by omega) ⟨hr.h.go hw Split.au⟩ hc21 hs8 h) ?_
    rintro v S' ⟨s2, Ak, ck, hk2, rfl, rfl⟩
    rw [hcs, tab_len, ← hN]
    refine z_tas
    subst hrl
    refine lf rfl rfl rfl (S := TrH tb s t Ac kc Ab kb (tre t s.far N cst) N rs) (fun w hw ho => grow_t tb s t Ac kc Ab kb cst rs Ak ck w N hN ⟨a1, hs8⟩ ht (by omega) ho ⟨Ro.row hw Split.au (by refine z_hs)⟩ hcst) ?_
    rintro v S' ⟨rfl, bc, bb, Ac2, kc2, Ab2, kb2, rfl⟩
    refine j_swapT ?_
    refine j_app ?_
    refine z_tas
    refine c_round (rs.length + 1, s2, Ac2, kc2, Ab2, kb2, (bc, bb) :: rs) ⟨h, rfl, hk2.mono (by simp only []; omega)⟩ (by show l.length - (rs.length + 1) < l.length - rs.length; omega) ⟨rfl, rfl, rfl, rfl, rfl, rfl, trivial⟩ ?_
    show Sub (K.HC s2 (.blk b5 26 (schE s) :: .row (.slice none 0 0) 94 2 0 [] :: TrH tb s t Ac2 kc2 Ab2 kb2 (tre t s.far N cst) N ((bc, bb) :: rs))) _
    exact Sub.au
  · obtain rfl : i = l.length := by omega
    obtain ⟨p, r, rfl⟩ : ∃ p r, rs = p :: r := by
      cases rs with
      | nil => simp only [List.length_nil] at hrl; omega
      | cons p r => exact ⟨p, r, rfl⟩
    have hrn : r.length = l.length - 1 := by simp only [List.length_cons] at hrl; omega
    refine z_tas
    refine lf rfl rfl rfl (S := TrH tb s t Ac kc Ab kb (tre t s.far N cst) N (p :: r)) (fun w hw ho => best40_t tb s t Ac kc Ab kb (tre t s.far N cst) p r w N (by omega) (by omega) ho) ?_
    rintro v S' ⟨rfl, rfl⟩
    refine j_swapT ?_
    refine j_app ?_
    have hL : l.length = r.length + 1 := by omega
    clear hrn
    simp only [TrH, rowsT, List.length_cons, hL, Nat.add_sub_cancel]
    cases hbst : bstG (fun a => (tre t s.far N cst r.length a).1) N with
    | none =>
      rw [bstI_none hbst]
      refine z_tas
      refine j_outMK (Ds := []) (S' := K.H s1) (by show Sub (K.HC s1 []) _; exact Sub.au) ?_
      refine z_rk
      exact ⟨s1, hk1.mono (by omega), .inr (.inl ⟨trivial, rfl, rfl, rfl⟩)⟩
    | some a =>
      obtain ⟨ha1, ha2⟩ := bstG_lt hbst
      have ha2' : (tre t s.far N cst r.length a).1 ≠ -1 := ha2
      clear ha2
      rw [bstI_some hbst]
      have iLast := slE_last N (·.1) p r
      have iA := tab_elem (fun a => (tre t s.far N cst r.length a).1) ha1
      have htl := tab_len (fun a => (tre t s.far N cst r.length a).1) N
      obtain ⟨best, hbest⟩ : ∃ x, (tre t s.far N cst r.length a).1 = x := ⟨_, rfl⟩
      rw [hbest] at iA ha2'
      refine z_tas
      refine lf rfl rfl rfl (S := []) (fun w hw ho => steps_any s w) ?_
      rintro v S' ⟨gs, rfl, rfl⟩
      refine z_tas
      rename_i gA b16
      refine c_steps (s := s) (S := [.blk b16 48 [.slice none 0 0], .row (.slice none 0 0) 94 2 0 []])
        (fun i S => ∃ A c, S = [.blk b16 48 [.slice A i c], .row (.slice A i c) 94 2 i (flat dE (tabP (pS s.far) i))])
        (fun _ _ => False) rfl Split.au ⟨a1, a2⟩ ⟨none, 0, rfl⟩ ?_ ?_ ?_
      · rintro lp i S1 hi ⟨A1, c1, rfl⟩ w1 ho hro
        clear hro
        have hp := pS_in a1 hi
        have e : tabP (pS s.far) (i + 1) = tabP (pS s.far) i ++ [pS s.far i] := rfl
        have htl := tabP_len (pS s.far) i
        generalize hgp : pS s.far i = pp at *
        obtain ⟨p1, p2⟩ := pp
        show Yields _ _ [.int .i64 i, .agg #[.int .i64 p1, .int .i64 p2]] _ _ _
        refine yields_of (N := 98) ho rfl (by simp) (fun _ => ?_)
        simp only [over]
        refine z_tas
        refine c_beg ?_
        refine z_tas
        rename_i A2 c2
        refine c_rnH (S' := [_, .blk b16 48 [.slice A2 (i + 1) c2], .row (.slice A2 (i + 1) c2) 94 2 (i + 1) (flat dE (tabP (pS s.far) (i + 1)))]) ?_ (.inl ⟨rfl, _, rfl, A2, c2, rfl⟩)
        have el : (tabP (pS s.far) i ++ [(p1, p2)]).length = i + 1 := by rw [List.length_append, htl]; rfl
        rw [e, el]
        exact Sub.au
      · rintro d S1 ⟨A1, c1, rfl⟩
        rw [← hN]
        refine z_tas
        rename_i bw
        refine j_opn (A := A1) (m := N) (cc := c1) hN0 (fun gs1 hgs1 => ?_)
        subst hgs1
        refine c_loop (X := Nat × Int × List Nat) (fun x => x.1 + x.2.2.length = r.length + 1 ∧ ((x.1 = 0 ∧ bakL (tre t s.far N cst) r.length a = x.2.2) ∨ ∃ n c : Nat, x.1 = n + 1 ∧ x.2.1 = (c : Int) ∧ c < N ∧ (tre t s.far N cst n c).1 ≠ -1 ∧ bakL (tre t s.far N cst) r.length a = bakL (tre t s.far N cst) n c ++ x.2.2))
          (fun x => [(12, .pointer (some ⟨tb, 0, none⟩)), (14, .int .i64 x.2.1), (15, .int .i64 best), (16, .pointer (some ⟨b16, 0, none⟩)), (19, .slice (some ⟨bw, 0, none⟩) (r.length + 1) (r.length + 1)), (20, .int .i64 ((x.1 : Int) - 1))])
          (fun x => .row (.slice (some ⟨bw, 0, none⟩) (r.length + 1) (r.length + 1)) 94 2 (r.length + 1) (flat dE (List.replicate x.1 (0, 0) ++ x.2.2.map (pS s.far))) :: .blk b16 48 [.slice (some ⟨gs1, 0, none⟩) N c1] :: .row (.slice (some ⟨gs1, 0, none⟩) N c1) 94 2 N (flat dE (tabP (pS s.far) N)) :: .obj d (.deferred (some [])) ::
            K.HC s1 (.blk tb 100 (trlE s t (some ⟨gA, 0, none⟩) kc Ab kb (r.length + 1)) :: .row (.slice Ab (r.length + 1) kb) 106 1 (r.length + 1) (flat (slE N) ((p :: r).reverse.map (·.2))) :: rowsT (tre t s.far N cst) N (p :: r)))
          (fun x => x.1) (r.length + 1, (a : Int), []) ⟨rfl, .inr ⟨r.length, a, rfl, rfl, ha1, by rw [hbest]; exact ha2', by rw [List.append_nil]⟩⟩ ⟨rfl, rfl, rfl, rfl, rfl, rfl, trivial⟩ ?_ ?_
        · rw [List.map_nil, List.append_nil]
          simp only [rowsT]
          exact Sub.au
        rintro ⟨m, ci, tl⟩ ⟨hm1, hm2⟩
        dsimp only at hm1 hm2 ⊢
        rcases hm2 with ⟨rfl, hbk⟩ | ⟨n, c, rfl, rfl, hcN, hcc, hbk⟩
        · rw [show ((0 : Nat) : Int) - 1 = -1 from rfl, List.replicate_zero, List.nil_append]
          refine z_tas
          refine j_outMK (Ds := [d]) (S' := .row (.slice (some ⟨bw, 0, none⟩) (r.length + 1) (r.length + 1)) 94 2 (r.length + 1) (flat dE (tl.map (pS s.far))) :: K.H s1) ?_ ?_
          · show Sub (.row (.slice (some ⟨bw, 0, none⟩) (r.length + 1) (r.length + 1)) 94 2 (r.length + 1) (flat dE (tl.map (pS s.far))) :: K.HC s1 [.obj d (.deferred (some []))]) _
            exact Sub.au
          · refine z_rk
            exact ⟨s1, hk1.mono (by omega), .inr (.inr ⟨a, some ⟨bw, 0, none⟩, r.length + 1, trivial, rfl, by rw [hbest]; rfl, by rw [hbk]⟩)⟩
        · rw [show ((n + 1 : Nat) : Int) - 1 = (n : Int) by omega]
          have hlen : (List.replicate (n + 1) ((0, 0) : Int × Int) ++ tl.map (pS s.far)).length = r.length + 1 := by simp only [List.length_append, List.length_replicate, List.length_map]; omega
          have hget := tabP_get (pS s.far) hcN
          have hlt := tabP_len (pS s.far) N
          obtain ⟨q, hq1, ⟨R1, hq2⟩, -⟩ := rowsT_at (tre t s.far N cst) N (p :: r) n (by simp only [List.length_cons]; omega)
          have iQ := slE_get N (·.2) (p :: r) n q hq1
          have iR : AtRow q.2 (rowsT (tre t s.far N cst) N (p :: r)) N N 3 1 (ints .i64 (tab (fun a => (tre t s.far N cst n a).2) N)) (fun x => [x]) := ⟨R1, hq2, fun x => .cons (.here _ _) (.nil _)⟩
          have iE := tab_elem (fun a => (tre t s.far N cst n a).2) hcN
          obtain ⟨nx, hnx⟩ : ∃ x, (tre t s.far N cst n c).2 = x := ⟨_, rfl⟩
          rw [hnx] at iE
          have hset : ∀ x : Int × Int, (List.replicate (n + 1) ((0, 0) : Int × Int) ++ tl.map (pS s.far)).set n x = List.replicate n (0, 0) ++ x :: tl.map (pS s.far) := fun x => by
            rw [List.replicate_succ', List.append_assoc, List.set_append_right _ _ (by simp)]
            simp
          generalize hrow : List.replicate (n + 1) ((0, 0) : Int × Int) ++ tl.map (pS s.far) = row at *
          refine z_tas
          refine c_round (n, nx, c :: tl) ⟨by show n + (tl.length + 1) = r.length + 1; omega, ?_⟩ (by show n < n + 1; omega) ⟨rfl, rfl, rfl, rfl, rfl, by simp [look], trivial⟩ ?_
          · cases n with
            | zero => exact .inl ⟨rfl, hbk⟩
            | succ n =>
              obtain ⟨k, k1, k2, k3, -⟩ := tre_back hcc
              refine .inr ⟨n, k, rfl, by rw [← hnx, k2], k1, k3, ?_⟩
              rw [hbk, bakL, k2, Int.toNat_natCast, List.append_assoc]
              rfl
          · rw [hset, hget]
            exact Sub.refl _
      · rintro d c S1 h
        exact h.elim
end Go.Proofs.YtemmnpgebpffbaaGreat
/- Package drift: who stays; search made small. -/
namespace Go.Proofs.YtemmnpgebpffbaaGreat
open Go.RowKit
instance neqD_pv (u : TypeId) (x y : Operand) (a b c d : Int) : PV Tryz.prog (.binOp .neq 94 x y u) [.agg #[.int .i64 a, .int .i64 b], .agg #[.int .i64 c, .int .i64 d]] (.bool (!(a == c && b == d))) True := by
  have hp := pv_eqD true 94 u x y a b c d rfl
  simp only [if_true, Bool.true_bne] at hp
  exact hp
/-- All of the first so many steps are the first one. -/
def stl (l : List (Int × Int)) : Nat → Bool
  | 0 => true
  | i + 1 => stl l i && l.getD i default == l.getD 0 default
attribute [local irreducible] OJ J HdJ Code.wpIn wpListIn Oper.wpIn bodyPost CallsIn Does
set_option maxRecDepth 4000
set_option maxHeartbeats 64000000 in
theorem still_any (A : Option Addr) (c : Nat) (l : List (Int × Int)) (w : World) (hr : RoA w (blocks []) A l.length c 2 (flat dE l)) (hm : l.length ≤ 1000000) :
    Does Tryz.prog 47 [.slice A l.length c] [] w (fun v S' => v = .bool (stl l l.length) ∧ S' = []) := by
  refine does_of Tryz.func47 rfl Tryz.ntmps47 rfl ⟨by simp, .nil⟩ (fun _ => ?_)
  simp only [slots]
  refine z_tas
  refine c_loop (X := Nat) (fun i => i ≤ l.length ∧ stl l i = true) (fun i => [(0, .slice A l.length c), (5, .slice A l.length c), (6, .int .i64 l.length), (7, .int .i64 i)]) (fun _ => []) (fun i => l.length - i) 0 ⟨Nat.zero_le _, rfl⟩ ⟨rfl, rfl, rfl, rfl, trivial⟩ Sub.au ?_
  rintro i ⟨hi, hs⟩
  rcases Nat.lt_or_ge i l.length with h | h
  · obtain ⟨bL, oL, rfl, hRL⟩ := hr.at_ (by omega : 0 < l.length)
    have e : stl l (i + 1) = (stl l i && l.getD i default == l.getD 0 default) := rfl
    have ef : (l.getD i default == l.getD 0 default) = false → stl l l.length = false := fun hf => by
      have key : ∀ m, i < m → stl l m = false := by
        intro m
        induction m with
        | zero => intro h0; omega
        | succ m ih =>
          intro hm
          rw [stl]
          rcases Nat.lt_or_ge i m with h1 | h1
          · rw [ih h1]; rfl
          · obtain rfl : m = i := by omega
            rw [hf, Bool.and_false]
      exact key _ h
    have iE0 : RoRow w (blocks []) bL oL 2 [.int .i64 (l.getD 0 default).1, .int .i64 (l.getD 0 default).2] True := ⟨fun _ => by
      have ho : RoRow w (blocks []) bL oL 2 (dE (l.getD 0 default)) (0 < l.length) := inferInstance
      exact ho.h (by omega)⟩
    have eq : (l.getD i default == l.getD 0 default) = decide ((l.getD i default).1 = (l.getD 0 default).1 ∧ (l.getD i default).2 = (l.getD 0 default).2) := by
      rw [Bool.eq_iff_iff]
      simp [Prod.ext_iff]
    rw [eq] at e ef
    rw [hs, Bool.true_and] at e
    refine z_tas
    all_goals try (refine c_dv (0 :: 1 :: 2 :: 3 :: 4 :: []) ?_; intro _)
    all_goals try (refine z_govG)
    · rename_i hh
      refine j_out1 rfl rfl (.nil _) ⟨?_, rfl⟩
      rw [ef (by rw [decide_eq_false_iff_not]; exact hh)]
    · rename_i hh
      refine c_round (i + 1) ⟨h, by rw [e, decide_eq_true_eq]; exact Classical.not_not.1 hh⟩ (by show l.length - (i + 1) < l.length - i; omega) ⟨rfl, rfl, rfl, by simp [look], trivial⟩ (.nil _)
  · obtain rfl : i = l.length := by omega
    refine z_tas
    exact j_out1 rfl rfl (.nil _) ⟨by rw [hs], rfl⟩
def small40 (s : Sch) : Sch := { s with far := if 2 < s.far ∧ s.far ≤ 8 then s.far % 3 else s.far }
theorem small40_in {s : Sch} (h : 0 ≤ s.far ∧ (small40 s).far ≤ 8) : 0 ≤ (small40 s).far ∧ (small40 s).far ≤ 2 := by
  unfold small40 at h ⊢
  dsimp only at h ⊢
  split at h <;> omega
theorem small40_any (s : Sch) (w : World) : Does Tryz.prog 15 [.agg (schE s).toArray] [] w (fun v S' => v = .agg (schE (small40 s)).toArray ∧ S' = []) := by
  refine does_of Tryz.func15 rfl Tryz.ntmps15 rfl ⟨by simp, .nil⟩ (fun _ => ?_)
  simp only [slots]
  unfold small40
  refine z_tas
  · rw [if_pos (by omega)]
    refine z_ro
    exact ⟨rfl, rfl⟩
  · rw [if_neg (by omega)]
    refine z_ro
    exact ⟨rfl, rfl⟩
  · rw [if_neg (by omega)]
    refine z_ro
    exact ⟨rfl, rfl⟩
end Go.Proofs.YtemmnpgebpffbaaGreat
/- What is reckoned for the example of layer 40. -/
namespace Go.Proofs.YtemmnpgebpffbaaGreat
open Go.RowKit
def f40 : List Int := [0, 10, 20, 40, 0, 10, 20, 40]
def s40 : Sch := ⟨256, 0, 1, 256⟩
def l40 : List Smp := [⟨0, 0, 160⟩, ⟨0, 0, 320⟩, ⟨0, 0, 640⟩]
theorem w40_chk : chk21 s40 l40 = 0 := by decide +kernel
theorem w40_c5 : chk40 s40 l40 5 = 0 := by decide +kernel
theorem w40_c1 : chk40 s40 l40 1000 = 0 := by decide +kernel
theorem w40_cn : chk40 s40 l40 (-1) = 1 := by decide +kernel
theorem w40_c9 : chk40 ⟨0, 0, 9, 1⟩ l40 0 = 12 := by decide +kernel
theorem w40_ce : chk40 s40 [] 0 = 5 := by decide +kernel
theorem w40_row : tab (cstF 4 2 f40 s40 l40 0) 9 = [-1, -1, -1, 160, 0, 160, 160, 0, 160] := by decide +kernel
theorem w40_b5 : bstG (fun a => (tre 5 1 9 (cstF 4 2 f40 s40 l40) 2 a).1) 9 = some 5 := by decide +kernel
theorem w40_v5 : (tre 5 1 9 (cstF 4 2 f40 s40 l40) 2 5).1 = 325 := by decide +kernel
theorem w40_w5 : (bakL (tre 5 1 9 (cstF 4 2 f40 s40 l40)) 2 5).map (pS 1) = [(0, 0), (1, 0), (1, 0)] := by decide +kernel
theorem w40_b1 : bstG (fun a => (tre 1000 1 9 (cstF 4 2 f40 s40 l40) 2 a).1) 9 = some 5 := by decide +kernel
theorem w40_v1 : (tre 1000 1 9 (cstF 4 2 f40 s40 l40) 2 5).1 = 480 := by decide +kernel
theorem w40_w1 : (bakL (tre 1000 1 9 (cstF 4 2 f40 s40 l40)) 2 5).map (pS 1) = [(1, 0), (1, 0), (1, 0)] := by decide +kernel
theorem w40_s5 : stl [(0, 0), (1, 0), (1, 0)] 3 = false := by decide +kernel
theorem w40_s1 : stl [(1, 0), (1, 0), (1, 0)] 3 = true := by decide +kernel
theorem f40_in : In16 f40 := in16_of (by decide +kernel)
end Go.Proofs.YtemmnpgebpffbaaGreat
