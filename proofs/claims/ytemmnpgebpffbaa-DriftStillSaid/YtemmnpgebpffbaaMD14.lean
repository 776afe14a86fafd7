
import Derived.Test.YtemmnpgebpffbaaMD13
set_option linter.unusedVariables false
set_option linter.unusedSimpArgs false
/- Package drift: the trellis grows. -/
namespace Go.Proofs.Ytemmnpgebpffbaa
open Go.RowKit
/-- Many orders join: what holds at the join. -/
theorem c_joinE {F : Fence} {n : Nat} {P : Program} {N : Nat} {ds : List Deferred} {w0 : World} {W : Nat → Prop} {σ : List (Nat × Value)} {H : List HE} {K : Act → World → Prop} {Q : Exit → Act → World → Prop} {x : Code} {X : Type} (R : X → Prop) (σI : X → List (Nat × Value)) (HI : X → List HE)
    (hx : J N ds w0 W σ H (x.wpIn F n P (Exit.then (fun a w => ∃ z, R z ∧ True ∧ Tm N ds (σI z) a ∧ St w0 W (HI z) w) Q))) (hy : ∀ z, R z → J N ds w0 W (σI z) (HI z) K) : J N ds w0 W σ H (x.wpIn F n P (Exit.then K Q)) :=
  hx.mono fun a w h => wpIn_mono h (by
    rintro e a w h
    cases e with
    | normal => obtain ⟨z, h1, -, h2, h3⟩ := h; exact hy z h1 a w h2 h3
    | _ => exact h)
theorem tre_zero (t far : Int) (N : Nat) (cst : Nat → Nat → Int) (a : Nat) : tre t far N cst 0 a = (cst 0 a, -1) ∨ cst 0 a = -1 := by
  by_cases h : cst 0 a = -1
  · exact .inr h
  · left
    show cellT t far N none (cst 0 a) a = _
    unfold cellT
    rw [if_neg h]
theorem tre_none (t far : Int) (N : Nat) (cst : Nat → Nat → Int) (n a : Nat) (h : cst n a = -1) : tre t far N cst n a = (-1, -1) := by
  cases n with
  | zero => show cellT t far N none (cst 0 a) a = _; unfold cellT; rw [if_pos h]
  | succ n => show cellT t far N _ (cst (n + 1) a) a = _; unfold cellT; rw [if_pos h]
theorem tre_first (t far : Int) (N : Nat) (cst : Nat → Nat → Int) (a : Nat) (h : cst 0 a ≠ -1) : tre t far N cst 0 a = (cst 0 a, -1) := by
  show cellT t far N none (cst 0 a) a = _; unfold cellT; rw [if_neg h]
theorem tre_next (t far : Int) (N : Nat) (cst : Nat → Nat → Int) (n a : Nat) (h : cst (n + 1) a ≠ -1) : tre t far N cst (n + 1) a = growTo t far (fun k => (tre t far N cst n k).1) (cst (n + 1) a) a N := by
  show cellT t far N _ (cst (n + 1) a) a = _; unfold cellT; rw [if_neg h]
theorem trn_bnd {t p1 p2 q1 q2 : Int} (hp : (-8 ≤ p1 ∧ p1 ≤ 8) ∧ (-8 ≤ p2 ∧ p2 ≤ 8)) (hq : (-8 ≤ q1 ∧ q1 ≤ 8) ∧ (-8 ≤ q2 ∧ q2 ≤ 8)) (ht : 0 ≤ t ∧ t ≤ 1048576) : 0 ≤ (trnF t (p1, p2) (q1, q2)).1 ∧ (trnF t (p1, p2) (q1, q2)).1 ≤ 134217728 := by
  unfold trnF absD
  dsimp only
  have h1 : 0 ≤ max (p1 - q1) (q1 - p1) + max (p2 - q2) (q2 - p2) ∧ max (p1 - q1) (q1 - p1) + max (p2 - q2) (q2 - p2) ≤ 128 := by omega
  have := mulB 128 1048576 (a := max (p1 - q1) (q1 - p1) + max (p2 - q2) (q2 - p2)) (b := t) (by omega) (by omega)
  have := Int.mul_nonneg h1.1 ht.1
  omega
theorem trn_two {t : Int} {p q : Int × Int} (ht : 0 ≤ t ∧ t ≤ 1048576) (h : (trnF t p q).2 = true) : 0 ≤ (trnF t p q).1 ∧ (trnF t p q).1 ≤ 2097152 := by
  unfold trnF absD at h ⊢
  dsimp only at h ⊢
  have h := of_decide_eq_true h
  have h1 : 0 ≤ max (p.1 - q.1) (q.1 - p.1) + max (p.2 - q.2) (q.2 - p.2) ∧ max (p.1 - q.1) (q.1 - p.1) + max (p.2 - q.2) (q.2 - p.2) ≤ 2 := by omega
  have := mulB 2 1048576 (a := max (p.1 - q.1) (q.1 - p.1) + max (p.2 - q.2) (q.2 - p.2)) (b := t) (by omega) (by omega)
  have := Int.mul_nonneg h1.1 ht.1
  omega
theorem grow_bnd {t far : Int} {last : Nat → Int} {c : Int} {a : Nat} {B : Int} (ht : 0 ≤ t ∧ t ≤ 1048576) (hB : 0 ≤ B) (hl : ∀ k, -1 ≤ last k ∧ last k ≤ B) (hc : 0 ≤ c ∧ c ≤ 8388608) : ∀ n, -1 ≤ (growTo t far last c a n).1 ∧ (growTo t far last c a n).1 ≤ B + 10485760
  | 0 => by show (-1 : Int) ≤ -1 ∧ (-1 : Int) ≤ B + 10485760; omega
  | n + 1 => by
    have ih := grow_bnd (far := far) (a := a) ht hB hl hc n
    rw [growTo]
    split
    · exact ih
    · rename_i h1
      have h2 : (trnF t (pS far n) (pS far a)).2 = true := by
        cases h3 : (trnF t (pS far n) (pS far a)).2 with
        | true => rfl
        | false => exact absurd (.inl h3) h1
      have h3 := trn_two ht h2
      have h4 := hl n
      split
      · show -1 ≤ last n + (trnF t (pS far n) (pS far a)).1 + c ∧ _
        have : last n ≠ -1 := fun e => h1 (.inr e)
        dsimp only
        omega
      · exact ih
theorem tre_bnd {t far : Int} {N : Nat} {cst : Nat → Nat → Int} (ht : 0 ≤ t ∧ t ≤ 1048576) (hc : ∀ n a, -1 ≤ cst n a ∧ cst n a ≤ 8388608) : ∀ n a, -1 ≤ (tre t far N cst n a).1 ∧ (tre t far N cst n a).1 ≤ 10485760 * ((n : Int) + 1)
  | 0, a => by
    have := hc 0 a
    by_cases h : cst 0 a = -1
    · rw [tre_none t far N cst 0 a h]; dsimp only; omega
    · rw [tre_first t far N cst a h]; dsimp only; omega
  | n + 1, a => by
    have := hc (n + 1) a
    by_cases h : cst (n + 1) a = -1
    · rw [tre_none t far N cst (n + 1) a h]; dsimp only; omega
    · rw [tre_next t far N cst n a h]
      have := grow_bnd (far := far) (last := fun k => (tre t far N cst n k).1) (a := a) (c := cst (n + 1) a) (B := 10485760 * ((n : Int) + 1)) ht (by omega) (fun k => tre_bnd ht hc n k) (by omega) N
      omega
/-- What the trellis' costs may be. -/
def CstOk (cst : Nat → Nat → Int) : Prop := ∀ n a, -1 ≤ cst n a ∧ cst n a ≤ 8388608
theorem has_swap {H R R' : List HE} {x y : HE} (h : Has H x R) : Has R y R' → ∃ R2, Has H y R2 ∧ Has R2 x R' := by
  induction h generalizing R' with
  | here x R => exact fun hy => ⟨x :: R', .there x hy, .here x R'⟩
  | there z h ih =>
    rename_i H1 x R1
    intro hy
    cases hy with
    | here => exact ⟨H1, .here _ _, h⟩
    | there _ hy =>
      obtain ⟨R2, h1, h2⟩ := ih hy
      exact ⟨z :: R2, .there z h1, .there z h2⟩
theorem sub_last {x : HE} : ∀ {S H R : List HE}, Has H x R → Sub S R → Sub (S ++ [x]) H
  | [], _, _, h, _ => .cons h (.nil _)
  | y :: S, H, R, h, hs => by
    cases hs with
    | cons hy hs =>
      obtain ⟨R2, h1, h2⟩ := has_swap h hy
      exact .cons h1 (sub_last h2 hs)
theorem sub_end {S H : List HE} {d : Nat} (h : Sub (.obj d (.deferred (some [])) :: S) H) : Sub (S ++ marksH [d]) H := by
  cases h with
  | cons h hs => exact sub_last h hs
attribute [local irreducible] OJ J HdJ Code.wpIn wpListIn Oper.wpIn bodyPost CallsIn Does
set_option maxRecDepth 4000
set_option maxHeartbeats 256000000 in
theorem grow_t (tb : Nat) (s : Sch) (t : Int) (Ac : Option Addr) (kc : Nat) (Ab : Option Addr) (kb : Nat) (cst : Nat → Nat → Int) (rs : List (Nat × Nat)) (Ak : Option Addr) (ck : Nat) (w : World) (N : Nat) (hN : N = sideN s.far * sideN s.far) (hf : 0 ≤ s.far ∧ s.far ≤ 8) (ht : 0 ≤ t ∧ t ≤ 1048576) (h64 : rs.length < 64)
    (hown : Own (TrH tb s t Ac kc Ab kb (tre t s.far N cst) N rs) w) (hr : RoA w (blocks (TrH tb s t Ac kc Ab kb (tre t s.far N cst) N rs)) Ak N ck 1 (ints .i64 (tab (cst rs.length) N))) (hc : CstOk cst) :
    Does Try.prog 51 [.pointer (some ⟨tb, 0, none⟩), .slice Ak N ck] (TrH tb s t Ac kc Ab kb (tre t s.far N cst) N rs) w
      (fun v S' => v = .tuple #[] ∧ ∃ bc bb Ac' kc2 Ab' kb2, S' = TrH tb s t Ac' kc2 Ab' kb2 (tre t s.far N cst) N ((bc, bb) :: rs)) := by
  have hss : sideN s.far * sideN s.far ≤ 289 := Nat.mul_le_mul (show sideN s.far ≤ 17 by unfold sideN; omega) (show sideN s.far ≤ 17 by unfold sideN; omega)
  have hN0 : 0 < N := by rw [hN]; exact Nat.mul_pos (by unfold sideN; omega) (by unfold sideN; omega)
  refine does_ofM Try.func51 rfl Try.ntmps51 rfl hown (fun _ => ?_)
  simp only [slots]
  refine z_tas
  rename_i b2 b3
  refine c_joinE (X := Nat × Nat × Nat × Nat) (fun _ => True) (fun q => [(2, .pointer (some ⟨b2, 0, none⟩)), (3, .pointer (some ⟨b3, 0, none⟩)), (4, .pointer (some ⟨q.1, 0, none⟩)), (5, .pointer (some ⟨q.2.1, 0, none⟩))])
    (fun q => .blk b2 104 [.pointer (some ⟨tb, 0, none⟩)] :: .blk b3 22 [.slice Ak N ck] :: .blk q.1 22 [.slice (some ⟨q.2.2.1, 0, none⟩) N N] :: .blk q.2.1 111 [.slice (some ⟨q.2.2.2, 0, none⟩) N N] :: .row (.slice (some ⟨q.2.2.1, 0, none⟩) N N) 2 1 N (ints .i64 (List.replicate N 0)) :: .row (.slice (some ⟨q.2.2.2, 0, none⟩) N N) 3 1 N (ints .i64 (List.replicate N 0)) :: TrH tb s t Ac kc Ab kb (tre t s.far N cst) N rs) ?_ ?_
  · refine c_dvL [.blk b3 22 [.slice Ak N ck]] (0 :: 1 :: 2 :: 3 :: 4 :: 5 :: 6 :: 7 :: 8 :: 9 :: []) Sub.au ?_
    intro _
    refine z_gvs
    all_goals
      rename_i x1 x2 x3 x4
      first
      | exact c_round (x1, x2, x3, x4) trivial trivial ⟨rfl, rfl, rfl, rfl, trivial⟩ Sub.au
      | exact c_round (x1, x2, x4, x3) trivial trivial ⟨rfl, rfl, rfl, rfl, trivial⟩ Sub.au
      | exact c_round (x1, x3, x2, x4) trivial trivial ⟨rfl, rfl, rfl, rfl, trivial⟩ Sub.au
      | exact c_round (x1, x3, x4, x2) trivial trivial ⟨rfl, rfl, rfl, rfl, trivial⟩ Sub.au
      | exact c_round (x1, x4, x2, x3) trivial trivial ⟨rfl, rfl, rfl, rfl, trivial⟩ Sub.au
      | exact c_round (x1, x4, x3, x2) trivial trivial ⟨rfl, rfl, rfl, rfl, trivial⟩ Sub.au
      | exact c_round (x2, x1, x3, x4) trivial trivial ⟨rfl, rfl, rfl, rfl, trivial⟩ Sub.au
      | exact c_round (x2, x1, x4, x3) trivial trivial ⟨rfl, rfl, rfl, rfl, trivial⟩ Sub.au
      | exact c_round (x2, x3, x1, x4) trivial trivial ⟨rfl, rfl, rfl, rfl, trivial⟩ Sub.au
      | exact c_round (x2, x3, x4, x1) trivial trivial ⟨rfl, rfl, rfl, rfl, trivial⟩ Sub.au
      | exact c_round (x2, x4, x1, x3) trivial trivial ⟨rfl, rfl, rfl, rfl, trivial⟩ Sub.au
      | exact c_round (x2, x4, x3, x1) trivial trivial ⟨rfl, rfl, rfl, rfl, trivial⟩ Sub.au
      | exact c_round (x3, x1, x2, x4) trivial trivial ⟨rfl, rfl, rfl, rfl, trivial⟩ Sub.au
      | exact c_round (x3, x1, x4, x2) trivial trivial ⟨rfl, rfl, rfl, rfl, trivial⟩ Sub.au
      | exact c_round (x3, x2, x1, x4) trivial trivial ⟨rfl, rfl, rfl, rfl, trivial⟩ Sub.au
      | exact c_round (x3, x2, x4, x1) trivial trivial ⟨rfl, rfl, rfl, rfl, trivial⟩ Sub.au
      | exact c_round (x3, x4, x1, x2) trivial trivial ⟨rfl, rfl, rfl, rfl, trivial⟩ Sub.au
      | exact c_round (x3, x4, x2, x1) trivial trivial ⟨rfl, rfl, rfl, rfl, trivial⟩ Sub.au
      | exact c_round (x4, x1, x2, x3) trivial trivial ⟨rfl, rfl, rfl, rfl, trivial⟩ Sub.au
      | exact c_round (x4, x1, x3, x2) trivial trivial ⟨rfl, rfl, rfl, rfl, trivial⟩ Sub.au
      | exact c_round (x4, x2, x1, x3) trivial trivial ⟨rfl, rfl, rfl, rfl, trivial⟩ Sub.au
      | exact c_round (x4, x2, x3, x1) trivial trivial ⟨rfl, rfl, rfl, rfl, trivial⟩ Sub.au
      | exact c_round (x4, x3, x1, x2) trivial trivial ⟨rfl, rfl, rfl, rfl, trivial⟩ Sub.au
      | exact c_round (x4, x3, x2, x1) trivial trivial ⟨rfl, rfl, rfl, rfl, trivial⟩ Sub.au
  · rintro ⟨b4, b5, rc, rb⟩ -
    dsimp only
    refine z_tas
    refine lf rfl rfl rfl (S := []) (fun w hw ho => steps_any s w) ?_
    rintro v S' ⟨gs, rfl, rfl⟩
    refine z_tas
    refine c_steps (s := s) (S := .blk b2 104 [.pointer (some ⟨tb, 0, none⟩)] :: .blk b3 22 [.slice Ak N ck] :: .blk b4 22 [.slice (some ⟨rc, 0, none⟩) N N] :: .blk b5 111 [.slice (some ⟨rb, 0, none⟩) N N] :: .row (.slice (some ⟨rc, 0, none⟩) N N) 2 1 N (ints .i64 (List.replicate N 0)) :: .row (.slice (some ⟨rb, 0, none⟩) N N) 3 1 N (ints .i64 (List.replicate N 0)) :: .blk tb 108 (trlE s t Ac kc Ab kb rs.length) :: .row (.slice Ac rs.length kc) 22 1 rs.length (flat (slE N) (rs.reverse.map (·.1))) :: .row (.slice Ab rs.length kb) 111 1 rs.length (flat (slE N) (rs.reverse.map (·.2))) :: rowsT (tre t s.far N cst) N rs) (fun i S => S = .blk b2 104 [.pointer (some ⟨tb, 0, none⟩)] :: .blk b3 22 [.slice Ak N ck] :: .blk b4 22 [.slice (some ⟨rc, 0, none⟩) N N] :: .blk b5 111 [.slice (some ⟨rb, 0, none⟩) N N] :: .row (.slice (some ⟨rc, 0, none⟩) N N) 2 1 N (ints .i64 (prt (fun a => (tre t s.far N cst rs.length a).1) N i)) :: .row (.slice (some ⟨rb, 0, none⟩) N N) 3 1 N (ints .i64 (prt (fun a => (tre t s.far N cst rs.length a).2) N i)) :: .blk tb 108 (trlE s t Ac kc Ab kb rs.length) :: .row (.slice Ac rs.length kc) 22 1 rs.length (flat (slE N) (rs.reverse.map (·.1))) :: .row (.slice Ab rs.length kb) 111 1 rs.length (flat (slE N) (rs.reverse.map (·.2))) :: rowsT (tre t s.far N cst) N rs) (fun _ _ => False) rfl Split.au ⟨hf.1, by omega⟩ rfl ?_ ?_ ?_
    · rintro lp i S1 hi rfl w1 ho hro
      cases rs with
      | nil =>
        simp only [List.length_nil] at ho hro hr ⊢
        have hfs := tre_first t s.far N cst i
        rw [← hN] at hi
        have hr1 := (⟨hro _ _ _ _ hr.h⟩ : RoA w1 _ Ak N ck 1 (ints .i64 (tab (cst 0) N)))
        obtain ⟨bK, oK, rfl, hK⟩ := hr1.at_ hN0
        have hcv := tab_get (cst 0) hi
        have htl := tab_len (cst 0) N
        have hca := hc 0 i
        have e1 := prt_set (fun a => (tre t s.far N cst 0 a).1) hi
        have e2 := prt_set (fun a => (tre t s.far N cst 0 a).2) hi
        have hl1 := prt_len (fun a => (tre t s.far N cst 0 a).1) (Nat.le_of_lt hi)
        have hl2 := prt_len (fun a => (tre t s.far N cst 0 a).2) (Nat.le_of_lt hi)
        have hn := tre_none t s.far N cst 0 i
        show Yields _ _ [.int .i64 i, .agg #[.int .i64 (pS s.far i).1, .int .i64 (pS s.far i).2]] _ _ _
        generalize hg1 : prt (fun a => (tre t s.far N cst 0 a).1) N i = l1 at *
        generalize hg2 : prt (fun a => (tre t s.far N cst 0 a).2) N i = l2 at *
        have hs1 : (l1.set i (-1)).length = N := by rw [List.length_set]; exact hl1
        have hs2 : (l2.set i (-1)).length = N := by rw [List.length_set]; exact hl2
        refine yields_of (N := 141) ho rfl (by simp) (fun _ => ?_)
        simp only [over]
        refine z_tas
        refine c_beg ?_
        refine z_tas
        rename_i b6 b7
        refine c_dvL [.blk b4 22 [.slice (some ⟨rc, 0, none⟩) N N], .blk b5 111 [.slice (some ⟨rb, 0, none⟩) N N], .blk b6 3 [.int .i64 i]] (0 :: 1 :: 2 :: 3 :: 4 :: 5 :: 6 :: 7 :: []) Sub.au ?_
        intro _
        refine z_govG
        · rename_i h
          rw [hcv] at h
          rw [hn h] at e1 e2
          refine c_rnH (S' := _ :: .blk b2 104 [.pointer (some ⟨tb, 0, none⟩)] :: .blk b3 22 [.slice (some ⟨bK, oK, none⟩) N ck] :: .blk b4 22 [.slice (some ⟨rc, 0, none⟩) N N] :: .blk b5 111 [.slice (some ⟨rb, 0, none⟩) N N] :: .row (.slice (some ⟨rc, 0, none⟩) N N) 2 1 N (ints .i64 (prt (fun a => (tre t s.far N cst 0 a).1) N (i + 1))) :: .row (.slice (some ⟨rb, 0, none⟩) N N) 3 1 N (ints .i64 (prt (fun a => (tre t s.far N cst 0 a).2) N (i + 1))) :: .blk tb 108 (trlE s t Ac kc Ab kb 0) :: .row (.slice Ac 0 kc) 22 1 0 (flat (slE N) (([] : List (Nat × Nat)).reverse.map (·.1))) :: .row (.slice Ab 0 kb) 111 1 0 (flat (slE N) (([] : List (Nat × Nat)).reverse.map (·.2))) :: []) ?_ (.inl ⟨rfl, _, rfl, rfl⟩)
          rw [← e1, ← e2]
          exact Sub.au
        · rename_i h
          rw [hcv] at h
          rw [hfs h] at e1 e2
          refine c_rnH (S' := _ :: .blk b2 104 [.pointer (some ⟨tb, 0, none⟩)] :: .blk b3 22 [.slice (some ⟨bK, oK, none⟩) N ck] :: .blk b4 22 [.slice (some ⟨rc, 0, none⟩) N N] :: .blk b5 111 [.slice (some ⟨rb, 0, none⟩) N N] :: .row (.slice (some ⟨rc, 0, none⟩) N N) 2 1 N (ints .i64 (prt (fun a => (tre t s.far N cst 0 a).1) N (i + 1))) :: .row (.slice (some ⟨rb, 0, none⟩) N N) 3 1 N (ints .i64 (prt (fun a => (tre t s.far N cst 0 a).2) N (i + 1))) :: .blk tb 108 (trlE s t Ac kc Ab kb 0) :: .row (.slice Ac 0 kc) 22 1 0 (flat (slE N) (([] : List (Nat × Nat)).reverse.map (·.1))) :: .row (.slice Ab 0 kb) 111 1 0 (flat (slE N) (([] : List (Nat × Nat)).reverse.map (·.2))) :: []) ?_ (.inl ⟨rfl, _, rfl, rfl⟩)
          rw [← e1, ← e2, hcv, List.set_set]
          exact Sub.au
      | cons p r =>
        simp only [rowsT, List.length_cons] at ho hro hr h64 ⊢
        have hnx := tre_next t s.far N cst r.length i
        have iLast := slE_last N (·.1) p r
        rw [← hN] at hi
        have hr1 := (⟨hro _ _ _ _ hr.h⟩ : RoA w1 _ Ak N ck 1 (ints .i64 (tab (cst (r.length + 1)) N)))
        obtain ⟨bK, oK, rfl, hK⟩ := hr1.at_ hN0
        have hcv := tab_get (cst (r.length + 1)) hi
        have htl := tab_len (cst (r.length + 1)) N
        have hca := hc (r.length + 1) i
        have e1 := prt_set (fun a => (tre t s.far N cst (r.length + 1) a).1) hi
        have e2 := prt_set (fun a => (tre t s.far N cst (r.length + 1) a).2) hi
        have hl1 := prt_len (fun a => (tre t s.far N cst (r.length + 1) a).1) (Nat.le_of_lt hi)
        have hl2 := prt_len (fun a => (tre t s.far N cst (r.length + 1) a).2) (Nat.le_of_lt hi)
        have hn := tre_none t s.far N cst (r.length + 1) i
        show Yields _ _ [.int .i64 i, .agg #[.int .i64 (pS s.far i).1, .int .i64 (pS s.far i).2]] _ _ _
        generalize hg1 : prt (fun a => (tre t s.far N cst (r.length + 1) a).1) N i = l1 at *
        generalize hg2 : prt (fun a => (tre t s.far N cst (r.length + 1) a).2) N i = l2 at *
        have hs1 : (l1.set i (-1)).length = N := by rw [List.length_set]; exact hl1
        have hs2 : (l2.set i (-1)).length = N := by rw [List.length_set]; exact hl2
        refine yields_of (N := 141) ho rfl (by simp) (fun _ => ?_)
        simp only [over]
        refine j_opn (A := Ac) (m := r.length + 1) (cc := kc) (by omega) (fun ga hga => ?_)
        subst hga
        refine z_tas
        refine c_beg ?_
        refine z_tas
        rename_i b6 b7
        refine c_dvL [.blk b4 22 [.slice (some ⟨rc, 0, none⟩) N N], .blk b5 111 [.slice (some ⟨rb, 0, none⟩) N N], .blk b6 3 [.int .i64 i]] (0 :: 1 :: 2 :: 3 :: 4 :: 5 :: 6 :: 7 :: []) Sub.au ?_
        intro _
        refine z_govG
        · rename_i h
          rw [hcv] at h
          rw [hn h] at e1 e2
          refine c_rnH (S' := _ :: .blk b2 104 [.pointer (some ⟨tb, 0, none⟩)] :: .blk b3 22 [.slice (some ⟨bK, oK, none⟩) N ck] :: .blk b4 22 [.slice (some ⟨rc, 0, none⟩) N N] :: .blk b5 111 [.slice (some ⟨rb, 0, none⟩) N N] :: .row (.slice (some ⟨rc, 0, none⟩) N N) 2 1 N (ints .i64 (prt (fun a => (tre t s.far N cst (r.length + 1) a).1) N (i + 1))) :: .row (.slice (some ⟨rb, 0, none⟩) N N) 3 1 N (ints .i64 (prt (fun a => (tre t s.far N cst (r.length + 1) a).2) N (i + 1))) :: .blk tb 108 (trlE s t (some ⟨ga, 0, none⟩) kc Ab kb (r.length + 1)) :: .row (.slice (some ⟨ga, 0, none⟩) (r.length + 1) kc) 22 1 (r.length + 1) (flat (slE N) ((p :: r).reverse.map (·.1))) :: .row (.slice Ab (r.length + 1) kb) 111 1 (r.length + 1) (flat (slE N) ((p :: r).reverse.map (·.2))) :: .row (.slice (some ⟨p.1, 0, none⟩) N N) 2 1 N (ints .i64 (tab (fun a => (tre t s.far N cst r.length a).1) N)) :: .row (.slice (some ⟨p.2, 0, none⟩) N N) 3 1 N (ints .i64 (tab (fun a => (tre t s.far N cst r.length a).2) N)) :: rowsT (tre t s.far N cst) N r) ?_ (.inl ⟨rfl, _, rfl, rfl⟩)
          rw [← e1, ← e2]
          exact Sub.au
        · rename_i h
          rw [hcv] at h
          refine c_dvL [.blk b2 104 [.pointer (some ⟨tb, 0, none⟩)], .blk tb 108 (trlE s t (some ⟨ga, 0, none⟩) kc Ab kb (r.length + 1)), .row (.slice (some ⟨ga, 0, none⟩) (r.length + 1) kc) 22 1 (r.length + 1) (flat (slE N) ((p :: r).reverse.map (·.1)))] (0 :: 1 :: 2 :: 3 :: 4 :: 5 :: 6 :: 7 :: 8 :: 9 :: 10 :: 11 :: 12 :: 13 :: []) Sub.au ?_
          intro _
          refine z_govG
          rename_i b8
          refine lf rfl rfl rfl (S := []) (fun w hw ho => steps_any s w) ?_
          rintro v S' ⟨gs2, rfl, rfl⟩
          refine z_tas
          refine c_stepsIn (s := s) (S := [.blk b2 104 [.pointer (some ⟨tb, 0, none⟩)], .blk b3 22 [.slice (some ⟨bK, oK, none⟩) N ck], .blk b4 22 [.slice (some ⟨rc, 0, none⟩) N N], .blk b5 111 [.slice (some ⟨rb, 0, none⟩) N N], .blk b6 3 [.int .i64 i], .blk b7 69 [.int .i64 (pS s.far i).1, .int .i64 (pS s.far i).2], .blk b8 22 [.slice (some ⟨p.1, 0, none⟩) N N], .row (.slice (some ⟨rc, 0, none⟩) N N) 2 1 N (ints .i64 (l1.set i (-1))), .row (.slice (some ⟨rb, 0, none⟩) N N) 3 1 N (ints .i64 (l2.set i (-1))), .blk tb 108 (trlE s t (some ⟨ga, 0, none⟩) kc Ab kb (r.length + 1)), .row (.slice (some ⟨p.1, 0, none⟩) N N) 2 1 N (ints .i64 (tab (fun a => (tre t s.far N cst r.length a).1) N))]) (fun k S => S = [.blk b2 104 [.pointer (some ⟨tb, 0, none⟩)], .blk b3 22 [.slice (some ⟨bK, oK, none⟩) N ck], .blk b4 22 [.slice (some ⟨rc, 0, none⟩) N N], .blk b5 111 [.slice (some ⟨rb, 0, none⟩) N N], .blk b6 3 [.int .i64 i], .blk b7 69 [.int .i64 (pS s.far i).1, .int .i64 (pS s.far i).2], .blk b8 22 [.slice (some ⟨p.1, 0, none⟩) N N], .row (.slice (some ⟨rc, 0, none⟩) N N) 2 1 N (ints .i64 (l1.set i (growTo t s.far (fun k => (tre t s.far N cst r.length k).1) (cst (r.length + 1) i) i k).1)), .row (.slice (some ⟨rb, 0, none⟩) N N) 3 1 N (ints .i64 (l2.set i (growTo t s.far (fun k => (tre t s.far N cst r.length k).1) (cst (r.length + 1) i) i k).2)), .blk tb 108 (trlE s t (some ⟨ga, 0, none⟩) kc Ab kb (r.length + 1)), .row (.slice (some ⟨p.1, 0, none⟩) N N) 2 1 N (ints .i64 (tab (fun a => (tre t s.far N cst r.length a).1) N))]) (fun _ _ => False) (by refine z_hs) rfl Split.au ⟨hf.1, by omega⟩ rfl ?_ ?_ ?_
          · rintro lp2 k S2 hk2 rfl w2 ho2 hro2
            rw [← hN] at hk2
            have hpk := pS_in hf.1 (show k < sideN s.far * sideN s.far by rw [← hN]; exact hk2)
            have hpi := pS_in hf.1 (show i < sideN s.far * sideN s.far by rw [← hN]; exact hi)
            have hr2 := (⟨hro2 _ _ _ _ hr1.h⟩ : RoA w2 _ (some ⟨bK, oK, none⟩) N ck 1 (ints .i64 (tab (cst (r.length + 1)) N)))
            obtain ⟨bK2, oK2, eK, hK2⟩ := hr2.at_ hN0
            injection eK with eK
            injection eK with eK1 eK2 _
            subst eK1 eK2
            have hlv := tab_get (fun a => (tre t s.far N cst r.length a).1) hk2
            have htl2 := tab_len (fun a => (tre t s.far N cst r.length a).1) N
            have htb := tre_bnd (far := s.far) (N := N) ht hc r.length k
            have e3 := growTo.eq_2 t s.far (fun k => (tre t s.far N cst r.length k).1) (cst (r.length + 1) i) i k
            have hgb := grow_bnd (far := s.far) (a := i) (c := cst (r.length + 1) i) (B := 10485760 * ((r.length : Int) + 1)) ht (by omega) (fun k => tre_bnd (far := s.far) (N := N) ht hc r.length k) (by omega) k
            rw [show k.succ = k + 1 from rfl] at e3
            (try dsimp only at hlv); (try dsimp only at e3)
            generalize growTo t s.far (fun k => (tre t s.far N cst r.length k).1) (cst (r.length + 1) i) i (k + 1) = Gk at *
            generalize growTo t s.far (fun k => (tre t s.far N cst r.length k).1) (cst (r.length + 1) i) i k = G at *
            generalize (tre t s.far N cst r.length k).1 = lv at *
            generalize pS s.far k = pk at *
            generalize pS s.far i = qi at *
            obtain ⟨p1, p2⟩ := pk
            obtain ⟨q1, q2⟩ := qi
            obtain ⟨g1, g2⟩ := G
            (try dsimp only at hpk); (try dsimp only at hpi); (try dsimp only at e3); (try dsimp only at hgb)
            have htn := trn_bnd (t := t) (p1 := p1) (p2 := p2) (q1 := q1) (q2 := q2) (by omega) (by omega) ht
            have itn := turned_cv p1 p2 q1 q2 t
            generalize trnF t (p1, p2) (q1, q2) = tr at *
            obtain ⟨m, ok⟩ := tr
            (try dsimp only at htn); (try dsimp only at itn); (try dsimp only at e3)
            have iE : Elem (ints .i64 (l1.set i g1)) i (.int .i64 g1) True := ⟨fun _ => by simp [ints, hl1, hi]⟩
            have iL : Elem (ints .i64 (tab (fun a => (tre t s.far N cst r.length a).1) N)) k (.int .i64 lv) True := ⟨fun _ => by
              have hk3 : k < (tab (fun a => (tre t s.far N cst r.length a).1) N).length := by rw [htl2]; exact hk2
              rw [List.getD_eq_getElem?_getD, List.getElem?_eq_getElem hk3, Option.getD_some] at hlv
              simp only [ints, List.getElem?_map, List.getElem?_eq_getElem hk3, Option.map_some, hlv]⟩
            have iC : Elem (ints .i64 (tab (cst (r.length + 1)) N)) i (.int .i64 (cst (r.length + 1) i)) True := ⟨fun _ => by
              have hk3 : i < (tab (cst (r.length + 1)) N).length := by rw [htl]; exact hi
              rw [List.getD_eq_getElem?_getD, List.getElem?_eq_getElem hk3, Option.getD_some] at hcv
              simp only [ints, List.getElem?_map, List.getElem?_eq_getElem hk3, Option.map_some, hcv]⟩
            have hs3 : (l1.set i g1).length = N := by rw [List.length_set]; exact hl1
            have hs4 : (l2.set i g2).length = N := by rw [List.length_set]; exact hl2
            clear hro hro2 iLast
            generalize hcc : cst (r.length + 1) i = cI at *
            show Yields _ _ [.int .i64 k, .agg #[.int .i64 p1, .int .i64 p2]] _ _ _
            refine yields_of (N := 141) ho2 rfl (by simp) (fun _ => ?_)
            simp only [over]
            refine z_tas
            refine c_beg ?_
            refine z_tas
            all_goals try (refine c_dv (0 :: 1 :: 2 :: 3 :: 4 :: 5 :: 6 :: 7 :: 8 :: 9 :: 10 :: 11 :: []) ?_; intro _)
            all_goals try (refine z_govG)
            all_goals try (refine c_dvL [.blk b4 22 [.slice (some ⟨rc, 0, none⟩) N N], .blk b5 111 [.slice (some ⟨rb, 0, none⟩) N N], .blk b6 3 [.int .i64 i]] (0 :: 1 :: 2 :: 3 :: 4 :: 5 :: 6 :: 7 :: 8 :: 9 :: []) Sub.au ?_; intro _; refine z_govG)
            all_goals refine c_rnH (S' := [_, .blk b2 104 [.pointer (some ⟨tb, 0, none⟩)], .blk b3 22 [.slice (some ⟨bK, oK, none⟩) N ck], .blk b4 22 [.slice (some ⟨rc, 0, none⟩) N N], .blk b5 111 [.slice (some ⟨rb, 0, none⟩) N N], .blk b6 3 [.int .i64 i], .blk b7 69 [.int .i64 q1, .int .i64 q2], .blk b8 22 [.slice (some ⟨p.1, 0, none⟩) N N], .row (.slice (some ⟨rc, 0, none⟩) N N) 2 1 N (ints .i64 (l1.set i Gk.1)), .row (.slice (some ⟨rb, 0, none⟩) N N) 3 1 N (ints .i64 (l2.set i Gk.2)), .blk tb 108 (trlE s t (some ⟨ga, 0, none⟩) kc Ab kb (r.length + 1)), .row (.slice (some ⟨p.1, 0, none⟩) N N) 2 1 N (ints .i64 (tab (fun a => (tre t s.far N cst r.length a).1) N))]) ?_ (.inl ⟨rfl, _, rfl, rfl⟩)
            · have hk0 : ok = false := Bool.eq_false_iff.2 (by assumption)
              rw [e3, if_pos (.inl hk0)]
              exact Sub.au
            · rw [e3, if_pos (.inr (by assumption))]
              exact Sub.au
            · have hk0 : ok = true := Classical.not_not.1 (by assumption)
              have hg0 : g1 = -1 := by assumption
              rw [e3, if_neg (by rintro (hq | hq); · rw [hk0] at hq; cases hq
                                 · contradiction), if_pos (.inl hg0), List.set_set, List.set_set]
              exact Sub.au
            · have hk0 : ok = true := Classical.not_not.1 (by assumption)
              have hg0 : lv + m + cI < g1 := by assumption
              rw [e3, if_neg (by rintro (hq | hq); · rw [hk0] at hq; cases hq
                                 · contradiction), if_pos (.inr hg0), List.set_set, List.set_set]
              exact Sub.au
            · have hk0 : ok = true := Classical.not_not.1 (by assumption)
              rw [e3, if_neg (by rintro (hq | hq); · rw [hk0] at hq; cases hq
                                 · contradiction), if_neg (by rintro (hq | hq) <;> contradiction)]
              exact Sub.au
          · rintro S2 rfl
            rw [← hN]
            rw [hnx h] at e1 e2
            refine z_tas
            refine c_rnH (S' := _ :: .blk b2 104 [.pointer (some ⟨tb, 0, none⟩)] :: .blk b3 22 [.slice (some ⟨bK, oK, none⟩) N ck] :: .blk b4 22 [.slice (some ⟨rc, 0, none⟩) N N] :: .blk b5 111 [.slice (some ⟨rb, 0, none⟩) N N] :: .row (.slice (some ⟨rc, 0, none⟩) N N) 2 1 N (ints .i64 (prt (fun a => (tre t s.far N cst (r.length + 1) a).1) N (i + 1))) :: .row (.slice (some ⟨rb, 0, none⟩) N N) 3 1 N (ints .i64 (prt (fun a => (tre t s.far N cst (r.length + 1) a).2) N (i + 1))) :: .blk tb 108 (trlE s t (some ⟨ga, 0, none⟩) kc Ab kb (r.length + 1)) :: .row (.slice (some ⟨ga, 0, none⟩) (r.length + 1) kc) 22 1 (r.length + 1) (flat (slE N) ((p :: r).reverse.map (·.1))) :: .row (.slice Ab (r.length + 1) kb) 111 1 (r.length + 1) (flat (slE N) ((p :: r).reverse.map (·.2))) :: .row (.slice (some ⟨p.1, 0, none⟩) N N) 2 1 N (ints .i64 (tab (fun a => (tre t s.far N cst r.length a).1) N)) :: .row (.slice (some ⟨p.2, 0, none⟩) N N) 3 1 N (ints .i64 (tab (fun a => (tre t s.far N cst r.length a).2) N)) :: rowsT (tre t s.far N cst) N r) ?_ (.inl ⟨rfl, _, rfl, rfl⟩)
            rw [← e1, ← e2]
            exact Sub.au
          · rintro c S2 h
            exact h.elim
    · rintro d S1 rfl
      rw [← hN, prt_all, prt_all]
      obtain ⟨L1, hL1⟩ : ∃ L, L = rs.reverse.map (·.1) := ⟨_, rfl⟩
      obtain ⟨L2, hL2⟩ : ∃ L, L = rs.reverse.map (·.2) := ⟨_, rfl⟩
      have hm1 : L1.length = rs.length := by rw [hL1]; simp
      have hm2 : L2.length = rs.length := by rw [hL2]; simp
      have e5 : (L1 ++ [rc]).length = rs.length + 1 := by simp [hm1]
      have e6 : (L2 ++ [rb]).length = rs.length + 1 := by simp [hm2]
      rw [← hL1, ← hL2]
      refine j_swapT ?_
      refine j_app ?_
      refine j_perm (H' := .blk b2 104 [.pointer (some ⟨tb, 0, none⟩)] :: .blk b4 22 [.slice (some ⟨rc, 0, none⟩) N N] :: .blk b5 111 [.slice (some ⟨rb, 0, none⟩) N N] :: .row (.slice (some ⟨rc, 0, none⟩) N N) 2 1 N (ints .i64 (tab (fun a => (tre t s.far N cst rs.length a).1) N)) :: .row (.slice (some ⟨rb, 0, none⟩) N N) 3 1 N (ints .i64 (tab (fun a => (tre t s.far N cst rs.length a).2) N)) :: .obj d (.deferred (some [])) :: .blk tb 108 [.int .i64 s.x, .int .i64 s.y, .int .i64 s.far, .int .i64 s.step, .int .i64 t, .slice Ac L1.length kc, .slice Ab L2.length kb] :: .row (.slice Ac L1.length kc) 22 1 L1.length (flat (slE N) L1) :: .row (.slice Ab L2.length kb) 111 1 L2.length (flat (slE N) L2) :: rowsT (tre t s.far N cst) N rs) (by rw [hm1, hm2]; exact Sub.au) ?_
      refine z_tas
      refine c_dvL [.blk b2 104 [.pointer (some ⟨tb, 0, none⟩)], .blk b4 22 [.slice (some ⟨rc, 0, none⟩) N N], .blk b5 111 [.slice (some ⟨rb, 0, none⟩) N N]] (0 :: 1 :: 2 :: 3 :: 4 :: 5 :: 6 :: 7 :: 8 :: 9 :: 10 :: 11 :: 12 :: 13 :: 14 :: 15 :: 16 :: 17 :: 18 :: 19 :: 20 :: 21 :: []) Sub.au ?_
      intro _
      refine z_gvs
      all_goals first
        | (rename_i A1 c1 A2 c2; refine j_outM0 (Ds := [d]) (S' := TrH tb s t A1 c1 A2 c2 (tre t s.far N cst) N ((rc, rb) :: rs)) rfl ?_ ⟨rfl, _, _, _, _, _, _, rfl⟩ _ (by first | exact .inl rfl | exact .inr rfl); rw [e5, e6]; refine sub_end ?_; simp only [TrH, List.reverse_cons, List.map_append, List.map_cons, List.map_nil, List.length_cons, rowsT, ← hL1, ← hL2]; exact Sub.au)
        | (rename_i A1 c1 A2 c2; refine j_outM0 (Ds := [d]) (S' := TrH tb s t A2 c2 A1 c1 (tre t s.far N cst) N ((rc, rb) :: rs)) rfl ?_ ⟨rfl, _, _, _, _, _, _, rfl⟩ _ (by first | exact .inl rfl | exact .inr rfl); rw [e5, e6]; refine sub_end ?_; simp only [TrH, List.reverse_cons, List.map_append, List.map_cons, List.map_nil, List.length_cons, rowsT, ← hL1, ← hL2]; exact Sub.au)
        | (rename_i A1 c1 b9 A2 c2; refine j_outM0 (Ds := [d]) (S' := TrH tb s t A1 c1 A2 c2 (tre t s.far N cst) N ((rc, rb) :: rs)) rfl ?_ ⟨rfl, _, _, _, _, _, _, rfl⟩ _ (by first | exact .inl rfl | exact .inr rfl); rw [e5, e6]; refine sub_end ?_; simp only [TrH, List.reverse_cons, List.map_append, List.map_cons, List.map_nil, List.length_cons, rowsT, ← hL1, ← hL2]; exact Sub.au)
        | (rename_i A1 c1 b9 A2 c2; refine j_outM0 (Ds := [d]) (S' := TrH tb s t A2 c2 A1 c1 (tre t s.far N cst) N ((rc, rb) :: rs)) rfl ?_ ⟨rfl, _, _, _, _, _, _, rfl⟩ _ (by first | exact .inl rfl | exact .inr rfl); rw [e5, e6]; refine sub_end ?_; simp only [TrH, List.reverse_cons, List.map_append, List.map_cons, List.map_nil, List.length_cons, rowsT, ← hL1, ← hL2]; exact Sub.au)
    · rintro d c S1 h
      exact h.elim
end Go.Proofs.Ytemmnpgebpffbaa
