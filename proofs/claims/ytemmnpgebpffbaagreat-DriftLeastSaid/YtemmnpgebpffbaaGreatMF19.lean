
import Derived.Test.YtemmnpgebpffbaaGreatMF18
set_option linter.unusedVariables false
set_option linter.unusedSimpArgs false
/- Package theodoliteref40: the least, from the last height on back. -/
namespace Go.Proofs.YtemmnpgebpffbaaGreat
open Go.RowKit
/-- The row that is left from the last heights. -/
def restL (t far : Int) (N : Nat) (cst : Nat → Nat → Int) (L : Nat) : Nat → List Int
  | 0 => List.replicate N 0
  | k + 1 => tab (bck t far N cst L k) N
theorem restL_len (t far : Int) (N : Nat) (cst : Nat → Nat → Int) (L : Nat) : ∀ k, (restL t far N cst L k).length = N
  | 0 => by rw [restL, List.length_replicate]
  | k + 1 => by rw [restL, tab_len]
attribute [local irreducible] OJ J HdJ Code.wpIn wpListIn Oper.wpIn bodyPost CallsIn Does
set_option maxRecDepth 4000
set_option maxHeartbeats 256000000 in
theorem rleast_any (W H : Nat) (A : Option Addr) (c : Nat) (f : List Int) (s : Sch) (Al : Option Addr) (cl : Nat) (l : List Smp) (t : Int) (w : World) (N : Nat) (hN : N = sideN s.far * sideN s.far) (hr : RoA w (blocks []) A f.length c 1 (ints .i16 f)) (hrl : RoA w (blocks []) Al l.length cl 3 (flat smpE l))
    (hW : 1 ≤ W ∧ W ≤ 256 ∧ 1 ≤ H ∧ H ≤ 256) (hz : f.length = W * H) (hf : In16 f) (hs : SchOk s) (h8 : s.far ≤ 8) (hl : ∀ j, j < l.length → SmpOk (l.getD j default)) (hl64 : 0 < l.length ∧ l.length ≤ 64) (ht : 0 ≤ t ∧ t ≤ 1048576) :
    Does Tryz.prog 19 [.agg #[.int .i64 W, .int .i64 H, .slice A f.length c], .agg (schE s).toArray, .slice Al l.length cl, .int .i64 t] [] w
      (fun v S' => v = .int .i64 (bsv (bck t s.far N (cstF W H f s l) l.length (l.length - 1)) N) ∧ S' = []) := by
  have hs' := hs
  obtain ⟨⟨a1, a2⟩, ⟨a3, a4⟩, ⟨a5, a6⟩, a7, a8⟩ := hs'
  have hcst := cst_ok hf s l hl (W := W) (H := H)
  have hcste : ∀ n a, cstF W H f s l n a = offF W H f s (l.getD n default) (pS s.far a).1 (pS s.far a).2 := fun _ _ => rfl
  have hsd : ((sideN s.far : Nat) : Int) = 2 * s.far + 1 := by unfold sideN; omega
  have hsq : sideN s.far ≤ 17 := by unfold sideN; omega
  have hsp : 0 < sideN s.far := by unfold sideN; omega
  have hN2 : N ≤ 289 := by rw [hN]; exact Nat.mul_le_mul hsq hsq
  have hN0 : 0 < N := by rw [hN]; exact Nat.mul_pos hsp hsp
  obtain ⟨bL, oL, rfl, hRL⟩ := hrl.at_ hl64.1
  obtain ⟨cst, hcs⟩ : ∃ x, cstF W H f s l = x := ⟨_, rfl⟩
  rw [hcs] at hcst hcste ⊢
  have hbb := fun k a => bck_bnd (far := s.far) (N := N) (L := l.length) ht hcst k a
  have hrl' := restL_len t s.far N cst l.length
  have iN1 : LitI ((2 * s.far + 1) * (2 * s.far + 1)) N := ⟨by rw [← hsd, hN]; push_cast; rfl⟩
  have iN2 : LitI (((sideN s.far : Nat) : Int) * ((sideN s.far : Nat) : Int)) N := ⟨by rw [hN]; push_cast; rfl⟩
  refine does_of Tryz.func19 rfl Tryz.ntmps19 rfl ⟨by simp, .nil⟩ (fun _ => ?_)
  simp only [slots]
  have hm1 := mulB 17 17 (a := 2 * s.far + 1) (b := 2 * s.far + 1) (by omega) (by omega)
  refine z_tas
  rename_i b4 b5 b0
  refine c_loop (X := Nat × Nat) (fun q => q.1 ≤ l.length) (fun q => [(2, .slice (some ⟨bL, oL, none⟩) l.length cl), (3, .int .i64 t), (4, .pointer (some ⟨b4, 0, none⟩)), (5, .pointer (some ⟨b5, 0, none⟩)), (9, .int .i64 (sideN s.far)), (10, .slice (some ⟨q.2, 0, none⟩) N N), (11, .int .i64 ((l.length : Int) - 1 - q.1))])
    (fun q => [.blk b4 31 [.int .i64 W, .int .i64 H, .slice A f.length c], .blk b5 26 (schE s), .row (.slice (some ⟨q.2, 0, none⟩) N N) 2 1 N (ints .i64 (restL t s.far N cst l.length q.1))]) (fun q => l.length - q.1) (0, b0) (Nat.zero_le _) ⟨rfl, rfl, rfl, rfl, by rw [hsd]; rfl, rfl, by simp [look], trivial⟩ (by show Sub [_, _, .row (.slice (some ⟨b0, 0, none⟩) N N) 2 1 N (ints .i64 (List.replicate N 0))] _; exact Sub.au) ?_
  rintro ⟨k, b1⟩ hk
  dsimp only at hk ⊢
  rcases Nat.lt_or_ge k l.length with h | h
  · obtain ⟨n, hn⟩ : ∃ n, n = l.length - 1 - k := ⟨_, rfl⟩
    rw [show (l.length : Int) - 1 - (k : Int) = (n : Int) by omega]
    refine z_tas
    rename_i b2
    have hb1 := fun a => hbb k a
    have hrl1 := hrl' k
    refine c_loop (X := Nat) (fun a => a ≤ N) (fun a => [(2, .slice (some ⟨bL, oL, none⟩) l.length cl), (3, .int .i64 t), (4, .pointer (some ⟨b4, 0, none⟩)), (5, .pointer (some ⟨b5, 0, none⟩)), (9, .int .i64 (sideN s.far)), (10, .slice (some ⟨b1, 0, none⟩) N N), (11, .int .i64 n), (12, .slice (some ⟨b2, 0, none⟩) N N), (13, .int .i64 a)])
      (fun a => [.blk b4 31 [.int .i64 W, .int .i64 H, .slice A f.length c], .blk b5 26 (schE s), .row (.slice (some ⟨b1, 0, none⟩) N N) 2 1 N (ints .i64 (restL t s.far N cst l.length k)), .row (.slice (some ⟨b2, 0, none⟩) N N) 2 1 N (ints .i64 (prt (bck t s.far N cst l.length k) N a))]) (fun a => N - a) 0 (Nat.zero_le _) ⟨rfl, rfl, rfl, rfl, rfl, rfl, rfl, rfl, rfl, trivial⟩ (by show Sub [_, _, _, .row (.slice (some ⟨b2, 0, none⟩) N N) 2 1 N (ints .i64 (List.replicate N 0))] _; exact Sub.au) ?_
    intro a ha
    rcases Nat.lt_or_ge a N with h2 | h2
    · have hset := prt_set (bck t s.far N cst l.length k) h2
      have hlp := prt_len (bck t s.far N cst l.length k) (Nat.le_of_lt h2)
      have hlp1 : ((prt (bck t s.far N cst l.length k) N a).set a (-1)).length = N := by rw [List.length_set]; exact hlp
      have hsx := hl n (by omega)
      have hca := hcst n a
      have hp := pS_in a1 (n := a) (by rw [← hN]; exact h2)
      have hdI : 0 ≤ (a : Int) / (sideN s.far : Int) ∧ (a : Int) / (sideN s.far : Int) < 17 := by
        have : (a : Int) / (sideN s.far : Int) = ((a / sideN s.far : Nat) : Int) := by push_cast; rfl
        rw [this]
        exact ⟨Int.natCast_nonneg _, by have := Nat.div_lt_of_lt_mul (show a < sideN s.far * sideN s.far by omega); omega⟩
      have hmI : 0 ≤ (a : Int) % (sideN s.far : Int) ∧ (a : Int) % (sideN s.far : Int) < 17 := by
        have : (a : Int) % (sideN s.far : Int) = ((a % sideN s.far : Nat) : Int) := by push_cast; rfl
        rw [this]
        exact ⟨Int.natCast_nonneg _, by have := Nat.mod_lt a hsp; omega⟩
      have ec : offF W H f s (l.getD n default) ((a : Int) % (sideN s.far : Int) - s.far) ((a : Int) / (sideN s.far : Int) - s.far) = cst n a := by rw [hcste]; rfl
      have hpa : (pS s.far a).1 = (a : Int) % (sideN s.far : Int) - s.far ∧ (pS s.far a).2 = (a : Int) / (sideN s.far : Int) - s.far := ⟨rfl, rfl⟩
      have hneg : cst n a < 0 → bck t s.far N cst l.length k a = -1 := fun h0 => by
        rw [hn] at h0
        cases k with
        | zero => rw [bck, bckC, if_pos (by simpa using h0)]
        | succ j => rw [bck, bckC, if_pos h0]
      have hfst : ¬ cst n a < 0 → (n : Int) = (l.length : Int) - 1 → bck t s.far N cst l.length k a = cst n a := fun h0 h1 => by
        obtain rfl : k = 0 := by omega
        rw [bck, bckC, hn, Nat.sub_zero, if_neg (by rw [hn, Nat.sub_zero] at h0; exact h0)]
      obtain ⟨pl, hpl⟩ : ∃ x, prt (bck t s.far N cst l.length k) N a = x := ⟨_, rfl⟩
      rw [hpl] at hset hlp hlp1 ⊢
      refine z_tas
      refine c_dvL [.blk b4 31 [.int .i64 W, .int .i64 H, .slice A f.length c], .blk b5 26 (schE s)] (0 :: 1 :: 2 :: 3 :: 4 :: 5 :: 6 :: 7 :: 8 :: 9 :: 10 :: 11 :: 12 :: 13 :: 14 :: 15 :: 16 :: 17 :: 18 :: 19 :: []) Sub.au ?_
      intro _
      refine z_govG
      all_goals
        refine lfv rfl rfl rfl (fun w hw => roff_any W H A c f s (l.getD n default) ((a : Int) % (sideN s.far : Int) - s.far) ((a : Int) / (sideN s.far : Int) - s.far) w ⟨hr.h.go hw (Split.nil _)⟩ hW hz hf hs hsx (by omega) (by omega)) ?_
        rw [ec]
        refine z_govG
      · rename_i hc0
        rw [hneg hc0] at hset
        refine c_round (a + 1) h2 (by show N - (a + 1) < N - a; omega) ⟨rfl, rfl, rfl, rfl, rfl, rfl, rfl, rfl, by simp [look], trivial⟩ ?_
        rw [← hset]
        exact Sub.au
      · rename_i hc0 hc1
        rw [hfst hc0 (by omega)] at hset
        refine c_round (a + 1) h2 (by show N - (a + 1) < N - a; omega) ⟨rfl, rfl, rfl, rfl, rfl, rfl, rfl, rfl, by simp [look], trivial⟩ ?_
        rw [← hset, List.set_set]
        exact Sub.au
      · rename_i hc0 hc1
        obtain ⟨j, rfl⟩ : ∃ j, k = j + 1 := ⟨k - 1, by omega⟩
        have hnx : bck t s.far N cst l.length (j + 1) a = nxtTo t s.far (bck t s.far N cst l.length j) (cst n a) a N := by
          rw [bck, bckC, ← hn, if_neg hc0]
        have hrj := fun b => hbb j b
        rw [restL] at hrl1 ⊢
        rw [hnx] at hset
        clear hneg hfst hnx
        obtain ⟨g, hg⟩ : ∃ g, bck t s.far N cst l.length j = g := ⟨_, rfl⟩
        rw [hg] at hrj hrl1 hset ⊢
        refine c_loop (X := Nat) (fun b => b ≤ N) (fun b => [(2, .slice (some ⟨bL, oL, none⟩) l.length cl), (3, .int .i64 t), (4, .pointer (some ⟨b4, 0, none⟩)), (5, .pointer (some ⟨b5, 0, none⟩)), (9, .int .i64 (sideN s.far)), (10, .slice (some ⟨b1, 0, none⟩) N N), (11, .int .i64 n), (12, .slice (some ⟨b2, 0, none⟩) N N), (13, .int .i64 a), (14, .int .i64 (cst n a)), (15, .int .i64 b)])
          (fun b => [.blk b4 31 [.int .i64 W, .int .i64 H, .slice A f.length c], .blk b5 26 (schE s), .row (.slice (some ⟨b1, 0, none⟩) N N) 2 1 N (ints .i64 (tab g N)), .row (.slice (some ⟨b2, 0, none⟩) N N) 2 1 N (ints .i64 (pl.set a (nxtTo t s.far g (cst n a) a b)))]) (fun b => N - b) 0 (Nat.zero_le _) ⟨rfl, rfl, rfl, rfl, rfl, rfl, rfl, rfl, rfl, rfl, rfl, trivial⟩ (by show Sub [_, _, _, .row (.slice (some ⟨b2, 0, none⟩) N N) 2 1 N (ints .i64 (pl.set a (-1)))] _; exact Sub.au) ?_
        intro b hb
        rcases Nat.lt_or_ge b N with h3 | h3
        · have iG := tab_elem g h3
          have hlpv : ∀ v : Int, (pl.set a v).length = N := fun v => by rw [List.length_set]; exact hlp
          have hgv := fun v : Int => (show (pl.set a v).getD a 0 = v by rw [List.getD_eq_getElem?_getD, List.getElem?_set_self (by omega)]; rfl)
          have hdJ : 0 ≤ (b : Int) / (sideN s.far : Int) ∧ (b : Int) / (sideN s.far : Int) < 17 := by
            have : (b : Int) / (sideN s.far : Int) = ((b / sideN s.far : Nat) : Int) := by push_cast; rfl
            rw [this]
            exact ⟨Int.natCast_nonneg _, by have := Nat.div_lt_of_lt_mul (show b < sideN s.far * sideN s.far by omega); omega⟩
          have hmJ : 0 ≤ (b : Int) % (sideN s.far : Int) ∧ (b : Int) % (sideN s.far : Int) < 17 := by
            have : (b : Int) % (sideN s.far : Int) = ((b % sideN s.far : Nat) : Int) := by push_cast; rfl
            rw [this]
            exact ⟨Int.natCast_nonneg _, by have := Nat.mod_lt b hsp; omega⟩
          have hd1 : absD (pS s.far a).1 (pS s.far b).1 = max ((a : Int) % (sideN s.far : Int) - (b : Int) % (sideN s.far : Int)) (-((a : Int) % (sideN s.far : Int) - (b : Int) % (sideN s.far : Int))) := by
            rw [hpa.1, show (pS s.far b).1 = (b : Int) % (sideN s.far : Int) - s.far from rfl]; unfold absD; omega
          have hd2 : absD (pS s.far a).2 (pS s.far b).2 = max ((a : Int) / (sideN s.far : Int) - (b : Int) / (sideN s.far : Int)) (-((a : Int) / (sideN s.far : Int) - (b : Int) / (sideN s.far : Int))) := by
            rw [hpa.2, show (pS s.far b).2 = (b : Int) / (sideN s.far : Int) - s.far from rfl]; unfold absD; omega
          have eD : dstP s.far a b = absD (pS s.far a).1 (pS s.far b).1 + absD (pS s.far a).2 (pS s.far b).2 := rfl
          have eN : nearP s.far a b ↔ absD (pS s.far a).1 (pS s.far b).1 ≤ 1 ∧ absD (pS s.far a).2 (pS s.far b).2 ≤ 1 := Iff.rfl
          have eX : nxtTo t s.far g (cst n a) a (b + 1) = if nearP s.far a b ∧ 0 ≤ g b then (if nxtTo t s.far g (cst n a) a b < 0 ∨ cst n a + dstP s.far a b * t + g b < nxtTo t s.far g (cst n a) a b then cst n a + dstP s.far a b * t + g b else nxtTo t s.far g (cst n a) a b) else nxtTo t s.far g (cst n a) a b := rfl
          rw [hd1, hd2] at eD eN
          rw [eD] at eX
          have hgb := hrj b
          clear hd1 hd2 eD
          generalize nxtTo t s.far g (cst n a) a b = v at *
          generalize hgq : g b = q at *
          have hlv := hlpv v
          have hgv1 := hgv v
          by_cases hne : nearP s.far a b
          · have hn2 := eN.1 hne
            have hP := mul_in (a := max ((a : Int) % (sideN s.far : Int) - (b : Int) % (sideN s.far : Int)) (-((a : Int) % (sideN s.far : Int) - (b : Int) % (sideN s.far : Int))) + max ((a : Int) / (sideN s.far : Int) - (b : Int) / (sideN s.far : Int)) (-((a : Int) / (sideN s.far : Int) - (b : Int) / (sideN s.far : Int)))) (b := t) (A := 2) (B := 1048576) (by omega) ht
            by_cases hq0 : 0 ≤ q
            · rw [if_pos ⟨hne, hq0⟩] at eX
              refine z_tas
              refine c_dvL [] (0 :: 1 :: 2 :: 3 :: 4 :: 5 :: 6 :: 7 :: 8 :: []) (.nil _) ?_; intro _
              refine z_govG
              all_goals (refine c_dvL [] (0 :: 1 :: 2 :: 3 :: 4 :: 5 :: 6 :: 7 :: 8 :: []) (.nil _) ?_; intro _)
              all_goals (refine z_govG)
              all_goals first
                | (refine c_round (b + 1) h3 (by show N - (b + 1) < N - b; omega) ⟨rfl, rfl, rfl, rfl, rfl, rfl, rfl, rfl, rfl, rfl, by simp [look], trivial⟩ ?_; rw [eX, if_pos (by omega), List.set_set]; exact Sub.au)
                | (refine c_round (b + 1) h3 (by show N - (b + 1) < N - b; omega) ⟨rfl, rfl, rfl, rfl, rfl, rfl, rfl, rfl, rfl, rfl, by simp [look], trivial⟩ ?_; rw [eX, if_neg (by omega)]; exact Sub.au)
                | (exfalso; omega)
            · rw [if_neg (fun h => hq0 h.2)] at eX
              refine z_tas
              refine c_dvL [] (0 :: 1 :: 2 :: 3 :: 4 :: 5 :: 6 :: 7 :: 8 :: []) (.nil _) ?_; intro _
              refine z_govG
              all_goals (refine c_dvL [] (0 :: 1 :: 2 :: 3 :: 4 :: 5 :: 6 :: 7 :: 8 :: []) (.nil _) ?_; intro _)
              all_goals (refine z_govG)
              all_goals first
                | exact c_round (b + 1) h3 (by show N - (b + 1) < N - b; omega) ⟨rfl, rfl, rfl, rfl, rfl, rfl, rfl, rfl, rfl, rfl, by simp [look], trivial⟩ (by rw [eX]; exact Sub.au)
                | (exfalso; omega)
          · rw [if_neg (fun h => hne h.1)] at eX
            have hn2 := fun h => hne (eN.2 h)
            refine z_tas
            refine c_dvL [] (0 :: 1 :: 2 :: 3 :: 4 :: 5 :: 6 :: 7 :: 8 :: []) (.nil _) ?_; intro _
            refine z_govG
            all_goals (refine c_dvL [] (0 :: 1 :: 2 :: 3 :: 4 :: 5 :: 6 :: 7 :: 8 :: []) (.nil _) ?_; intro _)
            all_goals (refine z_govG)
            all_goals first
              | exact c_round (b + 1) h3 (by show N - (b + 1) < N - b; omega) ⟨rfl, rfl, rfl, rfl, rfl, rfl, rfl, rfl, rfl, rfl, by simp [look], trivial⟩ (by rw [eX]; exact Sub.au)
              | (exfalso; exact hn2 ⟨by omega, by omega⟩)
        · obtain rfl : b = N := by omega
          rw [hset]
          refine z_tas
          refine c_round (a + 1) h2 (by show b - (a + 1) < b - a; omega) ⟨rfl, rfl, rfl, rfl, rfl, rfl, rfl, rfl, by simp [look], trivial⟩ ?_
          refine sub_cast (S' := [.blk b4 31 [.int .i64 W, .int .i64 H, .slice A f.length c], .blk b5 26 (schE s), .row (.slice (some ⟨b1, 0, none⟩) b b) 2 1 b (ints .i64 (tab g b)), .row (.slice (some ⟨b2, 0, none⟩) b b) 2 1 b (ints .i64 (prt (bck t s.far b cst l.length (j + 1)) b (a + 1)))]) ?_ Sub.au
          rw [← hg]
    · obtain rfl : a = N := by omega
      rw [prt_all]
      refine z_tas
      refine c_round (k + 1, b2) h (by show l.length - (k + 1) < l.length - k; omega) ⟨rfl, rfl, rfl, rfl, rfl, rfl, by simp [look]; omega, trivial⟩ ?_
      show Sub [_, _, .row (.slice (some ⟨b2, 0, none⟩) a a) 2 1 a (ints .i64 (tab (bck t s.far a cst l.length k) a))] _
      exact Sub.au
  · obtain rfl : k = l.length := by omega
    obtain ⟨m, hm⟩ : ∃ m, l.length = m + 1 := ⟨l.length - 1, by omega⟩
    rw [hm] at hbb ⊢
    rw [restL, Nat.add_sub_cancel]
    have hb1 := fun a => hbb m a
    generalize bck t s.far N cst (m + 1) m = g at *
    have htl := tab_len g N
    refine z_tas
    refine c_loop (X := Nat) (fun i => i ≤ N) (fun i => [(10, .slice (some ⟨b1, 0, none⟩) N N), (19, .int .i64 (bsv g i)), (20, .int .i64 i)]) (fun _ => [.row (.slice (some ⟨b1, 0, none⟩) N N) 2 1 N (ints .i64 (tab g N))]) (fun i => N - i) 0 (Nat.zero_le _) ⟨rfl, rfl, rfl, trivial⟩ Sub.au ?_
    intro i hi
    rcases Nat.lt_or_ge i N with h | h
    · have iE := tab_elem g h
      have e1 : bsv g (i + 1) = if 0 ≤ g i ∧ (bsv g i < 0 ∨ g i < bsv g i) then g i else bsv g i := rfl
      generalize bsv g i = v at *
      generalize g i = x at *
      refine z_tas
      all_goals first
        | exact c_round (i + 1) h (by show N - (i + 1) < N - i; omega) ⟨rfl, by rw [e1, if_pos (by omega)]; rfl, by simp [look], trivial⟩ Sub.au
        | exact c_round (i + 1) h (by show N - (i + 1) < N - i; omega) ⟨rfl, by rw [e1, if_neg (by omega)]; rfl, by simp [look], trivial⟩ Sub.au
        | (exfalso; omega)
    · obtain rfl : i = N := by omega
      refine z_tas
      exact j_out1 rfl rfl (.nil _) ⟨rfl, rfl⟩
end Go.Proofs.YtemmnpgebpffbaaGreat
