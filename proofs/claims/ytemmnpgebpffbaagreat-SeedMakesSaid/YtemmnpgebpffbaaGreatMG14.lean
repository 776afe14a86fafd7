
import Derived.Test.YtemmnpgebpffbaaGreatMG13
set_option linter.unusedVariables false
set_option linter.unusedSimpArgs false
/- Packages grid and theodoliteref14: even grids, what is wrong with one, are two the same? -/
namespace Go.Proofs.YtemmnpgebpffbaaGreat
open Go.RowKit
/-- A grid, and its row. -/
def GrR (g : Grd) (v : Value) (S : List HE) : Prop := ∃ A c, v = .agg (grE g A c).toArray ∧ S = [.row (.slice A g.p.length c) 2 1 g.p.length (ints .i64 g.p)]
def sidesOk (w h st : Int) : Prop := (1 ≤ w ∧ w ≤ 64) ∧ (1 ≤ h ∧ h ≤ 64) ∧ 16 ≤ st ∧ st ≤ 4096
instance (w h st : Int) : Decidable (sidesOk w h st) := by unfold sidesOk; infer_instance
def evenL (n : Nat) : List Int := tab (fun _ => 1073741824 / (n : Int)) n
def evenG (w h x y st : Int) : Grd := ⟨w, h, x, y, st, evenL (w * h).toNat⟩
attribute [local irreducible] OJ J HdJ Code.wpIn wpListIn Oper.wpIn bodyPost CallsIn Does
set_option maxRecDepth 4000
set_option maxHeartbeats 32000000 in
instance sides_cv (w h st : Int) : CV Tryz.prog 68 [.int .i64 w, .int .i64 h, .int .i64 st] (.bool (decide (sidesOk w h st))) True := ⟨fun _ w0 => by
  refine does_of Tryz.func68 rfl Tryz.ntmps68 rfl ⟨by simp, .nil⟩ (fun n => ?_)
  simp only [slots]
  refine z_tas
  all_goals exact j_out1 rfl rfl (.nil _) ⟨congrArg Value.bool (by rw [Bool.eq_iff_iff, decide_eq_true_eq (p := sidesOk w h st)]; unfold sidesOk; simp only [decide_eq_true_eq, Bool.false_eq_true, false_iff]; omega), rfl⟩⟩
instance glen_cv (w h x y st : Int) (A : Option Addr) (m c : Nat) : CV Tryz.prog 67 [.agg #[.int .i64 w, .int .i64 h, .int .i64 x, .int .i64 y, .int .i64 st, .slice A m c]] (.int .i64 (w * h)) (InR .i64 (w * h)) := ⟨fun hc w0 => by
  refine does_of Tryz.func67 rfl Tryz.ntmps67 rfl ⟨by simp, .nil⟩ (fun n => ?_)
  simp only [slots]
  refine z_tas
  exact j_out1 rfl rfl (.nil _) ⟨rfl, rfl⟩⟩
set_option maxHeartbeats 64000000 in
theorem even_any (w h x y st : Int) (w0 : World) (hok : sidesOk w h st) : Does Tryz.prog 63 [.int .i64 w, .int .i64 h, .int .i64 x, .int .i64 y, .int .i64 st] [] w0
    (fun v S' => ∃ u, v = .tuple #[u, .int .i64 0] ∧ GrR (evenG w h x y st) u S') := by
  obtain ⟨⟨w1, w2⟩, ⟨h1, h2⟩, s1, s2⟩ := hok
  obtain ⟨N, hN⟩ : ∃ N : Nat, (w * h).toNat = N := ⟨_, rfl⟩
  have hm := mul_in (a := w) (b := h) (A := 64) (B := 64) (by omega) (by omega)
  have hp : 0 < w * h := Int.mul_pos (by omega) (by omega)
  have hN2 : w * h = (N : Int) := by omega
  have hN3 : 0 < N ∧ N ≤ 4096 := by omega
  have iM : ∀ w0 W H t u a b, MS Tryz.prog w0 W H (.binOp .mul t a b u) [.int .i64 w, .int .i64 h] (.int .i64 (N : Int)) True := fun _ _ _ _ _ _ _ => msM inferInstance (by show (-9223372036854775808 : Int) ≤ _ ∧ _ ≤ (9223372036854775807 : Int); omega) (by rw [hN2])
  unfold evenG evenL
  rw [hN]
  have hset := fun i (hi : i < N) => prt_set (fun _ => 1073741824 / (N : Int)) hi
  have hlen := fun i (hi : i ≤ N) => prt_len (fun _ => 1073741824 / (N : Int)) hi
  have hq : 0 ≤ 1073741824 / (N : Int) ∧ 1073741824 / (N : Int) ≤ 1073741824 := ⟨Int.ediv_nonneg (by omega) (by omega), Int.ediv_le_self _ (by omega)⟩
  refine does_of Tryz.func63 rfl Tryz.ntmps63 rfl ⟨by simp, .nil⟩ (fun n => ?_)
  simp only [slots]
  clear hm hp hN
  refine z_tas
  rename_i b10 b12 _ _ _ _ _ _ bp
  refine c_loop (X := Nat) (fun i => i ≤ N) (fun i => [(0, .int .i64 w), (1, .int .i64 h), (10, .pointer (some ⟨b10, 0, none⟩)), (12, .pointer (some ⟨b12, 0, none⟩)), (50, .int .i64 N), (51, .int .i64 i)])
    (fun i => [.row (.slice (some ⟨bp, 0, none⟩) N N) 2 1 N (ints .i64 (prt (fun _ => 1073741824 / (N : Int)) N i)), .blk b12 60 [.int .i64 w, .int .i64 h, .int .i64 x, .int .i64 y, .int .i64 st, .slice (some ⟨bp, 0, none⟩) N N], .blk b10 60 grN]) (fun i => N - i) 0 (Nat.zero_le _) ⟨rfl, rfl, rfl, rfl, rfl, rfl, trivial⟩ (by show Sub [.row (.slice (some ⟨bp, 0, none⟩) N N) 2 1 N (ints .i64 (List.replicate N 0)), _, _] _; exact Sub.au) ?_
  intro i hi
  have hlen1 := hlen i hi
  rcases Nat.lt_or_ge i N with h3 | h3
  · have hset1 := hset i h3
    refine z_tas
    refine c_round (i + 1) h3 (by show N - (i + 1) < N - i; omega) ⟨rfl, rfl, rfl, rfl, rfl, by simp [look], trivial⟩ ?_
    rw [← hset1]
    exact Sub.au
  · obtain rfl : i = N := by omega
    rw [prt_all]
    have htl := tab_len (fun _ => 1073741824 / (i : Int)) i
    refine z_tas
    refine j_outK (S' := [.row (.slice (some ⟨bp, 0, none⟩) i i) 2 1 i (ints .i64 (tab (fun _ => 1073741824 / (i : Int)) i))]) Sub.au ?_
    refine z_rk
    refine ⟨_, rfl, some ⟨bp, 0, none⟩, i, ?_, ?_⟩
    · show _ = Value.agg #[_, _, _, _, _, .slice _ (tab (fun _ => 1073741824 / (i : Int)) i).length _]
      rw [htl]
    · show _ = [HE.row (.slice _ (tab (fun _ => 1073741824 / (i : Int)) i).length _) _ _ (tab (fun _ => 1073741824 / (i : Int)) i).length _]
      rw [htl]
theorem even_bad (w h x y st : Int) (w0 : World) (hok : ¬ sidesOk w h st) : Does Tryz.prog 63 [.int .i64 w, .int .i64 h, .int .i64 x, .int .i64 y, .int .i64 st] [] w0
    (fun v S' => v = .tuple #[.agg (grN).toArray, .int .i64 2] ∧ S' = []) := by
  refine does_of Tryz.func63 rfl Tryz.ntmps63 rfl ⟨by simp, .nil⟩ (fun n => ?_)
  simp only [slots]
  unfold sidesOk at hok
  refine z_tas
  all_goals first
    | (refine z_ro; exact ⟨rfl, rfl⟩)
    | (exfalso; omega)
set_option maxHeartbeats 64000000 in
theorem reven_any (w h x y st : Int) (w0 : World) (hok : sidesOk w h st) : Does Tryz.prog 30 [.int .i64 w, .int .i64 h, .int .i64 x, .int .i64 y, .int .i64 st] [] w0
    (fun v S' => ∃ u, v = .tuple #[u, .int .i64 0] ∧ GrR (evenG w h x y st) u S') := by
  have hok' := hok
  obtain ⟨⟨w1, w2⟩, ⟨h1, h2⟩, s1, s2⟩ := hok'
  obtain ⟨N, hN⟩ : ∃ N : Nat, (w * h).toNat = N := ⟨_, rfl⟩
  have hm := mul_in (a := w) (b := h) (A := 64) (B := 64) (by omega) (by omega)
  have hp : 0 < w * h := Int.mul_pos (by omega) (by omega)
  have hN2 : w * h = (N : Int) := by omega
  have hN3 : 0 < N ∧ N ≤ 4096 := by omega
  have iM : ∀ w0 W H t u a b, MS Tryz.prog w0 W H (.binOp .mul t a b u) [.int .i64 w, .int .i64 h] (.int .i64 (N : Int)) True := fun _ _ _ _ _ _ _ => msM inferInstance (by show (-9223372036854775808 : Int) ≤ _ ∧ _ ≤ (9223372036854775807 : Int); omega) (by rw [hN2])
  have iM2 : ∀ t u a b, PV Tryz.prog (.binOp .mul t a b u) [.int .i64 w, .int .i64 h] (.int .i64 (N : Int)) True := fun _ _ _ _ => ⟨fun _ => by rw [← hN2]; exact (inferInstance : PV _ _ _ _ _).h (by show (-9223372036854775808 : Int) ≤ _ ∧ _ ≤ (9223372036854775807 : Int); omega)⟩
  unfold evenG evenL
  rw [hN]
  have hq : 0 ≤ 1073741824 / (N : Int) ∧ 1073741824 / (N : Int) ≤ 1073741824 := ⟨Int.ediv_nonneg (by omega) (by omega), Int.ediv_le_self _ (by omega)⟩
  have hs := sides_cv w h st
  rw [decide_eq_true hok] at hs
  refine does_of Tryz.func30 rfl Tryz.ntmps30 rfl ⟨by simp, .nil⟩ (fun n => ?_)
  simp only [slots]
  clear hm hp hN
  refine j_nil (e := 2) (size := 1) ?_
  refine z_tas
  rename_i b10 b12
  refine c_loop (X := Nat × Option Addr × Nat) (fun q => q.1 ≤ N) (fun q => [(0, .int .i64 w), (1, .int .i64 h), (10, .pointer (some ⟨b10, 0, none⟩)), (12, .pointer (some ⟨b12, 0, none⟩)), (13, .int .i64 q.1)])
    (fun q => [.row (.slice q.2.1 (tab (fun _ => 1073741824 / (N : Int)) q.1).length q.2.2) 2 1 (tab (fun _ => 1073741824 / (N : Int)) q.1).length (ints .i64 (tab (fun _ => 1073741824 / (N : Int)) q.1)), .blk b12 60 [.int .i64 w, .int .i64 h, .int .i64 x, .int .i64 y, .int .i64 st, .slice q.2.1 (tab (fun _ => 1073741824 / (N : Int)) q.1).length q.2.2], .blk b10 60 grN]) (fun q => N - q.1) (0, none, 0) (Nat.zero_le _) ⟨rfl, rfl, rfl, rfl, rfl, trivial⟩ (by show Sub [.row (.slice none 0 0) 2 1 0 [], .blk b12 60 [.int .i64 w, .int .i64 h, .int .i64 x, .int .i64 y, .int .i64 st, .slice none 0 0], _] _; exact Sub.au) ?_
  rintro ⟨i, A, c⟩ hi
  dsimp only at hi ⊢
  have htl := tab_len (fun _ => 1073741824 / (N : Int)) i
  have e : tab (fun _ => 1073741824 / (N : Int)) (i + 1) = tab (fun _ => 1073741824 / (N : Int)) i ++ [1073741824 / (N : Int)] := rfl
  have htl1 := tab_len (fun _ => 1073741824 / (N : Int)) (i + 1)
  rcases Nat.lt_or_ge i N with h3 | h3
  · refine z_tas
    refine c_dvL [] (0 :: 1 :: 2 :: 3 :: 4 :: 5 :: 6 :: 7 :: 8 :: 9 :: []) (.nil _) ?_; intro _
    refine z_gvs
    all_goals
      rename_i b1 A1 c1
      refine c_round (i + 1, A1, c1) h3 (by show N - (i + 1) < N - i; omega) ⟨rfl, rfl, rfl, rfl, by simp [look], trivial⟩ ?_
      simp only [e]
      exact Sub.au
  · obtain rfl : i = N := by omega
    refine z_tas
    refine j_outK (S' := [.row (.slice A (tab (fun _ => 1073741824 / (i : Int)) i).length c) 2 1 (tab (fun _ => 1073741824 / (i : Int)) i).length (ints .i64 (tab (fun _ => 1073741824 / (i : Int)) i))]) Sub.au ?_
    refine z_rk
    exact ⟨_, rfl, A, c, rfl, rfl⟩
theorem reven_bad (w h x y st : Int) (w0 : World) (hok : ¬ sidesOk w h st) : Does Tryz.prog 30 [.int .i64 w, .int .i64 h, .int .i64 x, .int .i64 y, .int .i64 st] [] w0
    (fun v S' => v = .tuple #[.agg (grN).toArray, .int .i64 2] ∧ S' = []) := by
  have hs := sides_cv w h st
  rw [decide_eq_false hok] at hs
  refine does_of Tryz.func30 rfl Tryz.ntmps30 rfl ⟨by simp, .nil⟩ (fun n => ?_)
  simp only [slots]
  refine z_tas
  refine z_ro
  exact ⟨rfl, rfl⟩
/-- Are two grids the same? -/
def sameTo (a b : List Int) : Nat → Bool
  | 0 => true
  | i + 1 => sameTo a b i && decide (a.getD i 0 = b.getD i 0)
theorem sameTo_refl (a : List Int) : ∀ n, sameTo a a n = true
  | 0 => rfl
  | n + 1 => by rw [sameTo, sameTo_refl a n]; simp
theorem sameTo_no {a b : List Int} {i : Nat} (h : a.getD i 0 ≠ b.getD i 0) : ∀ n, i < n → sameTo a b n = false
  | n + 1, hn => by
    rw [sameTo]
    rcases Nat.lt_or_ge i n with h1 | h1
    · rw [sameTo_no h n h1]; rfl
    · obtain rfl : i = n := by omega
      rw [decide_eq_false h, Bool.and_false]
def sameG (a b : Grd) : Bool := decide (a.w = b.w ∧ a.h = b.h ∧ a.x = b.x ∧ a.y = b.y ∧ a.st = b.st ∧ a.p.length = b.p.length) && sameTo a.p b.p a.p.length
theorem sameG_refl (a : Grd) : sameG a a = true := by unfold sameG; rw [sameTo_refl]; simp
set_option maxHeartbeats 128000000 in
theorem rsame14_any (a b : Grd) (A B : Option Addr) (ca cb : Nat) (w : World) (hra : RoA w (blocks []) A a.p.length ca 1 (ints .i64 a.p)) (hrb : RoA w (blocks []) B b.p.length cb 1 (ints .i64 b.p)) (hm : a.p.length ≤ 1000000 ∧ b.p.length ≤ 1000000) :
    Does Tryz.prog 27 [.agg (grE a A ca).toArray, .agg (grE b B cb).toArray] [] w (fun v S' => v = .bool (sameG a b) ∧ S' = []) := by
  obtain ⟨w1, h1, x1, y1, s1, p1⟩ := a
  obtain ⟨w2, h2, x2, y2, s2, p2⟩ := b
  dsimp only at hra hrb hm
  dsimp only [grE]
  refine does_of Tryz.func27 rfl Tryz.ntmps27 rfl ⟨by simp, .nil⟩ (fun n => ?_)
  simp only [slots]
  by_cases hd : w1 = w2 ∧ h1 = h2 ∧ x1 = x2 ∧ y1 = y2 ∧ s1 = s2 ∧ p1.length = p2.length
  · have e : sameG ⟨w1, h1, x1, y1, s1, p1⟩ ⟨w2, h2, x2, y2, s2, p2⟩ = sameTo p1 p2 p1.length := by unfold sameG; rw [decide_eq_true hd]; rfl
    rw [e]
    obtain ⟨rfl, rfl, rfl, rfl, rfl, hlen⟩ := hd
    refine z_tas
    rename_i b2 b3 _
    refine c_loop (X := Nat) (fun i => i ≤ p1.length ∧ sameTo p1 p2 i = true) (fun i => [(2, .pointer (some ⟨b2, 0, none⟩)), (3, .pointer (some ⟨b3, 0, none⟩)), (5, .int .i64 i)])
      (fun _ => [.blk b2 60 [.int .i64 w1, .int .i64 h1, .int .i64 x1, .int .i64 y1, .int .i64 s1, .slice A p1.length ca], .blk b3 60 [.int .i64 w1, .int .i64 h1, .int .i64 x1, .int .i64 y1, .int .i64 s1, .slice B p2.length cb]]) (fun i => p1.length - i) 0 ⟨Nat.zero_le _, rfl⟩ ⟨rfl, rfl, rfl, trivial⟩ Sub.au ?_
    rintro i ⟨hi, hok⟩
    rcases Nat.lt_or_ge i p1.length with h | h
    · obtain ⟨bA, oA, rfl, hRA⟩ := hra.at_ (by omega : 0 < p1.length)
      obtain ⟨bB, oB, rfl, hRB⟩ := hrb.at_ (by omega : 0 < p2.length)
      have en : sameTo p1 p2 (i + 1) = (sameTo p1 p2 i && decide (p1.getD i 0 = p2.getD i 0)) := rfl
      have eb := fun q => sameTo_no (a := p1) (b := p2) (i := i) q p1.length h
      rw [hok, Bool.true_and] at en
      refine z_tas
      · rename_i hne
        exact j_out1 rfl rfl (.nil _) ⟨congrArg Value.bool (eb hne).symm, rfl⟩
      · rename_i hne
        exact c_round (i + 1) ⟨h, by rw [en]; exact decide_eq_true (Classical.not_not.1 hne)⟩ (by show p1.length - (i + 1) < p1.length - i; omega) ⟨rfl, rfl, by simp [look], trivial⟩ Sub.au
    · obtain rfl : i = p1.length := by omega
      rw [hok]
      refine z_tas
      exact j_out1 rfl rfl (.nil _) ⟨rfl, rfl⟩
  · have e : sameG ⟨w1, h1, x1, y1, s1, p1⟩ ⟨w2, h2, x2, y2, s2, p2⟩ = false := by unfold sameG; rw [decide_eq_false hd]; rfl
    rw [e]
    refine z_tas
    all_goals first
      | exact j_out1 rfl rfl (.nil _) ⟨rfl, rfl⟩
      | (exfalso; apply hd; omega)
end Go.Proofs.YtemmnpgebpffbaaGreat
/- Two digits divided by one, digit by digit: the plain law. -/
namespace Go.Proofs.YtemmnpgebpffbaaGreat
theorem kn_bad {u y1 y0 d q r : Nat} (hu : u = q * y1 + r) (hlt : u < y1 * 4294967296 + y0) (hd : d < 4294967296) (h : 4294967296 ≤ q ∨ r * 4294967296 + d < q * y0) : u * 4294967296 + d < q * (y1 * 4294967296 + y0) := by
  rcases h with h | h
  · have h1 := Nat.mul_le_mul_right (y1 * 4294967296 + y0) h
    refine Nat.lt_of_lt_of_le ?_ h1
    omega
  · have e : q * (y1 * 4294967296 + y0) = q * y1 * 4294967296 + q * y0 := by rw [Nat.mul_add, Nat.mul_assoc]
    obtain ⟨m, hm⟩ : ∃ m, q * y1 = m := ⟨_, rfl⟩
    obtain ⟨n, hn⟩ : ∃ m, q * y0 = m := ⟨_, rfl⟩
    rw [hm, hn] at e
    rw [hm] at hu
    rw [hn] at h
    rw [e]
    clear e hd hlt
    subst hu
    rw [Nat.add_mul, Nat.add_assoc]
    exact Nat.add_lt_add_left h _
theorem kn_ok {u y1 y0 d q r : Nat} (hu : u = q * y1 + r) (h : q * y0 ≤ r * 4294967296 + d) : q * (y1 * 4294967296 + y0) ≤ u * 4294967296 + d := by
  have e : q * (y1 * 4294967296 + y0) = q * y1 * 4294967296 + q * y0 := by rw [Nat.mul_add, Nat.mul_assoc]
  obtain ⟨m, hm⟩ : ∃ m, q * y1 = m := ⟨_, rfl⟩
  obtain ⟨n, hn⟩ : ∃ m, q * y0 = m := ⟨_, rfl⟩
  rw [hm, hn] at e
  rw [hm] at hu
  rw [hn] at h
  rw [e]
  omega
theorem kn_break {u y1 y0 q r : Nat} (d : Nat) (hu : u = q * y1 + r) (hlt : u < y1 * 4294967296 + y0) (hy0 : y0 < 4294967296) (h : 4294967296 ≤ r) : q * y0 ≤ r * 4294967296 + d := by
  have h1 : q * y1 < 4294967296 * y1 := by omega
  have h2 := Nat.lt_of_mul_lt_mul_right h1
  have h3 := Nat.mul_le_mul (Nat.le_of_lt h2) (Nat.le_of_lt (Nat.lt_of_lt_of_le hy0 h))
  omega
/-- The digit: what the guess comes down to. -/
theorem kn_dig {u Y d q : Nat} (h1 : (u * 4294967296 + d) / Y ≤ q) (h2 : q * Y ≤ u * 4294967296 + d) (hY : 0 < Y) : (u * 4294967296 + d) / Y = q :=
  Nat.le_antisymm h1 ((Nat.le_div_iff_mul_le hY).2 h2)
theorem kn_step {u Y d q : Nat} (hY : 0 < Y) (h1 : (u * 4294967296 + d) / Y ≤ q) (h2 : u * 4294967296 + d < q * Y) : (u * 4294967296 + d) / Y ≤ q - 1 ∧ 1 ≤ q := by
  have := (Nat.div_lt_iff_lt_mul hY).2 h2
  generalize (u * 4294967296 + d) / Y = m at *
  omega
theorem kn_first {u y1 y0 d : Nat} (hy : 0 < y1) (hd : d < 4294967296) : (u * 4294967296 + d) / (y1 * 4294967296 + y0) ≤ u / y1 := by
  have h0 : (u * 4294967296 + d) / (y1 * 4294967296 + y0) < u / y1 + 1 := by
    rw [Nat.div_lt_iff_lt_mul (by omega)]
    have h1 := Nat.div_add_mod u y1
    have h2 := Nat.mod_lt u hy
    have h3 : u < (u / y1 + 1) * y1 := by rw [Nat.add_mul, Nat.one_mul, Nat.mul_comm]; omega
    have e : (u / y1 + 1) * (y1 * 4294967296 + y0) = (u / y1 + 1) * y1 * 4294967296 + (u / y1 + 1) * y0 := by rw [Nat.mul_add, Nat.mul_assoc]
    rw [e]
    generalize (u / y1 + 1) * y0 = m at *
    generalize (u / y1 + 1) * y1 = n at *
    omega
  omega
theorem kn_lt {u Y d : Nat} (hu : u < Y) (hd : d < 4294967296) : (u * 4294967296 + d) / Y < 4294967296 := by
  rw [Nat.div_lt_iff_lt_mul (by omega)]
  omega
/-- Both digits together. -/
theorem kn_two {N y P : Nat} (hy : 0 < y) (hP : 0 < P) {U L q1 r1 : Nat} (hU : U = N * P / 18446744073709551616) (hL : L = N * P % 18446744073709551616) (h1 : q1 = (U * 4294967296 + L / 4294967296) / (y * P)) (h2 : r1 = (U * 4294967296 + L / 4294967296) % (y * P)) :
    q1 * 4294967296 + (r1 * 4294967296 + L % 4294967296) / (y * P) = N / y ∧ (r1 * 4294967296 + L % 4294967296) % (y * P) / P = N % y := by
  have hY : 0 < y * P := Nat.mul_pos hy hP
  have e1 := Nat.div_add_mod (N * P) 18446744073709551616
  rw [← hU, ← hL] at e1
  have e2 := Nat.div_add_mod (U * 4294967296 + L / 4294967296) (y * P)
  rw [← h1, ← h2] at e2
  have e3 := Nat.div_add_mod (r1 * 4294967296 + L % 4294967296) (y * P)
  have l3 := Nat.mod_lt (r1 * 4294967296 + L % 4294967296) hY
  obtain ⟨q0, hq0⟩ : ∃ m, (r1 * 4294967296 + L % 4294967296) / (y * P) = m := ⟨_, rfl⟩
  obtain ⟨r0, hr0⟩ : ∃ m, (r1 * 4294967296 + L % 4294967296) % (y * P) = m := ⟨_, rfl⟩
  rw [hq0, hr0] at e3
  rw [hr0] at l3
  rw [hq0, hr0]
  have e4 : N * P = y * P * (q1 * 4294967296 + q0) + r0 := by
    rw [Nat.mul_add, ← Nat.mul_assoc (y * P) q1]
    obtain ⟨m, hm⟩ : ∃ m, y * P * q1 = m := ⟨_, rfl⟩
    obtain ⟨n, hn⟩ : ∃ m, y * P * q0 = m := ⟨_, rfl⟩
    rw [hm] at e2 ⊢
    rw [hn] at e3 ⊢
    omega
  clear e1 e2 e3
  have e5 : N * P / (y * P) = q1 * 4294967296 + q0 := by
    rw [e4, Nat.mul_add_div hY, Nat.div_eq_of_lt l3, Nat.add_zero]
  have e6 : N * P % (y * P) = r0 := by
    rw [e4, Nat.mul_add_mod, Nat.mod_eq_of_lt l3]
  rw [Nat.mul_div_mul_right N y hP] at e5
  rw [Nat.mul_mod_mul_right] at e6
  exact ⟨e5.symm, by rw [← e6, Nat.mul_div_cancel _ hP]⟩
theorem kn_top {hi lo s : Nat} (hs : s ≤ 63) (hlo : lo < 18446744073709551616) : (hi * 18446744073709551616 + lo) * 2 ^ s / 18446744073709551616 = hi * 2 ^ s + lo / 2 ^ (64 - s) ∧ lo / 2 ^ (64 - s) < 2 ^ s := by
  have e : (18446744073709551616 : Nat) = 2 ^ (64 - s) * 2 ^ s := by rw [← Nat.pow_add, show 64 - s + s = 64 by omega]
  have hp : 0 < 2 ^ s := Nat.pow_pos (by omega)
  constructor
  · rw [Nat.add_mul, Nat.mul_right_comm, Nat.mul_comm (hi * 2 ^ s), Nat.mul_add_div (by omega)]
    congr 1
    rw [e, Nat.mul_div_mul_right _ _ hp]
  · rw [Nat.div_lt_iff_lt_mul (Nat.pow_pos (by omega)), Nat.mul_comm, ← e]
    exact hlo
theorem kn_low {hi lo s : Nat} : (hi * 18446744073709551616 + lo) * 2 ^ s % 18446744073709551616 = lo * 2 ^ s % 18446744073709551616 := by
  rw [Nat.add_mul, Nat.mul_right_comm, Nat.mul_comm (hi * 2 ^ s), Nat.mul_add_mod]
theorem kn_less {hi lo y P : Nat} (h : hi < y) (hP : 0 < P) (hlo : lo < 18446744073709551616) : (hi * 18446744073709551616 + lo) * P / 18446744073709551616 < y * P := by
  have h1 : hi * 18446744073709551616 + lo < y * 18446744073709551616 := by omega
  rw [Nat.div_lt_iff_lt_mul (by omega)]
  have h2 := Nat.mul_lt_mul_of_pos_right h1 hP
  rwa [Nat.mul_right_comm] at h2
end Go.Proofs.YtemmnpgebpffbaaGreat
