import Derived.Laws.Cover3
import Derived.Test.YtemmnpgebpffbaaGreatMG17
set_option linter.unusedVariables false
set_option linter.unusedSimpArgs false
/- Packages grid and theodoliteref14: grids weighed. -/
namespace Go.Proofs.YtemmnpgebpffbaaGreat
open Go.RowKit
section
variable {P : Program} {w0 : World} {W : Nat → Prop} {H : List HE}
theorem run_eqlS (w : World) {t e : TypeId} (a : Option Addr) (l c : Nat) (h : P.underlying t = some (.slice e)) : (binOp .eql t (.slice a l c) (.slice none 0 0)).run P w = .ok (.bool a.isNone) w := by
  simp only [binOp]
  simp [run_equal_slice_nil w t e a l c h]
instance (t u e : TypeId) (x y : Operand) (a : Addr) (l c : Nat) [hu : Und P t (.slice e)] : MS P w0 W H (.binOp .eql t x y u) [.slice (some a) l c, .slice none 0 0] (.bool false) True :=
  ⟨fun _ _ _ _ _ _ _ _ _ _ _ _ _ _ h1 h2 h3 => o_val (by simp) rfl h2 (fun a w ha hw => by
    obtain ⟨p, q⟩ := vals2 h1
    simp [execOp, ha.eval p, ha.eval q, eqGuard, run_eqlS w _ _ _ hu.h]) h3⟩
instance (t u e : TypeId) (x y : Operand) [hu : Und P t (.slice e)] : MS P w0 W H (.binOp .eql t x y u) [.slice none 0 0, .slice none 0 0] (.bool true) True :=
  ⟨fun _ _ _ _ _ _ _ _ _ _ _ _ _ _ h1 h2 h3 => o_val (by simp) rfl h2 (fun a w ha hw => by
    obtain ⟨p, q⟩ := vals2 h1
    simp [execOp, ha.eval p, ha.eval q, eqGuard, run_eqlS w _ _ _ hu.h]) h3⟩
end
attribute [local irreducible] OJ J HdJ Code.wpIn wpListIn Oper.wpIn bodyPost CallsIn Does
set_option maxRecDepth 4000
set_option maxHeartbeats 32000000 in
theorem clone_any (A : Option Addr) (c : Nat) (l : List Int) (w : World) (hr : RoA w (blocks []) A l.length c 1 (ints .i64 l)) (hl : 0 < l.length ∧ l.length ≤ 1000000) : Does Tryz.prog 103 [.slice A l.length c] [] w
    (fun v S' => ∃ A' c', v = .slice A' l.length c' ∧ S' = [.row (.slice A' l.length c') 2 1 l.length (ints .i64 l)]) := by
  obtain ⟨bL, oL, rfl, hRL⟩ := hr.at_ hl.1
  refine does_of Tryz.func103 rfl Tryz.ntmps103 rfl ⟨by simp, .nil⟩ (fun n => ?_)
  simp only [slots]
  refine z_tas
  exact j_out1 rfl rfl Sub.au ⟨_, _, rfl, rfl⟩
/-- A row of which the first so many are told anew. -/
def mixL (g : Nat → Int) (p : List Int) (i : Nat) : List Int := tab g i ++ p.drop i
theorem mix_len (g : Nat → Int) {p : List Int} {i : Nat} (h : i ≤ p.length) : (mixL g p i).length = p.length := by
  unfold mixL
  rw [List.length_append, tab_len, List.length_drop]
  omega
theorem mix_zero (g : Nat → Int) (p : List Int) : mixL g p 0 = p := rfl
theorem mix_all (g : Nat → Int) (p : List Int) : mixL g p p.length = tab g p.length := by unfold mixL; rw [List.drop_length, List.append_nil]
theorem mix_get (g : Nat → Int) {p : List Int} {i : Nat} (h : i < p.length) : (mixL g p i).getD i 0 = p.getD i 0 := by
  unfold mixL
  rw [List.getD_eq_getElem?_getD, List.getElem?_append_right (by rw [tab_len]; exact Nat.le_refl _), tab_len, Nat.sub_self, List.getElem?_drop, Nat.add_zero, List.getD_eq_getElem?_getD]
theorem mix_set (g : Nat → Int) {p : List Int} {i : Nat} (h : i < p.length) : (mixL g p i).set i (g i) = mixL g p (i + 1) := by
  unfold mixL
  rw [List.set_append_right _ _ (by rw [tab_len]; exact Nat.le_refl _), tab_len, Nat.sub_self, tab, List.append_assoc]
  congr 1
  rw [List.drop_eq_getElem_cons h]
  rfl
set_option maxHeartbeats 32000000 in
instance signw_cv (z : Int) : CV Tryz.prog 102 [.agg (wideV z).toArray] (.int .i64 (if z < 0 then -1 else if z = 0 then 0 else 1)) True := ⟨fun _ w => by
  have h1 : z = 18446744073709551616 * (z / 18446744073709551616) + z % 18446744073709551616 := by omega
  refine does_of Tryz.func102 rfl Tryz.ntmps102 rfl ⟨by simp, .nil⟩ (fun n => ?_)
  simp only [slots, wideV]
  refine z_tas
  all_goals exact j_out1 rfl rfl (.nil _) ⟨congrArg (Value.int .i64) (by split <;> (try split) <;> omega), rfl⟩⟩
set_option maxHeartbeats 128000000 in
theorem weigh_any (g : Grd) (A : Option Addr) (c : Nat) (Al : Option Addr) (cl : Nat) (l : List Int) (w : World) (hr : RoA w (blocks []) A g.p.length c 1 (ints .i64 g.p)) (hrl : RoA w (blocks []) Al l.length cl 1 (ints .i64 l)) (hp : Pos30 g.p) (hw : Wt l) (he : l.length = g.p.length) (hn : 0 < g.p.length ∧ g.p.length ≤ 4096) (hz0 : 0 < wsTo g.p l g.p.length) :
    Does Tryz.prog 65 [.agg (grE g A c).toArray, .slice Al l.length cl] [] w
      (fun v S' => ∃ u, v = .tuple #[u, .agg (wideV (wsTo g.p l g.p.length)).toArray, .int .i64 (mostTo l g.p.length), .int .i64 0] ∧ GrR { g with p := wghL g.p l } u S') := by
  obtain ⟨gw, gh, gx, gy, gs, p⟩ := g
  dsimp only at hr hp he hn hz0 ⊢
  dsimp only [grE]
  have hws := ws_in hp hw he
  have hmo := most_in hw
  have hge := fun i (hi : i < p.length) => ws_ge hp hw he p.length (Nat.le_refl _) hi
  have hwi := fun i (hi : i < p.length) => wgh_in hp hw he hz0 hi
  have hwN := hws p.length (Nat.le_refl _)
  have hwl : wghL p l = tab (wgh p l (wsTo p l p.length)) p.length := rfl
  have hwg : ∀ i, wgh p l (wsTo p l p.length) i = p.getD i 0 * l.getD i 0 * 1073741824 / wsTo p l p.length := fun _ => rfl
  have hr0 := hr
  have hrl0 := hrl
  obtain ⟨bA, oA, rfl, hRA⟩ := hr.at_ hn.1
  obtain ⟨bL, oL, rfl, hRL⟩ := hrl.at_ (by omega : 0 < l.length)
  refine does_of Tryz.func65 rfl Tryz.ntmps65 rfl ⟨by simp, .nil⟩ (fun n => ?_)
  simp only [slots]
  refine z_tas
  rename_i b2 b4 b5 _ b8
  have hr2 := fun (w' : World) (q : RoA w' (blocks []) (some ⟨bA, oA, none⟩) p.length c 1 (ints .i64 p)) => clone_any (some ⟨bA, oA, none⟩) c p w' q (by omega)
  refine c_loop (X := Nat) (fun i => i ≤ p.length) (fun i => [(1, .slice (some ⟨bL, oL, none⟩) l.length cl), (2, .pointer (some ⟨b2, 0, none⟩)), (4, .pointer (some ⟨b4, 0, none⟩)), (5, .pointer (some ⟨b5, 0, none⟩)), (8, .pointer (some ⟨b8, 0, none⟩)), (9, .int .i64 (mostTo l i)), (25, .slice (some ⟨bA, oA, none⟩) p.length c), (26, .int .i64 p.length), (27, .int .i64 i)])
    (fun i => [.blk b8 112 (wideV (wsTo p l i)), .blk b5 112 [.int .i64 0, .int .u64 0], .blk b4 60 grN, .blk b2 60 [.int .i64 gw, .int .i64 gh, .int .i64 gx, .int .i64 gy, .int .i64 gs, .slice (some ⟨bA, oA, none⟩) p.length c]]) (fun i => p.length - i) 0 (Nat.zero_le _) ⟨rfl, rfl, rfl, rfl, rfl, rfl, rfl, rfl, rfl, trivial⟩ (by show Sub [.blk b8 112 [.int .i64 0, .int .u64 0], _, _, _] _; exact Sub.au) ?_
  intro i hi
  rcases Nat.lt_or_ge i p.length with h | h
  · have e1 : wsTo p l (i + 1) = wsTo p l i + p.getD i 0 * l.getD i 0 := rfl
    have e2 : mostTo l (i + 1) = max (mostTo l i) (l.getD i 0) := rfl
    have hpi := hp i h
    have hli := hw i (by omega)
    have hmu := mul_in hpi hli
    have hwsi := hws i hi
    have hmi := hmo i (by omega)
    clear hge hwi hwg hwl hws hmo
    generalize wsTo p l i = ws at *
    generalize mostTo l i = mo at *
    refine z_tas
    refine c_dvL [] (0 :: 1 :: 2 :: 3 :: 4 :: 5 :: 6 :: 7 :: 8 :: 9 :: 10 :: 11 :: []) (.nil _) ?_; intro _
    refine z_govG
    all_goals
      refine c_round (i + 1) h (by show p.length - (i + 1) < p.length - i; omega) ⟨rfl, rfl, rfl, rfl, rfl, by rw [e2]; rfl, rfl, rfl, by simp [look], trivial⟩ ?_
      simp only [e1]
      exact Sub.au
  · obtain rfl : i = p.length := by omega
    have hz1 : wsTo p l p.length % 18446744073709551616 = wsTo p l p.length := by omega
    refine z_tas
    rw [hz1]
    refine lf rfl rfl rfl (S := []) (fun w' hw' ho => hr2 w' ⟨hr0.h.go hw' (Split.nil _)⟩) ?_
    rintro v S' ⟨A2, c2, rfl, rfl⟩
    have hwN2 : wsTo p l p.length ≤ 288230376151711744 := by omega
    clear hz1
    generalize wsTo p l p.length = z at *
    generalize hg : wgh p l z = g at *
    refine z_tas
    refine c_loop (X := Nat) (fun i => i ≤ p.length) (fun i => [(1, .slice (some ⟨bL, oL, none⟩) l.length cl), (2, .pointer (some ⟨b2, 0, none⟩)), (4, .pointer (some ⟨b4, 0, none⟩)), (5, .pointer (some ⟨b5, 0, none⟩)), (8, .pointer (some ⟨b8, 0, none⟩)), (9, .int .i64 (mostTo l p.length)), (12, .int .i64 z), (78, .slice A2 p.length c2), (79, .int .i64 p.length), (80, .int .i64 i)])
      (fun i => [.row (.slice A2 p.length c2) 2 1 p.length (ints .i64 (mixL g p i)), .blk b8 112 (wideV z), .blk b5 112 [.int .i64 0, .int .u64 0], .blk b4 60 grN, .blk b2 60 [.int .i64 gw, .int .i64 gh, .int .i64 gx, .int .i64 gy, .int .i64 gs, .slice A2 p.length c2]]) (fun i => p.length - i) 0 (Nat.zero_le _) ⟨rfl, rfl, rfl, rfl, rfl, rfl, rfl, rfl, rfl, rfl, trivial⟩ (by show Sub [.row (.slice A2 p.length c2) 2 1 p.length (ints .i64 p), _, _, _, _] _; exact Sub.au) ?_
    intro i hi
    rcases Nat.lt_or_ge i p.length with h | h
    · have hml := mix_len g hi
      have hmg := mix_get g h
      have hms := mix_set g h
      have hpi := hp i h
      have hli := hw i (by omega)
      have hmu := mul_in hpi hli
      have hgi := hwi i h
      have hgz := hwg i
      have iD := muldiv_cv (p.getD i 0 * l.getD i 0) 1073741824 z 0
      rw [divV_down hz0, ← hgz] at iD
      obtain ⟨R, hR⟩ : ∃ R, mixL g p i = R := ⟨_, rfl⟩
      rw [hR] at hml hmg hms ⊢
      have iE : Elem (ints .i64 R) i (.int .i64 (p.getD i 0)) True := ⟨fun _ => by rw [← hmg]; exact (inferInstance : Elem (ints .i64 R) i (.int .i64 (R.getD i 0)) (i < R.length)).h (by omega)⟩
      refine j_opn (A := A2) (m := p.length) (cc := c2) (by omega) (fun g2 hg2 => ?_)
      subst hg2
      clear hwi hwg hge hws hmo
      refine z_tas
      refine c_dvL [] (0 :: 1 :: 2 :: 3 :: 4 :: 5 :: 6 :: 7 :: 8 :: 9 :: 10 :: 11 :: 12 :: 13 :: 14 :: 15 :: []) (.nil _) ?_; intro _
      refine z_govG
      all_goals
        refine c_round (i + 1) h (by show p.length - (i + 1) < p.length - i; omega) ⟨rfl, rfl, rfl, rfl, rfl, rfl, rfl, rfl, rfl, by simp [look], trivial⟩ ?_
        rw [← hms]
        exact Sub.au
    · obtain rfl : i = p.length := by omega
      rw [mix_all]
      refine z_tas
      refine c_dvL _ (0 :: 1 :: 2 :: 3 :: 4 :: 5 :: 6 :: []) (Sub.cons (Has.there _ (Has.here _ _)) (Sub.cons (Has.there _ (Has.there _ (Has.there _ (Has.here _ _)))) (Sub.nil _))) ?_
      intro _
      refine z_gvs
      all_goals
        refine j_outK (S' := [.row (.slice A2 p.length c2) 2 1 p.length (ints .i64 (tab g p.length))]) Sub.au ?_
        refine z_rk
        refine ⟨_, rfl, A2, c2, ?_, ?_⟩
        · dsimp only [grE]
          rw [hwl, tab_len]
        · dsimp only
          rw [hwl, tab_len]
theorem rweighed_any (g : Grd) (A : Option Addr) (c : Nat) (Al : Option Addr) (cl : Nat) (l : List Int) (w : World) (hr : RoA w (blocks []) A g.p.length c 1 (ints .i64 g.p)) (hrl : RoA w (blocks []) Al l.length cl 1 (ints .i64 l)) (hp : Pos30 g.p) (hw : Wt l) (he : l.length = g.p.length) (hn : 0 < g.p.length ∧ g.p.length ≤ 4096) :
    Does Tryz.prog 104 [.agg (grE g A c).toArray, .slice Al l.length cl] [] w (fun v S' => v = .tuple #[.int .i64 (wsTo g.p l g.p.length), .int .i64 (mostTo l g.p.length)] ∧ S' = []) := by
  obtain ⟨gw, gh, gx, gy, gs, p⟩ := g
  dsimp only at hr hp he hn ⊢
  dsimp only [grE]
  have hws := ws_in hp hw he
  have hmo := most_in hw
  obtain ⟨bA, oA, rfl, hRA⟩ := hr.at_ hn.1
  obtain ⟨bL, oL, rfl, hRL⟩ := hrl.at_ (by omega : 0 < l.length)
  refine does_of Tryz.func104 rfl Tryz.ntmps104 rfl ⟨by simp, .nil⟩ (fun n => ?_)
  simp only [slots]
  refine z_tas
  rename_i b2
  refine c_loop (X := Nat) (fun i => i ≤ p.length) (fun i => [(1, .slice (some ⟨bL, oL, none⟩) l.length cl), (2, .pointer (some ⟨b2, 0, none⟩)), (6, .int .i64 (wsTo p l i)), (7, .int .i64 (mostTo l i)), (8, .int .i64 i)])
    (fun i => [.blk b2 60 [.int .i64 gw, .int .i64 gh, .int .i64 gx, .int .i64 gy, .int .i64 gs, .slice (some ⟨bA, oA, none⟩) p.length c]]) (fun i => p.length - i) 0 (Nat.zero_le _) ⟨rfl, rfl, rfl, rfl, rfl, trivial⟩ Sub.au ?_
  intro i hi
  rcases Nat.lt_or_ge i p.length with h | h
  · have e1 : wsTo p l (i + 1) = wsTo p l i + p.getD i 0 * l.getD i 0 := rfl
    have e2 : mostTo l (i + 1) = max (mostTo l i) (l.getD i 0) := rfl
    have hpi := hp i h
    have hli := hw i (by omega)
    have hmu := mul_in hpi hli
    have hwsi := hws i hi
    have hmi := hmo i (by omega)
    clear hws hmo
    generalize wsTo p l i = ws at *
    generalize mostTo l i = mo at *
    refine z_tas
    refine c_drx _ [false, true, true, true, true, true, true, true, true, true, true, false, false] [0, 11, 12] (Sub.refl _) rfl (by decide) (by decide +kernel) ?_
    refine z_gob
    all_goals
      refine c_round (i + 1) h (by show p.length - (i + 1) < p.length - i; omega) ⟨rfl, rfl, by rw [e1]; rfl, ?_, by simp [look], trivial⟩ Sub.au
      refine congrArg (fun z => some (Value.int .i64 z)) ?_
      rw [e2]
      omega
  · obtain rfl : i = p.length := by omega
    refine z_tas
    refine z_ro
    exact ⟨rfl, rfl⟩
/-- A number times 2^30, divided by another one, bit by bit. -/
def partQ (a b : Int) : Nat → Int × Int
  | 0 => (0, a)
  | i + 1 => if b ≤ (partQ a b i).2 then (2 * (partQ a b i).1 + 1, 2 * ((partQ a b i).2 - b)) else (2 * (partQ a b i).1, 2 * (partQ a b i).2)
theorem partQ_ok {a b : Int} (ha : 0 ≤ a ∧ a ≤ b) (hb : 0 < b) : ∀ i, a * 2 ^ i = 2 * (b * (partQ a b i).1) + (partQ a b i).2 ∧ (0 ≤ (partQ a b i).2 ∧ (partQ a b i).2 < 2 * b) ∧ 0 ≤ (partQ a b i).1
  | 0 => by simp [partQ]; omega
  | i + 1 => by
    obtain ⟨h1, h2, h3⟩ := partQ_ok ha hb i
    rw [Int.pow_succ, ← Int.mul_assoc, h1, partQ]
    split
    · dsimp only
      rw [Int.mul_add b, Int.mul_left_comm b]
      refine ⟨by omega, by omega, by omega⟩
    · dsimp only
      rw [Int.mul_left_comm b]
      refine ⟨by omega, by omega, by omega⟩
theorem partQ_end {a b : Int} (ha : 0 ≤ a ∧ a ≤ b) (hb : 0 < b) : (partQ a b 31).1 = a * 1073741824 / b := by
  obtain ⟨h1, h2, h3⟩ := partQ_ok ha hb 31
  generalize (partQ a b 31).1 = q at *
  generalize (partQ a b 31).2 = r at *
  have e : a * 2147483648 = 2 * (b * q) + r := h1
  have hev : r % 2 = 0 := by omega
  exact ((Int.ediv_emod_unique (r := r / 2) (q := q) hb).2 ⟨by omega, by omega, by omega⟩).1.symm
theorem partQ_bnd {a b : Int} (ha : 0 ≤ a ∧ a ≤ b) (hb : 0 < b) : ∀ i, (partQ a b i).1 ≤ 2 ^ i := fun i => by
  obtain ⟨h1, h2, h3⟩ := partQ_ok ha hb i
  have hp : (0 : Int) < 2 ^ i := Int.pow_pos (by decide)
  generalize (partQ a b i).1 = q at *
  generalize (partQ a b i).2 = r at *
  generalize (2 : Int) ^ i = P at *
  have h4 : a * P ≤ b * P := Int.mul_le_mul_of_nonneg_right ha.2 (by omega)
  have h5 : b * q ≤ b * P := by have := Int.mul_nonneg (show 0 ≤ b by omega) h3; omega
  exact Int.le_of_mul_le_mul_left h5 hb
set_option maxHeartbeats 32000000 in
instance part_cv (a b : Int) : CV Tryz.prog 105 [.int .i64 a, .int .i64 b] (.int .i64 (a * 1073741824 / b)) ((0 ≤ a ∧ a ≤ b) ∧ 0 < b ∧ b ≤ 1152921504606846976) := ⟨fun ⟨ha, hb, hb2⟩ w => by
  rw [← partQ_end ha hb]
  have hok := partQ_ok ha hb
  have hbn := partQ_bnd ha hb
  have hmono : ∀ i : Nat, i ≤ 31 → (2 : Int) ^ i ≤ 2147483648 := fun i hi => by
    have : 2 ^ i ≤ 2 ^ 31 := Nat.pow_le_pow_right (by decide) hi
    have h2 : ((2 ^ i : Nat) : Int) ≤ ((2 ^ 31 : Nat) : Int) := by omega
    rw [Int.natCast_pow] at h2
    exact h2
  refine does_of Tryz.func105 rfl Tryz.ntmps105 rfl ⟨by simp, .nil⟩ (fun n => ?_)
  simp only [slots]
  refine z_tas
  refine c_loop (X := Nat) (fun i => i ≤ 31) (fun i => [(1, .int .i64 b), (5, .int .i64 (partQ a b i).1), (6, .int .i64 (partQ a b i).2), (7, .int .i64 i)]) (fun _ => []) (fun i => 31 - i) 0 (by omega) ⟨rfl, rfl, rfl, rfl, trivial⟩ (.nil _) ?_
  intro i hi
  rcases Nat.lt_or_ge i 31 with h | h
  · have h1 := hok i
    have h2 := hbn i
    have h3 := hmono i (by omega)
    have e : partQ a b (i + 1) = if b ≤ (partQ a b i).2 then (2 * (partQ a b i).1 + 1, 2 * ((partQ a b i).2 - b)) else (2 * (partQ a b i).1, 2 * (partQ a b i).2) := rfl
    have h4 : 0 ≤ (partQ a b i).1 ∧ (partQ a b i).1 ≤ 2147483648 := by omega
    have h5 := h1.2.1
    clear h1 h2 h3
    generalize (partQ a b i).1 = q at *
    generalize (partQ a b i).2 = r at *
    refine z_tas
    · rw [if_pos (by omega)] at e
      refine c_round (i + 1) h (by show 31 - (i + 1) < 31 - i; omega) ⟨rfl, by rw [e]; simp [look], by rw [e]; simp [look], by simp [look], trivial⟩ (.nil _)
    · rw [if_neg (by omega)] at e
      refine c_round (i + 1) h (by show 31 - (i + 1) < 31 - i; omega) ⟨rfl, by rw [e]; simp [look], by rw [e]; simp [look], by simp [look], trivial⟩ (.nil _)
  · obtain rfl : i = 31 := by omega
    refine z_tas
    exact j_out1 rfl rfl (.nil _) ⟨rfl, rfl⟩⟩
end Go.Proofs.YtemmnpgebpffbaaGreat
/- Packages seed and theodoliteref22: how much a cost is believed. -/
namespace Go.Proofs.YtemmnpgebpffbaaGreat
open Go.RowKit
/-- How much a cost is believed against the best. -/
def wgtF (best cost times : Int) : Int := if best < 0 ∨ cost < best ∨ times < 1 ∨ 65536 < times ∨ 4611686018427387904 < cost then 0 else if (best + 1) * times < cost then 0 else (2 * ((best + 1) * 65536) + (cost + 1)) / (2 * (cost + 1))
theorem wgt_quo {best cost : Int} (h0 : 0 ≤ best) (h1 : best ≤ cost) : 0 ≤ (2 * ((best + 1) * 65536) + (cost + 1)) / (2 * (cost + 1)) ∧ (2 * ((best + 1) * 65536) + (cost + 1)) / (2 * (cost + 1)) ≤ 65536 := by
  refine ⟨Int.ediv_nonneg (by omega) (by omega), ?_⟩
  have : (2 * ((best + 1) * 65536) + (cost + 1)) / (2 * (cost + 1)) < 65537 := Int.ediv_lt_of_lt_mul (by omega) (by omega)
  omega
theorem wgt_in (best cost times : Int) : 0 ≤ wgtF best cost times ∧ wgtF best cost times ≤ 65536 := by
  unfold wgtF
  split
  · omega
  split
  · omega
  exact wgt_quo (by omega) (by omega)
/-- The best is believed wholly. -/
theorem wgt_best {best times : Int} (h0 : 0 ≤ best) (h1 : best ≤ 4611686018427387904) (h2 : 1 ≤ times ∧ times ≤ 65536) : wgtF best best times = 65536 := by
  unfold wgtF
  rw [if_neg (by omega)]
  have h3 := Int.mul_le_mul_of_nonneg_left h2.1 (show 0 ≤ best + 1 by omega)
  rw [if_neg (by omega)]
  rw [show 2 * ((best + 1) * 65536) + (best + 1) = (best + 1) + 65536 * (2 * (best + 1)) by omega, Int.add_mul_ediv_right _ _ (by omega), Int.ediv_eq_zero_of_lt (by omega) (by omega)]
  rfl
/-- No greater cost is believed more. -/
theorem wgt_mono {best a b times : Int} (h1 : best ≤ a) (h2 : a ≤ b) : wgtF best b times ≤ wgtF best a times := by
  have h0 := wgt_in best a times
  have hb := wgt_in best b times
  unfold wgtF at h0 hb ⊢
  split
  · split at h0 <;> (try split at h0) <;> omega
  rename_i c1
  split
  · split at h0 <;> (try split at h0) <;> omega
  rename_i c2
  rw [if_neg (by omega), if_neg (by omega)]
  have hz0 : 0 ≤ (best + 1) * 65536 := by omega
  generalize (best + 1) * 65536 = z at *
  have e1 := Int.mul_ediv_self_le (x := 2 * z + (b + 1)) (k := 2 * (b + 1)) (by omega)
  have e3 : 0 ≤ (2 * z + (b + 1)) / (2 * (b + 1)) := by
    rw [if_neg c1, if_neg c2] at hb
    exact hb.1
  generalize (2 * z + (b + 1)) / (2 * (b + 1)) = q at *
  refine (Int.le_ediv_iff_mul_le (by omega)).2 ?_
  have e2 : 2 * (b + 1) * q = 2 * (q * (b + 1)) := by rw [Int.mul_assoc, Int.mul_comm q]
  have e4 : q * (2 * (a + 1)) = 2 * (q * (a + 1)) := by rw [Int.mul_left_comm]
  rw [e2] at e1
  rw [e4]
  rcases Int.lt_or_le 0 q with hq | hq
  · have h5 : (2 * q - 1) * (a + 1) ≤ (2 * q - 1) * (b + 1) := Int.mul_le_mul_of_nonneg_left (by omega) (by omega)
    rw [Int.sub_mul, Int.sub_mul, Int.one_mul, Int.one_mul, Int.mul_assoc, Int.mul_assoc] at h5
    generalize q * (a + 1) = x at *
    generalize q * (b + 1) = y at *
    omega
  · obtain rfl : q = 0 := by omega
    rw [Int.zero_mul] at e1 ⊢
    omega
attribute [local irreducible] OJ J HdJ Code.wpIn wpListIn Oper.wpIn bodyPost CallsIn Does
set_option maxRecDepth 4000
set_option maxHeartbeats 32000000 in
instance wof_cv (x : Int) : CV Tryz.prog 55 [.int .i64 x] (.agg (wideV x).toArray) (InR .i64 x) := ⟨fun hc w => by
  have h1 : -9223372036854775808 ≤ x ∧ x ≤ 9223372036854775807 := hc
  refine does_of Tryz.func55 rfl Tryz.ntmps55 rfl ⟨by simp, .nil⟩ (fun n => ?_)
  simp only [slots]
  refine z_gob
  refine z_ro
  refine ⟨wideA_eq ?_ ?_, rfl⟩
  · show x / 9223372036854775808 = _
    omega
  · rw [IntKind.wrap_u64]⟩
set_option maxHeartbeats 64000000 in
instance weight_cv (best cost times : Int) : CV Tryz.prog 21 [.int .i64 best, .int .i64 cost, .int .i64 times] (.int .i64 (wgtF best cost times)) (InR .i64 best ∧ InR .i64 cost ∧ InR .i64 times) := ⟨fun hc w => by
  obtain ⟨⟨b1, b2⟩, ⟨c1, c2⟩, t1, t2⟩ := hc
  by_cases hbad : best < 0 ∨ cost < best ∨ times < 1 ∨ 65536 < times ∨ 4611686018427387904 < cost
  · have e : wgtF best cost times = 0 := if_pos hbad
    rw [e]
    refine does_of Tryz.func21 rfl Tryz.ntmps21 rfl ⟨by simp, .nil⟩ (fun n => ?_)
    simp only [slots]
    refine z_tas
    all_goals exact j_out1 rfl rfl (.nil _) ⟨rfl, rfl⟩
  · have hq := wgt_quo (best := best) (cost := cost) (by omega) (by omega)
    have e : wgtF best cost times = if (best + 1) * times < cost then 0 else (2 * ((best + 1) * 65536) + (cost + 1)) / (2 * (cost + 1)) := if_neg hbad
    rw [e]
    have iD := muldiv_cv (best + 1) 65536 (cost + 1) 2
    rw [divV_near (by omega)] at iD
    have iM := mulW_any (best + 1) times
    generalize (2 * ((best + 1) * 65536) + (cost + 1)) / (2 * (cost + 1)) = q at *
    have iC := wcmp_cv cost ((best + 1) * times)
    have hcm : (0 < cmpZ cost ((best + 1) * times)) ↔ (best + 1) * times < cost := by
      unfold cmpZ
      split
      · constructor <;> intro h <;> omega
      split
      · constructor <;> intro h <;> omega
      · constructor <;> intro h <;> omega
    generalize cmpZ cost ((best + 1) * times) = cm at *
    generalize (best + 1) * times = bt at *
    refine does_of Tryz.func21 rfl Tryz.ntmps21 rfl ⟨by simp, .nil⟩ (fun n => ?_)
    simp only [slots]
    refine z_tas
    · rw [if_pos (by omega)]
      exact j_out1 rfl rfl (.nil _) ⟨rfl, rfl⟩
    · rw [if_neg (by omega)]
      exact j_out1 rfl rfl (.nil _) ⟨rfl, rfl⟩⟩
set_option maxHeartbeats 64000000 in
instance rweight_cv (best cost times : Int) : CV Tryz.prog 22 [.int .i64 best, .int .i64 cost, .int .i64 times] (.int .i64 (wgtF best cost times)) (InR .i64 best ∧ InR .i64 cost ∧ InR .i64 times) := ⟨fun hc w => by
  obtain ⟨⟨b1, b2⟩, ⟨c1, c2⟩, t1, t2⟩ := hc
  by_cases hbad : best < 0 ∨ cost < best ∨ times < 1 ∨ 65536 < times ∨ 4611686018427387904 < cost
  · have e : wgtF best cost times = 0 := if_pos hbad
    rw [e]
    refine does_of Tryz.func22 rfl Tryz.ntmps22 rfl ⟨by simp, .nil⟩ (fun n => ?_)
    simp only [slots]
    refine z_tas
    all_goals exact j_out1 rfl rfl (.nil _) ⟨rfl, rfl⟩
  · have hq := wgt_quo (best := best) (cost := cost) (by omega) (by omega)
    have e : wgtF best cost times = if (best + 1) * times < cost then 0 else (2 * ((best + 1) * 65536) + (cost + 1)) / (2 * (cost + 1)) := if_neg hbad
    rw [e]
    have hi64 : ∀ z : Int, 0 ≤ z → z ≤ 9223372036854775807 → InR .i64 z := fun z h1 h2 => by show (-9223372036854775808 : Int) ≤ _ ∧ _ ≤ (9223372036854775807 : Int); omega
    have iO : CV Tryz.prog 59 [.int .i64 cost] (.agg (numE false cost.natAbs).toArray) True := ⟨fun _ w => by
      have := rof_any cost (hi64 _ (by omega) c2) w
      rw [decide_eq_false (by omega : ¬ cost < 0)] at this
      exact this⟩
    have hmul : (((best + 1).natAbs * times.natAbs : Nat) : Int) = (best + 1) * times := by
      push_cast
      rw [show ((best + 1).natAbs : Int) = best + 1 by omega, show (times.natAbs : Int) = times by omega]
    have hmb := mulB 4611686018427387905 65536 (a := best + 1) (b := times) (by omega) (by omega)
    have iM : CV Tryz.prog 60 [.int .i64 (best + 1), .int .i64 times] (.agg (numE false ((best + 1).natAbs * times.natAbs)).toArray) True := ⟨fun _ w => rmul_any (best + 1) times (hi64 _ (by omega) (by omega)) (hi64 _ (by omega) t2) false (decide_eq_false (by omega)) (decide_eq_false (by omega)) w⟩
    have iM2 : CV Tryz.prog 60 [.int .i64 (best + 1), .int .i64 65536] (.agg (numE false ((best + 1).natAbs * 65536)).toArray) True := ⟨fun _ w => rmul_any (best + 1) 65536 (hi64 _ (by omega) (by omega)) (hi64 _ (by omega) (by omega)) false (decide_eq_false (by omega)) (by decide) w⟩
    have iC := cmp3_cv cost.natAbs ((best + 1).natAbs * times.natAbs)
    have hcm : (0 < cmpI cost.natAbs ((best + 1).natAbs * times.natAbs)) ↔ (best + 1) * times < cost := by
      unfold cmpI
      split
      · constructor <;> intro h <;> omega
      split
      · constructor <;> intro h <;> omega
      · constructor <;> intro h <;> omega
    have iD := div3_cv ((best + 1).natAbs * 65536) (cost + 1)
    rw [show (((best + 1).natAbs * 65536 : Nat) : Int) = (best + 1) * 65536 by omega] at iD
    have hz : (best + 1).natAbs * 65536 < 680564733841876926926749214863536422912 := by omega
    generalize (2 * ((best + 1) * 65536) + (cost + 1)) / (2 * (cost + 1)) = q at *
    generalize cmpI cost.natAbs ((best + 1).natAbs * times.natAbs) = cm at *
    have hbt : (best + 1).natAbs * times.natAbs < 680564733841876926926749214863536422912 := by omega
    generalize (best + 1).natAbs * times.natAbs = n1 at *
    obtain ⟨n2, hn2⟩ : ∃ n2, (best + 1).natAbs * 65536 = n2 := ⟨_, rfl⟩
    rw [hn2] at iM2 iD hz
    clear hn2
    generalize (best + 1) * times = bt at *
    refine does_of Tryz.func22 rfl Tryz.ntmps22 rfl ⟨by simp, .nil⟩ (fun n => ?_)
    simp only [slots]
    refine z_tas
    · rw [if_pos (by omega)]
      exact j_out1 rfl rfl (.nil _) ⟨rfl, rfl⟩
    · rw [if_neg (by omega)]
      exact j_out1 rfl rfl (.nil _) ⟨rfl, rfl⟩⟩
end Go.Proofs.YtemmnpgebpffbaaGreat
/- Seeds, the plain part: how much each step of a search is believed. -/
namespace Go.Proofs.YtemmnpgebpffbaaGreat
open Go.RowKit
/-- The number of a step. -/
def ixS (far i k : Int) : Nat := (k + far).toNat * sideN far + (i + far).toNat
theorem ixS_ok {far i k : Int} (h : (-far ≤ i ∧ i ≤ far) ∧ (-far ≤ k ∧ k ≤ far)) : (i, k) = pS far (ixS far i k) ∧ ixS far i k < sideN far * sideN far ∧ ((ixS far i k : Nat) : Int) = (k + far) * (2 * far + 1) + i + far := by
  have hs : (sideN far : Int) = 2 * far + 1 := by unfold sideN; push_cast; omega
  have h1 : (i + far).toNat < sideN far := by omega
  have h2 : (k + far).toNat < sideN far := by omega
  refine ⟨?_, ?_, ?_⟩
  · unfold ixS
    rw [pS_at h1]
    refine Prod.ext ?_ ?_ <;> dsimp only <;> omega
  · unfold ixS
    have := Nat.mul_le_mul_right (sideN far) (show (k + far).toNat + 1 ≤ sideN far from h2)
    rw [Nat.add_mul, Nat.one_mul] at this
    omega
  · unfold ixS
    push_cast
    rw [hs, show (((k + far).toNat : Nat) : Int) = k + far by omega, show (((i + far).toNat : Nat) : Int) = i + far by omega]
    omega
theorem pS_ix {far : Int} (hf : 0 ≤ far) {n : Nat} (h : n < sideN far * sideN far) : ixS far (pS far n).1 (pS far n).2 = n := by
  have hp : 0 < sideN far := by unfold sideN; omega
  have h1 := Nat.mod_lt n hp
  have h2 := Nat.div_lt_of_lt_mul h
  unfold ixS pS
  dsimp only
  have hc : ∀ m : Nat, ((m : Int) - far + far).toNat = m := fun m => by omega
  rw [hc, hc, Nat.mul_comm]
  exact Nat.div_add_mod n (sideN far)
/-- What each step is believed, behind the first so many that lie on the ground. -/
def wtTo (N : Nat) (far best times : Int) (L : List Stp) : Nat → List Int
  | 0 => List.replicate N 0
  | i + 1 => (wtTo N far best times L i).set (ixS far (L.getD i default).i (L.getD i default).k) (wgtF best (L.getD i default).cost times)
section
variable {N : Nat} {far best times : Int} {L : List Stp}
theorem wtTo_len : ∀ i, (wtTo N far best times L i).length = N
  | 0 => by rw [wtTo, List.length_replicate]
  | i + 1 => by rw [wtTo, List.length_set, wtTo_len i]
theorem wtTo_in : ∀ i, Wt (wtTo N far best times L i)
  | 0 => fun j hj => by
    rw [wtTo, List.getD_eq_getElem?_getD]
    rw [wtTo, List.length_replicate] at hj
    rw [List.getElem?_replicate, if_pos hj]
    decide
  | i + 1 => fun j hj => by
    have ih := wtTo_in i
    have hw := wgt_in best (L.getD i default).cost times
    rw [wtTo, List.length_set] at hj
    rw [wtTo, List.getD_eq_getElem?_getD, List.getElem?_set]
    split
    · rw [if_pos (by omega)]
      exact hw
    · have := ih j hj
      rwa [List.getD_eq_getElem?_getD] at this
/-- If the cost hangs on the step alone, each step has what its cost is worth. -/
theorem wtTo_at (hu : ∀ a b, a < L.length → b < L.length → ixS far (L.getD a default).i (L.getD a default).k = ixS far (L.getD b default).i (L.getD b default).k → (L.getD a default).cost = (L.getD b default).cost) (hN : ∀ a, a < L.length → ixS far (L.getD a default).i (L.getD a default).k < N) : ∀ i, i ≤ L.length → ∀ j, j < i → (wtTo N far best times L i).getD (ixS far (L.getD j default).i (L.getD j default).k) 0 = wgtF best (L.getD j default).cost times
  | i + 1, hi, j, hj => by
    rw [wtTo, List.getD_eq_getElem?_getD, List.getElem?_set]
    by_cases he : ixS far (L.getD i default).i (L.getD i default).k = ixS far (L.getD j default).i (L.getD j default).k
    · rw [if_pos he, if_pos (by rw [wtTo_len]; exact hN i (by omega)), hu i j (by omega) (by omega) he]
      rfl
    · rw [if_neg he]
      have hji : j ≠ i := by rintro rfl; exact he rfl
      have := wtTo_at hu hN i (by omega) j (by omega)
      rwa [List.getD_eq_getElem?_getD] at this
end
theorem all_same {W H : Nat} {f : List Int} {s : Sch} {l : List Smp} {m : Int} (hf : 0 ≤ s.far) {a b : Nat} (ha : a < (allL W H f s l m).length) (hb : b < (allL W H f s l m).length) (he : ixS s.far ((allL W H f s l m).getD a default).i ((allL W H f s l m).getD a default).k = ixS s.far ((allL W H f s l m).getD b default).i ((allL W H f s l m).getD b default).k) : ((allL W H f s l m).getD a default).cost = ((allL W H f s l m).getD b default).cost := by
  have key : ∀ a, a < (allL W H f s l m).length → ∃ n, n < sideN s.far * sideN s.far ∧ ((allL W H f s l m).getD a default).i = (pS s.far n).1 ∧ ((allL W H f s l m).getD a default).k = (pS s.far n).2 ∧ gS W H f s l m n = some (((allL W H f s l m).getD a default).cost, 0) := fun a ha => by
    have hx : (allL W H f s l m).getD a default ∈ allL W H f s l m := by
      rw [List.getD_eq_getElem?_getD, List.getElem?_eq_getElem ha]
      exact List.getElem_mem _
    generalize (allL W H f s l m).getD a default = x at *
    unfold allL at hx
    split at hx
    · exact all_mem _ x hx
    · cases hx
  obtain ⟨n1, h1, e1, e2, e3⟩ := key a ha
  obtain ⟨n2, h2, g1, g2, g3⟩ := key b hb
  rw [e1, e2, g1, g2, pS_ix hf h1, pS_ix hf h2] at he
  subst he
  rw [e3] at g3
  injection g3 with g3
  injection g3
theorem even_get {n i : Nat} (h : i < n) : (tab (fun _ => 1073741824 / (n : Int)) n).getD i 0 = 1073741824 / (n : Int) := tab_get (fun _ => 1073741824 / (n : Int)) h
theorem even_pos {n : Nat} (h : 0 < n ∧ n ≤ 4096) : 0 < 1073741824 / (n : Int) ∧ 1073741824 / (n : Int) ≤ 1073741824 :=
  ⟨Int.lt_of_lt_of_le (by decide) ((Int.le_ediv_iff_mul_le (by omega)).2 (by omega : (1 : Int) * n ≤ _)), Int.ediv_le_self _ (by decide)⟩
/-- A grid that was weighed is a right one. -/
theorem wgh_ok {p l : List Int} (hp : Pos30 p) (hw : Wt l) (he : l.length = p.length) (hz : 0 < wsTo p l p.length) : (∀ i, i < p.length → 0 ≤ (wghL p l).getD i 0 ∧ (wghL p l).getD i 0 ≤ 1073741824) ∧ 1073741824 - (p.length : Int) ≤ sumL (wghL p l) p.length ∧ sumL (wghL p l) p.length ≤ 1073741824 := by
  refine ⟨fun i hi => ?_, ?_, ?_⟩
  · unfold wghL
    rw [tab_get _ hi]
    exact wgh_in hp hw he hz hi
  · obtain ⟨-, h2⟩ := wgh_sum (p := p) (l := l) hz p.length
    unfold wghL
    generalize sumL (tab (wgh p l (wsTo p l p.length)) p.length) p.length = S at *
    generalize wsTo p l p.length = z at *
    have h3 : (1073741824 - (p.length : Int)) * z ≤ S * z := by
      rw [Int.sub_mul, Int.mul_comm _ z]
      have e : (z - 1) * (p.length : Int) = p.length * z - p.length := by rw [Int.sub_mul, Int.one_mul, Int.mul_comm]
      omega
    exact Int.le_of_mul_le_mul_right h3 hz
  · obtain ⟨h1, -⟩ := wgh_sum (p := p) (l := l) hz p.length
    unfold wghL
    generalize sumL (tab (wgh p l (wsTo p l p.length)) p.length) p.length = S at *
    generalize wsTo p l p.length = z at *
    have h3 : S * z ≤ 1073741824 * z := by omega
    exact Int.le_of_mul_le_mul_right h3 hz
/-- Of places that were believed alike the one with the greatest weight is believed most. -/
theorem wgh_most {p l : List Int} {z c : Int} (hz : 0 < z) (hc : 0 ≤ c) (hp : ∀ i, i < p.length → p.getD i 0 = c) {i k : Nat} (hi : i < p.length) (hk : k < p.length) (h : l.getD i 0 ≤ l.getD k 0) : wgh p l z i ≤ wgh p l z k := by
  unfold wgh
  rw [hp i hi, hp k hk]
  refine Int.ediv_le_ediv hz ?_
  have := Int.mul_le_mul_of_nonneg_left h hc
  omega
theorem ws_pos {p l : List Int} (hp : Pos30 p) (hw : Wt l) (he : l.length = p.length) {k : Nat} (hk : k < p.length) (h1 : 0 < p.getD k 0) (h2 : 0 < l.getD k 0) : 0 < wsTo p l p.length := by
  have h3 := ws_ge hp hw he p.length (Nat.le_refl _) hk
  have := Int.mul_pos h1 h2
  omega
theorem ws_zero {p l : List Int} (h : ∀ i, l.getD i 0 = 0) : ∀ n, wsTo p l n = 0
  | 0 => rfl
  | n + 1 => by rw [wsTo, ws_zero h n, h n]; simp
end Go.Proofs.YtemmnpgebpffbaaGreat
