
import Derived.Test.YtemmnpgebpffbaaGreatMG18
set_option linter.unusedVariables false
set_option linter.unusedSimpArgs false
/- Packages grid, moment, theodoliteref14: grids weighed, right grids, peaks. -/
namespace Go.Proofs.YtemmnpgebpffbaaGreat
open Go.RowKit
/-- The place that is believed most of the first so many, and how much. -/
def pkTo (p : List Int) : Nat → Int × Int
  | 0 => (-1, 0)
  | i + 1 => if (pkTo p i).2 < p.getD i 0 then ((i : Int), p.getD i 0) else pkTo p i
attribute [local irreducible] OJ J HdJ Code.wpIn wpListIn Oper.wpIn bodyPost CallsIn Does
set_option maxRecDepth 4000
set_option maxHeartbeats 64000000 in
instance with14_cv (w h x y st : Int) (A B : Option Addr) (m c mb cb : Nat) : CV Tryz.prog 106 [.agg #[.int .i64 w, .int .i64 h, .int .i64 x, .int .i64 y, .int .i64 st, .slice A m c], .slice B mb cb] (.agg #[.int .i64 w, .int .i64 h, .int .i64 x, .int .i64 y, .int .i64 st, .slice B mb cb]) True := ⟨fun _ w0 => by
  refine does_of Tryz.func106 rfl Tryz.ntmps106 rfl ⟨by simp, .nil⟩ (fun n => ?_)
  simp only [slots]
  refine z_tas
  refine z_ro
  exact ⟨rfl, rfl⟩⟩
set_option maxHeartbeats 64000000 in
theorem peak_any (g : Grd) (A : Option Addr) (c : Nat) (w : World) (hr : RoA w (blocks []) A g.p.length c 1 (ints .i64 g.p)) (hm : g.p.length ≤ 1000000) :
    Does Tryz.prog 62 [.agg (grE g A c).toArray] [] w (fun v S' => v = .int .i64 (pkTo g.p g.p.length).1 ∧ S' = []) := by
  obtain ⟨gw, gh, gx, gy, gs, p⟩ := g
  dsimp only at hr hm ⊢
  dsimp only [grE]
  refine does_of Tryz.func62 rfl Tryz.ntmps62 rfl ⟨by simp, .nil⟩ (fun n => ?_)
  simp only [slots]
  refine z_tas
  refine c_loop (X := Nat) (fun i => i ≤ p.length) (fun i => [(3, .int .i64 (pkTo p i).1), (4, .int .i64 (pkTo p i).2), (8, .slice A p.length c), (9, .int .i64 p.length), (10, .int .i64 i)]) (fun _ => []) (fun i => p.length - i) 0 (Nat.zero_le _) ⟨rfl, rfl, rfl, rfl, rfl, trivial⟩ (.nil _) ?_
  intro i hi
  rcases Nat.lt_or_ge i p.length with h | h
  · obtain ⟨bA, oA, rfl, hRA⟩ := hr.at_ (by omega : 0 < p.length)
    have e : pkTo p (i + 1) = if (pkTo p i).2 < p.getD i 0 then ((i : Int), p.getD i 0) else pkTo p i := rfl
    generalize pkTo p i = q at *
    refine z_tas
    · rw [if_pos (by assumption)] at e
      exact c_round (i + 1) h (by show p.length - (i + 1) < p.length - i; omega) ⟨by rw [e]; rfl, by rw [e]; rfl, rfl, rfl, by simp [look], trivial⟩ (.nil _)
    · rw [if_neg (by assumption)] at e
      exact c_round (i + 1) h (by show p.length - (i + 1) < p.length - i; omega) ⟨by rw [e]; rfl, by rw [e]; rfl, rfl, rfl, by simp [look], trivial⟩ (.nil _)
  · obtain rfl : i = p.length := by omega
    refine z_tas
    exact j_out1 rfl rfl (.nil _) ⟨rfl, rfl⟩
set_option maxHeartbeats 64000000 in
theorem gcheck_any (g : Grd) (A : Option Addr) (c : Nat) (w : World) (hr : RoA w (blocks []) A g.p.length c 1 (ints .i64 g.p)) (hs : sidesOk g.w g.h g.st) (hl : (g.p.length : Int) = g.w * g.h) (hp : Pos30 g.p) (h1 : 1073741824 - (g.p.length : Int) ≤ sumL g.p g.p.length) (h2 : sumL g.p g.p.length ≤ 1073741824) :
    Does Tryz.prog 28 [.agg (grE g A c).toArray] [] w (fun v S' => v = .int .i64 0 ∧ S' = []) := by
  obtain ⟨gw, gh, gx, gy, gs, p⟩ := g
  dsimp only at hr hs hl hp h1 h2 ⊢
  dsimp only [grE]
  obtain ⟨⟨a1, a2⟩, ⟨a3, a4⟩, a5, a6⟩ := hs
  have hm := mul_in (a := gw) (b := gh) (A := 64) (B := 64) (by omega) (by omega)
  have hsi := fun n hn => sumL_in (l := p) (B := 1073741824) hp n hn
  have iM : ∀ w0 W H t u a b, MS Tryz.prog w0 W H (.binOp .mul t a b u) [.int .i64 gw, .int .i64 gh] (.int .i64 (p.length : Int)) True := fun _ _ _ _ _ _ _ => msM inferInstance (by show (-9223372036854775808 : Int) ≤ _ ∧ _ ≤ (9223372036854775807 : Int); omega) (by rw [hl])
  have iL := glen_cv gw gh gx gy gs A p.length c
  rw [← hl] at iL hm
  clear hl
  refine does_of Tryz.func28 rfl Tryz.ntmps28 rfl ⟨by simp, .nil⟩ (fun n => ?_)
  simp only [slots]
  refine z_tas
  rename_i b1 _ _ _ _ _ _
  refine c_loop (X := Nat) (fun i => i ≤ p.length) (fun i => [(1, .pointer (some ⟨b1, 0, none⟩)), (3, .int .i64 (sumL p i)), (46, .slice A p.length c), (47, .int .i64 p.length), (48, .int .i64 i)]) (fun _ => [.blk b1 60 [.int .i64 gw, .int .i64 gh, .int .i64 gx, .int .i64 gy, .int .i64 gs, .slice A p.length c]]) (fun i => p.length - i) 0 (Nat.zero_le _) ⟨rfl, rfl, rfl, rfl, rfl, trivial⟩ Sub.au ?_
  intro i hi
  rcases Nat.lt_or_ge i p.length with h | h
  · obtain ⟨bA, oA, rfl, hRA⟩ := hr.at_ (by omega : 0 < p.length)
    have e : sumL p (i + 1) = sumL p i + p.getD i 0 := rfl
    have hs1 := hsi i hi
    have hpi := hp i h
    clear hsi h1 h2
    generalize sumL p i = s at *
    refine z_tas
    exact c_round (i + 1) h (by show p.length - (i + 1) < p.length - i; omega) ⟨rfl, by rw [e]; rfl, rfl, rfl, by simp [look], trivial⟩ Sub.au
  · obtain rfl : i = p.length := by omega
    refine z_tas
    exact j_out1 rfl rfl (.nil _) ⟨rfl, rfl⟩
set_option maxHeartbeats 64000000 in
theorem weigh_zero (g : Grd) (A : Option Addr) (c : Nat) (Al : Option Addr) (cl : Nat) (l : List Int) (w : World) (hr : RoA w (blocks []) A g.p.length c 1 (ints .i64 g.p)) (hrl : RoA w (blocks []) Al l.length cl 1 (ints .i64 l)) (hp : Pos30 g.p) (hw : Wt l) (he : l.length = g.p.length) (hn : 0 < g.p.length ∧ g.p.length ≤ 4096) (hz0 : wsTo g.p l g.p.length = 0) :
    Does Tryz.prog 65 [.agg (grE g A c).toArray, .slice Al l.length cl] [] w
      (fun v S' => ∃ u2 u3, v = .tuple #[.agg (grE g A c).toArray, u2, u3, .int .i64 7] ∧ S' = []) := by
  obtain ⟨gw, gh, gx, gy, gs, p⟩ := g
  dsimp only at hr hp he hn hz0 ⊢
  dsimp only [grE]
  have hws := ws_in hp hw he
  have hmo := most_in hw
  obtain ⟨bA, oA, rfl, hRA⟩ := hr.at_ hn.1
  obtain ⟨bL, oL, rfl, hRL⟩ := hrl.at_ (by omega : 0 < l.length)
  refine does_of Tryz.func65 rfl Tryz.ntmps65 rfl ⟨by simp, .nil⟩ (fun n => ?_)
  simp only [slots]
  refine z_tas
  rename_i b2 b4 b5 _ b8
  refine c_loop (X := Nat) (fun i => i ≤ p.length) (fun i => [(1, .slice (some ⟨bL, oL, none⟩) l.length cl), (2, .pointer (some ⟨b2, 0, none⟩)), (4, .pointer (some ⟨b4, 0, none⟩)), (5, .pointer (some ⟨b5, 0, none⟩)), (8, .pointer (some ⟨b8, 0, none⟩)), (9, .int .i64 (mostTo l i)), (25, .slice (some ⟨bA, oA, none⟩) p.length c), (26, .int .i64 p.length), (27, .int .i64 i)])
    (fun i => [.blk b8 112 (wideV (wsTo p l i)), .blk b5 112 [.int .i64 0, .int .u64 0], .blk b4 60 grN, .blk b2 60 [.int .i64 gw, .int .i64 gh, .int .i64 gx, .int .i64 gy, .int .i64 gs, .slice (some ⟨bA, oA, none⟩) p.length c]]) (fun i => p.length - i) 0 (Nat.zero_le _) ⟨rfl, rfl, rfl, rfl, rfl, rfl, rfl, rfl, rfl, trivial⟩ (by show Sub [.blk b8 112 [.int .i64 0, .int .u64 0], _, _, _] _; exact Sub.au) ?_
  intro i hi
  rcases Nat.lt_or_ge i p.length with h | h
  · have e1 : wsTo p l (i + 1) = wsTo p l i + p.getD i 0 * l.getD i 0 := rfl
    have e2 : mostTo l (i + 1) = max (mostTo l i) (l.getD i 0) := rfl
    have hpi := hp i h
    have hli := hw i (by omega)
    have hmu := mul_in hpi hli
    have hwsi := hws i hi
    have hmi := hmo i (by omega)
    clear hws hmo hz0
    generalize wsTo p l i = ws at *
    generalize mostTo l i = mo at *
    refine z_tas
    refine c_dvL [] (0 :: 1 :: 2 :: 3 :: 4 :: 5 :: 6 :: 7 :: 8 :: 9 :: 10 :: 11 :: []) (.nil _) ?_; intro _
    refine z_govG
    all_goals
      refine c_round (i + 1) h (by show p.length - (i + 1) < p.length - i; omega) ⟨rfl, rfl, rfl, rfl, rfl, by rw [e2]; rfl, rfl, rfl, by simp [look], trivial⟩ ?_
      simp only [e1]
      exact Sub.au
  · obtain rfl : i = p.length := by omega
    rw [hz0]
    have iS := signw_cv 0
    rw [if_neg (by decide), if_pos rfl] at iS
    refine z_tas
    refine c_dvL _ (0 :: 1 :: 2 :: 3 :: 4 :: 5 :: 6 :: []) (Sub.cons (Has.here _ _) (Sub.cons (Has.there _ (Has.there _ (Has.here _ _))) (Sub.nil _))) ?_
    intro _
    refine z_gvs
    all_goals
      refine j_outK (.nil _) ?_
      refine z_rk
      exact ⟨_, _, rfl, rfl⟩
set_option maxHeartbeats 64000000 in
theorem rweigh_zero (g : Grd) (A : Option Addr) (c : Nat) (Al : Option Addr) (cl : Nat) (l : List Int) (w : World) (hr : RoA w (blocks []) A g.p.length c 1 (ints .i64 g.p)) (hrl : RoA w (blocks []) Al l.length cl 1 (ints .i64 l)) (hp : Pos30 g.p) (hw : Wt l) (he : l.length = g.p.length) (hn : 0 < g.p.length ∧ g.p.length ≤ 4096) (hz0 : wsTo g.p l g.p.length = 0) :
    Does Tryz.prog 66 [.agg (grE g A c).toArray, .slice Al l.length cl] [] w
      (fun v S' => v = .tuple #[.agg (grE g A c).toArray, .int .i64 7] ∧ S' = []) := by
  refine does_of Tryz.func66 rfl Tryz.ntmps66 rfl ⟨by simp, .nil⟩ (fun n => ?_)
  simp only [slots]
  refine z_tas
  refine lfv rfl rfl rfl (fun w hw' => rweighed_any g A c Al cl l w ⟨hr.h.go hw' (Split.nil _)⟩ ⟨hrl.h.go hw' (Split.nil _)⟩ hp hw he hn) ?_
  rw [hz0]
  refine z_tas
  refine z_ro
  exact ⟨rfl, rfl⟩
set_option maxHeartbeats 128000000 in
theorem rweigh_any (g : Grd) (A : Option Addr) (c : Nat) (Al : Option Addr) (cl : Nat) (l : List Int) (w : World) (hr : RoA w (blocks []) A g.p.length c 1 (ints .i64 g.p)) (hrl : RoA w (blocks []) Al l.length cl 1 (ints .i64 l)) (hp : Pos30 g.p) (hw : Wt l) (he : l.length = g.p.length) (hn : 0 < g.p.length ∧ g.p.length ≤ 4096) (hz0 : 0 < wsTo g.p l g.p.length) :
    Does Tryz.prog 66 [.agg (grE g A c).toArray, .slice Al l.length cl] [] w
      (fun v S' => ∃ u, v = .tuple #[u, .int .i64 0] ∧ GrR { g with p := wghL g.p l } u S') := by
  have hrw := fun (w' : World) q1 q2 => rweighed_any g A c Al cl l w' q1 q2 hp hw he hn
  obtain ⟨gw, gh, gx, gy, gs, p⟩ := g
  dsimp only at hr hp he hn hz0 hrw ⊢
  dsimp only [grE] at hrw ⊢
  have hws := ws_in hp hw he
  have hge := fun i (hi : i < p.length) => ws_ge hp hw he p.length (Nat.le_refl _) hi
  have hwN := hws p.length (Nat.le_refl _)
  have hwl : wghL p l = tab (wgh p l (wsTo p l p.length)) p.length := rfl
  have hwg : ∀ i, wgh p l (wsTo p l p.length) i = p.getD i 0 * l.getD i 0 * 1073741824 / wsTo p l p.length := fun _ => rfl
  have hr0 := hr
  have hrl0 := hrl
  obtain ⟨bA, oA, rfl, hRA⟩ := hr.at_ hn.1
  obtain ⟨bL, oL, rfl, hRL⟩ := hrl.at_ (by omega : 0 < l.length)
  refine does_of Tryz.func66 rfl Tryz.ntmps66 rfl ⟨by simp, .nil⟩ (fun n => ?_)
  simp only [slots]
  refine j_nil (e := 2) (size := 1) ?_
  refine z_tas
  refine lfv rfl rfl rfl (fun w hw' => hrw w ⟨hr0.h.go hw' (Split.nil _)⟩ ⟨hrl0.h.go hw' (Split.nil _)⟩) ?_
  have hwN2 : wsTo p l p.length ≤ 288230376151711744 := by omega
  clear hws
  generalize wsTo p l p.length = z at *
  generalize hg : wgh p l z = g at *
  refine z_tas
  rename_i b2 b4 _
  refine c_loop (X := Nat × Option Addr × Nat) (fun q => q.1 ≤ p.length) (fun q => [(1, .slice (some ⟨bL, oL, none⟩) l.length cl), (2, .pointer (some ⟨b2, 0, none⟩)), (4, .pointer (some ⟨b4, 0, none⟩)), (6, .int .i64 z), (8, .slice q.2.1 (tab g q.1).length q.2.2), (9, .int .i64 q.1)])
    (fun q => [.blk b4 60 grN, .blk b2 60 [.int .i64 gw, .int .i64 gh, .int .i64 gx, .int .i64 gy, .int .i64 gs, .slice (some ⟨bA, oA, none⟩) p.length c], .row (.slice q.2.1 (tab g q.1).length q.2.2) 2 1 (tab g q.1).length (ints .i64 (tab g q.1))]) (fun q => p.length - q.1) (0, none, 0) (Nat.zero_le _) ⟨rfl, rfl, rfl, rfl, rfl, rfl, trivial⟩ (by show Sub [_, _, .row (.slice none 0 0) 2 1 0 []] _; exact Sub.au) ?_
  rintro ⟨i, A1, c1⟩ hi
  dsimp only at hi ⊢
  have htl := tab_len g i
  have e : tab g (i + 1) = tab g i ++ [g i] := rfl
  rcases Nat.lt_or_ge i p.length with h | h
  · have hpi := hp i h
    have hli := hw i (by omega)
    have hmu := mul_in hpi hli
    have hgi := hge i h
    have iP := part_cv (p.getD i 0 * l.getD i 0) z
    rw [← hwg] at iP
    clear hge hwg hwl
    refine z_tas
    refine c_drx [.blk b2 60 [.int .i64 gw, .int .i64 gh, .int .i64 gx, .int .i64 gy, .int .i64 gs, .slice (some ⟨bA, oA, none⟩) p.length c]] [false, true, true, true, true, true, true, true, true, true, true, true, false, false, false, false] [0, 12, 13, 14, 15] Sub.au rfl (by decide) (by decide +kernel) ?_
    refine z_gob
    all_goals
      rename_i b5 A5 c5
      refine c_round (i + 1, A5, c5) h (by show p.length - (i + 1) < p.length - i; omega) ⟨rfl, rfl, rfl, rfl, rfl, by simp [look], trivial⟩ ?_
      simp only [e]
      exact Sub.au
  · obtain rfl : i = p.length := by omega
    refine z_tas
    refine j_outK (S' := [.row (.slice A1 (tab g p.length).length c1) 2 1 (tab g p.length).length (ints .i64 (tab g p.length))]) Sub.au ?_
    refine z_rk
    refine ⟨_, rfl, A1, c1, ?_, ?_⟩
    · dsimp only [grE]
      rw [hwl]
    · dsimp only
      rw [hwl]
end Go.Proofs.YtemmnpgebpffbaaGreat
/- Layer 21's statements: costs, the second best, how a profile lies. -/
namespace Go.Proofs.YtemmnpgebpffbaaGreat
open Go.RowKit
attribute [local irreducible] OJ J HdJ Code.wpIn wpListIn Oper.wpIn bodyPost CallsIn Does
set_option maxRecDepth 4000
end Go.Proofs.YtemmnpgebpffbaaGreat
/- Layer 21's statements: how a profile lies. -/
namespace Go.Proofs.YtemmnpgebpffbaaGreat
open Go.RowKit
attribute [local irreducible] OJ J HdJ Code.wpIn wpListIn Oper.wpIn bodyPost CallsIn Does
set_option maxRecDepth 4000
end Go.Proofs.YtemmnpgebpffbaaGreat
/- Layer 21's statements: free of the middle. -/
namespace Go.Proofs.YtemmnpgebpffbaaGreat
open Go.RowKit
instance : OneE smpE := ⟨fun a u hu => by simp [smpE] at hu; rcases hu with rfl | rfl | rfl <;> rfl⟩
instance (a b c : Int) : UnE smpE [.int .i64 a, .int .i64 b, .int .i64 c] ⟨a, b, c⟩ := ⟨rfl⟩
instance : OneE stpE := ⟨fun a u hu => by simp [stpE] at hu; rcases hu with rfl | rfl | rfl <;> rfl⟩
instance (a b c : Int) : UnE stpE [.int .i64 a, .int .i64 b, .int .i64 c] ⟨a, b, c⟩ := ⟨rfl⟩
/-- A search that is not more than is waited for. -/
def smallS (s : Sch) : Sch := if 3 < s.far ∧ s.far ≤ 32 then { s with far := s.far % 4 } else s
theorem pv_eqStp (t u : TypeId) (x y : Operand) (a b c : Int) (ht : t = 43) : PV Tryz.prog (.binOp .eql t x y u) [.agg #[.int .i64 a, .int .i64 b, .int .i64 c], .agg #[.int .i64 a, .int .i64 b, .int .i64 c]] (.bool true) True := ⟨by
  subst ht
  rintro _ ρ ⟨dst, op', ty, pos, aft, gd⟩ rfl h w
  obtain ⟨h1, h2⟩ := map2 h
  have u1 := Tryz.underlying2
  have a1 := Tryz.isAgg2
  have z1 := Tryz.sizeOf2
  have u2 := Tryz.underlying3
  have a2 := Tryz.isAgg3
  have z2 := Tryz.sizeOf3
  have hS : Tryz.prog.underlying 43 = some (.struct (Tryz.prog.fieldsOf 43)) := by kernel_rfl
  have hp : Tryz.prog.stoodInHeld 43 = false := by kernel_rfl
  have hm : Tryz.prog.eqGuardType Tryz.prog.depth 43 = false := by kernel_rfl
  simp only [execOp, h1, h2, Sem.run_bind, run_eqGuard_agg w _ _ _ _ _ _ hm, Result.andThen_ok]
  rw [run_eql_struct, show (10000 : Nat) = 9999 + 1 from rfl, run_equalIn_agg w 9999 43 _ _ hS hp]
  simp only [Program.fieldsOf, Tryz.underlying43]
  go_simp⟩
instance (priority := 2000) (u : TypeId) (x y : Operand) (a b c : Int) : PV Tryz.prog (.binOp .eql 43 x y u) [.agg #[.int .i64 a, .int .i64 b, .int .i64 c], .agg #[.int .i64 a, .int .i64 b, .int .i64 c]] (.bool true) True := pv_eqStp _ u x y a b c rfl
instance (priority := 2000) {w0 : World} {W : Nat → Prop} {H : List HE} (u : TypeId) (x y : Operand) (a b c : Int) : MS Tryz.prog w0 W H (.binOp .eql 43 x y u) [.agg #[.int .i64 a, .int .i64 b, .int .i64 c], .agg #[.int .i64 a, .int .i64 b, .int .i64 c]] (.bool true) True := ⟨by
  intro _ F n N ds σ dd ty pos aft gd K Q _ hv hdN h
  have hp := pv_eqStp 43 u x y a b c rfl
  exact o_val (by simp) rfl hdN (fun a w ha _ => pq_of (o := ⟨some dd, _, ty, pos, aft, gd⟩) hv trivial a.eval (fun x _ u hu => ha.eval hu) w) h⟩
/-- The first so many heights, found so much higher. -/
def upTo21 (l : List Smp) (u : Int) : Nat → List Smp
  | 0 => []
  | i + 1 => upTo21 l u i ++ [⟨(l.getD i default).dx, (l.getD i default).dy, (l.getD i default).z + u⟩]
theorem upTo21_len (l : List Smp) (u : Int) : ∀ i, (upTo21 l u i).length = i
  | 0 => rfl
  | i + 1 => by rw [upTo21, List.length_append, upTo21_len l u i]; rfl
theorem upTo21_take (u : Int) {l : List Smp} : ∀ {i : Nat}, i ≤ l.length → upTo21 l u i = upS u (l.take i)
  | 0, _ => by simp [upTo21, upS]
  | i + 1, h => by
    rw [upTo21, upTo21_take u (i := i) (by omega), List.take_succ_eq_append_getElem h]
    have : l.getD i default = l[i] := by rw [List.getD_eq_getElem?_getD, List.getElem?_eq_getElem h]; rfl
    rw [this]
    simp only [upS, List.map_append, List.map_cons, List.map_nil]
theorem upTo21_all (u : Int) (l : List Smp) : upTo21 l u l.length = upS u l := by rw [upTo21_take u (Nat.le_refl _), List.take_length]
theorem upS_len (u : Int) (l : List Smp) : (upS u l).length = l.length := by simp [upS]
theorem upS_ok {u : Int} {l : List Smp} {i : Nat} (hi : i < l.length) (hu : -32768 ≤ u ∧ u ≤ 32767) (hz : -2097152 ≤ (l.getD i default).z ∧ (l.getD i default).z ≤ 2097152) : SmpOk ((upS u l).getD i default) ↔ SmpOk (l.getD i default) := by
  rw [upS_get u hi]
  unfold SmpOk
  dsimp only
  omega
theorem badS_up {u : Int} {l : List Smp} (hu : -32768 ≤ u ∧ u ≤ 32767) (hz : ∀ i, i < l.length → -2097152 ≤ (l.getD i default).z ∧ (l.getD i default).z ≤ 2097152) : ∀ n, n ≤ l.length → badS (upS u l) n = badS l n
  | 0, _ => rfl
  | n + 1, h => by
    rw [badS, badS, badS_up hu hz n (by omega)]
    have := upS_ok (u := u) (l := l) (i := n) (by omega) hu (hz n (by omega))
    congr 2
    exact decide_eq_decide.2 this
theorem chk21_up {s : Sch} {u : Int} {l : List Smp} (hu : -32768 ≤ u ∧ u ≤ 32767) (hz : ∀ i, i < l.length → -2097152 ≤ (l.getD i default).z ∧ (l.getD i default).z ≤ 2097152) : chk21 s (upS u l) = chk21 s l := by
  unfold chk21
  rw [upS_len, badS_up hu hz _ (Nat.le_refl _)]
theorem allL_up {W H : Nat} {f : List Int} (hf : In16 f) {s : Sch} {u : Int} {l : List Smp} {m : Int} (hm : 2 ≤ m) (hu : -32768 ≤ u ∧ u ≤ 32767) (hz : ∀ i, i < l.length → -2097152 ≤ (l.getD i default).z ∧ (l.getD i default).z ≤ 2097152) : allL W H f s (upS u l) m = allL W H f s l m := by
  unfold allL
  rw [chk21_up hu hz]
  split
  · rename_i hc
    obtain ⟨-, ⟨-, -⟩, hl⟩ := chk21_ok hc
    have : gS W H f s (upS u l) m = gS W H f s l m := by
      funext n
      unfold gS
      have hd := DifOk_ap hf (W := W) (H := H) (X := s.x + (pS s.far n).1 * s.step) (Y := s.y + (pS s.far n).2 * s.step) hl l.length (Nat.le_refl _)
      refine plc_free W H f _ _ u hm (fun j hj => ?_) (fun j hj => ?_)
      · have := hd j hj
        omega
      · have := hd j hj
        rw [getD_map_sub u (by rw [apTo_len]; exact hj)]
        omega
    unfold allN
    rw [this]
  · rfl
attribute [local irreducible] OJ J HdJ Code.wpIn wpListIn Oper.wpIn bodyPost CallsIn Does
set_option maxRecDepth 4000
set_option maxHeartbeats 64000000 in
theorem small21_any (s : Sch) (w : World) : Does Tryz.prog 9 [.agg (schE s).toArray] [] w (fun v S' => v = .agg (schE (smallS s)).toArray ∧ S' = []) := by
  refine does_of Tryz.func9 rfl Tryz.ntmps9 rfl ⟨by simp, .nil⟩ (fun n => ?_)
  simp only [slots]
  unfold smallS
  refine z_tas
  · rw [if_pos (by omega)]
    refine z_ro
    exact ⟨rfl, rfl⟩
  · rw [if_neg (by omega)]
    refine z_ro
    exact ⟨rfl, rfl⟩
  · rw [if_neg (by omega)]
    refine z_ro
    exact ⟨rfl, rfl⟩
end Go.Proofs.YtemmnpgebpffbaaGreat
/- Package theodoliteref21: all steps of a search, the best of them. -/
namespace Go.Proofs.YtemmnpgebpffbaaGreat
open Go.RowKit
attribute [local irreducible] OJ J HdJ Code.wpIn wpListIn Oper.wpIn bodyPost CallsIn Does
set_option maxRecDepth 4000
set_option maxHeartbeats 128000000 in
theorem rall_any (W H : Nat) (A : Option Addr) (c : Nat) (f : List Int) (s : Sch) (Al : Option Addr) (cl : Nat) (l : List Smp) (m : Int) (w : World) (hr : RoA w (blocks []) A f.length c 1 (ints .i16 f)) (hW : 1 ≤ W ∧ W ≤ 256 ∧ 1 ≤ H ∧ H ≤ 256) (hz : f.length = W * H) (hf : In16 f)
    (hrl : RoA w (blocks []) Al l.length cl 3 (flat smpE l)) (hm : l.length ≤ 1000000) :
    Does Tryz.prog 12 [.agg #[.int .i64 W, .int .i64 H, .slice A f.length c], .agg (schE s).toArray, .slice Al l.length cl, .int .i64 m] [] w
      (fun v S' => ∃ Aa ca, v = .slice Aa (allL W H f s l m).length ca ∧ S' = [.row (.slice Aa (allL W H f s l m).length ca) 46 3 (allL W H f s l m).length (flat stpE (allL W H f s l m))]) := by
  refine does_of Tryz.func12 rfl Tryz.ntmps12 rfl ⟨by simp, .nil⟩ (fun n => ?_)
  simp only [slots]
  refine j_nil (e := 46) (size := 3) ?_
  refine z_tas
  rename_i b4 b5
  refine lfv rfl rfl rfl (fun w hw => rcheck21_any s Al cl l w ⟨hrl.h.go hw (Split.nil _)⟩ hm) ?_
  by_cases hc : chk21 s l = 0
  · obtain ⟨⟨⟨a1, a2⟩, ⟨a3, a4⟩, ⟨a5, a6⟩, a7, a8⟩, ⟨l1, l2⟩, hl⟩ := chk21_ok hc
    have hL : allL W H f s l m = (allN W H f s l m (sideN s.far * sideN s.far)).1 := if_pos hc
    have hside : ((sideN s.far : Nat) : Int) = 2 * s.far + 1 := by unfold sideN; omega
    rw [hL]
    have hrd := fun i j hi => all_round (W := W) (H := H) (f := f) (s := s) (l := l) (m := m) (i := i) (j := j) hi
    generalize hsd : sideN s.far = sd at *
    rw [hc]
    refine z_tas
    refine c_loop (X := Nat × Option Addr × Nat) (fun q => q.1 ≤ sd ∧ (allN W H f s l m (q.1 * sd)).2 = false)
      (fun q => [(2, .slice Al l.length cl), (3, .int .i64 m), (4, .pointer (some ⟨b4, 0, none⟩)), (5, .pointer (some ⟨b5, 0, none⟩)), (9, .slice q.2.1 (allN W H f s l m (q.1 * sd)).1.length q.2.2), (10, .int .i64 ((q.1 : Int) - s.far))])
      (fun q => [.blk b4 31 [.int .i64 W, .int .i64 H, .slice A f.length c], .blk b5 26 (schE s), .row (.slice q.2.1 (allN W H f s l m (q.1 * sd)).1.length q.2.2) 46 3 (allN W H f s l m (q.1 * sd)).1.length (flat stpE (allN W H f s l m (q.1 * sd)).1)]) (fun q => sd - q.1) (0, none, 0) ⟨by omega, by rw [Nat.zero_mul]; rfl⟩ ⟨rfl, rfl, rfl, rfl, by rw [Nat.zero_mul]; rfl, by simp [look], trivial⟩ (by simp only [Nat.zero_mul]; show Sub [_, _, .row (.slice none 0 0) _ 3 0 []] _; exact Sub.au) ?_
    rintro ⟨j, A1, c1⟩ ⟨hj, hok⟩
    dsimp only at hj hok ⊢
    have hlj := all_len (g := gS W H f s l m) (p := pS s.far) (j * sd)
    rcases Nat.lt_or_ge j sd with hlt | hge
    · have hjs : j * sd + sd ≤ sd * sd := by have := Nat.mul_le_mul_right sd (show j + 1 ≤ sd from hlt); rw [Nat.add_mul, Nat.one_mul] at this; exact this
      have hss : sd * sd ≤ 4225 := by have := Nat.mul_le_mul (show sd ≤ 65 by omega) (show sd ≤ 65 by omega); omega
      have hsj : (j + 1) * sd = j * sd + sd := by rw [Nat.add_mul, Nat.one_mul]
      refine z_tas
      refine c_loop (X := Nat × Option Addr × Nat) (fun q => q.1 ≤ sd ∧ (allN W H f s l m (j * sd + q.1)).2 = false)
        (fun q => [(2, .slice Al l.length cl), (3, .int .i64 m), (4, .pointer (some ⟨b4, 0, none⟩)), (5, .pointer (some ⟨b5, 0, none⟩)), (9, .slice q.2.1 (allN W H f s l m (j * sd + q.1)).1.length q.2.2), (10, .int .i64 ((j : Int) - s.far)), (11, .int .i64 ((q.1 : Int) - s.far))])
        (fun q => [.blk b4 31 [.int .i64 W, .int .i64 H, .slice A f.length c], .blk b5 26 (schE s), .row (.slice q.2.1 (allN W H f s l m (j * sd + q.1)).1.length q.2.2) 46 3 (allN W H f s l m (j * sd + q.1)).1.length (flat stpE (allN W H f s l m (j * sd + q.1)).1)]) (fun q => sd - q.1) (0, A1, c1) ⟨by omega, hok⟩ ⟨rfl, rfl, rfl, rfl, rfl, rfl, by simp [look], trivial⟩ Sub.au ?_
      rintro ⟨i, A2, c2⟩ ⟨hi, hok2⟩
      dsimp only at hi hok2 ⊢
      have hli := all_len (g := gS W H f s l m) (p := pS s.far) (j * sd + i)
      rcases Nat.lt_or_ge i sd with hlt2 | hge2
      · have hg := hrd i j hlt2
        have hx := mulB 32 4096 (a := (i : Int) - s.far) (b := s.step) (by omega) (by omega)
        have hy2 := mulB 32 4096 (a := (j : Int) - s.far) (b := s.step) (by omega) (by omega)
        have hn := all_none (g := gS W H f s l m) (p := pS s.far) (n := j * sd + i) hok2
        have hsm := fun c => all_some (g := gS W H f s l m) (p := pS s.far) (n := j * sd + i) (c := c) hok2
        have her := fun c e => all_err (g := gS W H f s l m) (p := pS s.far) (n := j * sd + i) (c := c) (e := e) hok2
        have hst := fun h => all_stop (g := gS W H f s l m) (p := pS s.far) (n := j * sd + i + 1) h (sd * sd - (j * sd + i + 1))
        rw [show j * sd + i + 1 + (sd * sd - (j * sd + i + 1)) = sd * sd by omega] at hst
        have hps : pS s.far (j * sd + i) = ((i : Int) - s.far, (j : Int) - s.far) := by rw [← hsd]; exact pS_at (by rw [hsd]; exact hlt2)
        generalize hXe : s.x + ((i : Int) - s.far) * s.step = X at *
        generalize hYe : s.y + ((j : Int) - s.far) * s.step = Y at *
        have hne : ∀ q, allN W H f s l m q = allTo (gS W H f s l m) (pS s.far) q := fun _ => rfl
        rw [hne] at hok2 ⊢
        generalize hQ : allTo (gS W H f s l m) (pS s.far) (j * sd + i) = Q at *
        obtain ⟨Q1, Q2⟩ := Q
        dsimp only at hok2 hli hn hsm her ⊢
        subst hok2
        refine z_tas
        rw [hXe, hYe]
        refine lf rfl rfl rfl (S := []) (fun w hw ho => rapart_any W H A c f X Y Al cl l w ⟨hr.h.go hw (Split.nil _)⟩ hW hz hf ⟨hrl.h.go hw (Split.nil _)⟩ hm (by omega) (by omega) hl) ?_
        rintro v S' (⟨hon, Aa, ca, rfl, rfl⟩ | ⟨hon, rfl, rfl⟩)
        · rw [if_pos hon] at hg
          have hal := apTo_len W H f X Y l l.length
          generalize hd : apTo W H f X Y l l.length = d at *
          refine z_tas
          refine lfv rfl rfl rfl (fun w hw => rcost_any Aa ca d m w ⟨Ro.row hw (Split.nil _) (by refine z_hs)⟩ (by omega)) ?_
          obtain ⟨cc1, e1, hce⟩ : ∃ c e, costF d m 1 2 10 = (c, e) := ⟨_, _, rfl⟩
          rw [hce] at hg ⊢
          dsimp only
          refine z_tas
          · rename_i hne2
            have hne' : e1 ≠ 0 := by simpa using hne2
            have he := her _ _ hg hne'
            refine j_out1 rfl rfl (S' := [.row (.slice A2 Q1.length c2) 46 3 Q1.length (flat stpE Q1)]) Sub.au ⟨A2, c2, ?_⟩
            rw [hne, hst (by rw [he]), he]
            exact ⟨rfl, rfl⟩
          · rename_i hne2 _ A3 c3
            obtain rfl : e1 = 0 := Classical.not_not.1 hne2
            have hsm' := hsm _ hg
            rw [hps] at hsm'
            refine c_round (i + 1, A3, c3) ⟨hlt2, by show (allTo _ _ (j * sd + i + 1)).2 = false; rw [hsm']⟩ (by show sd - (i + 1) < sd - i; omega) ⟨rfl, rfl, rfl, rfl, by show look _ 9 = some (.slice _ (allTo _ _ (j * sd + i + 1)).1.length _); rw [hsm']; rfl, rfl, by simp [look]; omega, trivial⟩ ?_
            show Sub [_, _, .row (.slice _ (allTo _ _ (j * sd + i + 1)).1.length _) _ _ (allTo _ _ (j * sd + i + 1)).1.length (flat stpE (allTo _ _ (j * sd + i + 1)).1)] _
            rw [hsm']
            exact Sub.au
        · rw [hon, if_neg (by decide)] at hg
          refine z_tas
          have hn' := hn hg
          refine c_round (i + 1, A2, c2) ⟨hlt2, by show (allTo _ _ (j * sd + i + 1)).2 = false; rw [hn']⟩ (by show sd - (i + 1) < sd - i; omega) ⟨rfl, rfl, rfl, rfl, by show look _ 9 = some (.slice _ (allTo _ _ (j * sd + i + 1)).1.length _); rw [hn']; rfl, rfl, by simp [look]; omega, trivial⟩ ?_
          show Sub [_, _, .row (.slice _ (allTo _ _ (j * sd + i + 1)).1.length _) _ _ (allTo _ _ (j * sd + i + 1)).1.length (flat stpE (allTo _ _ (j * sd + i + 1)).1)] _
          rw [hn']
          exact Sub.au
      · obtain rfl : i = sd := by omega
        refine z_tas
        refine c_round (j + 1, A2, c2) ⟨hlt, by dsimp only; rw [hsj]; exact hok2⟩ (by show i - (j + 1) < i - j; omega) ⟨rfl, rfl, rfl, rfl, by dsimp only; rw [hsj]; rfl, by simp [look]; omega, trivial⟩ (by dsimp only; rw [hsj]; exact Sub.au)
    · obtain rfl : j = sd := by omega
      have hss : j * j ≤ 4225 := by have := Nat.mul_le_mul (show j ≤ 65 by omega) (show j ≤ 65 by omega); omega
      refine z_tas
      exact j_out1 rfl rfl Sub.au ⟨A1, c1, rfl, rfl⟩
  · have hL : allL W H f s l m = [] := if_neg hc
    rw [hL]
    refine z_tas
    exact j_out1 rfl rfl (S' := [.row (.slice none 0 0) 46 3 0 []]) Sub.au ⟨none, 0, rfl, rfl⟩
end Go.Proofs.YtemmnpgebpffbaaGreat
/- Package theodoliteref21: the best of all steps; layer 21's statement on it. -/
namespace Go.Proofs.YtemmnpgebpffbaaGreat
open Go.RowKit
def bstV (L : List Stp) (i : Nat) : Int := match bstTo L i with
  | none => -1
  | some b => b
theorem bstV_none {L : List Stp} {i : Nat} (h : bstTo L i = none) : bstV L i = -1 := by unfold bstV; rw [h]
theorem bstV_some {L : List Stp} {i b : Nat} (h : bstTo L i = some b) : bstV L i = b := by unfold bstV; rw [h]
theorem bstTo_succ_none {L : List Stp} {i : Nat} (h : bstTo L i = none) : bstTo L (i + 1) = some i := by rw [bstTo, h]
theorem bstTo_succ_lt {L : List Stp} {i b : Nat} (h : bstTo L i = some b) (h2 : (L.getD i default).cost < (L.getD b default).cost) : bstTo L (i + 1) = some i := by rw [bstTo, h]; exact if_pos h2
theorem bstTo_succ_ge {L : List Stp} {i b : Nat} (h : bstTo L i = some b) (h2 : ¬ (L.getD i default).cost < (L.getD b default).cost) : bstTo L (i + 1) = some b := by rw [bstTo, h]; exact if_neg h2
attribute [local irreducible] OJ J HdJ Code.wpIn wpListIn Oper.wpIn bodyPost CallsIn Does
set_option maxRecDepth 4000
set_option maxHeartbeats 128000000 in
theorem rbest_any (A : Option Addr) (c : Nat) (L : List Stp) (away : Int) (w : World) (hr : RoA w (blocks []) A L.length c 3 (flat stpE L)) (hm : L.length ≤ 4225) (hL : ∀ i, i < L.length → ((-32 ≤ (L.getD i default).i ∧ (L.getD i default).i ≤ 32) ∧ (-32 ≤ (L.getD i default).k ∧ (L.getD i default).k ≤ 32))) :
    Does Tryz.prog 13 [.slice A L.length c, .int .i64 away] [] w (fun v S' => v = .tuple #[.int .i64 (bstV L L.length), .int .i64 (secTo L (L.getD ((bstTo L L.length).getD 0) default) away L.length)] ∧ S' = []) := by
  refine does_of Tryz.func13 rfl Tryz.ntmps13 rfl ⟨by simp, .nil⟩ (fun n => ?_)
  simp only [slots]
  refine z_tas
  refine c_loop (X := Nat) (fun i => i ≤ L.length) (fun i => [(0, .slice A L.length c), (1, .int .i64 away), (6, .int .i64 (bstV L i)), (7, .int .i64 i)])
    (fun i => []) (fun i => L.length - i) 0 (by omega) ⟨rfl, rfl, rfl, rfl, trivial⟩ Sub.au ?_
  intro i hi
  rcases Nat.lt_or_ge i L.length with h | h
  · obtain ⟨bL, oL, rfl, hRL⟩ := hr.at_ (by omega : 0 < L.length)
    cases hb : bstTo L i with
    | none =>
      have e := bstV_some (bstTo_succ_none hb)
      rw [bstV_none hb]
      refine z_tas
      all_goals try (refine c_dv (0 :: 1 :: 2 :: 3 :: 4 :: 5 :: 6 :: 7 :: 8 :: 9 :: 10 :: 11 :: 12 :: 13 :: 14 :: []) ?_; intro _)
      all_goals try (refine z_govG)
      all_goals exact c_round (i + 1) h (by show L.length - (i + 1) < L.length - i; omega) ⟨rfl, rfl, by rw [e]; rfl, by simp [look], trivial⟩ Sub.au
    | some b =>
      have hlt := bstTo_lt hb
      have e1 := fun q => bstV_some (bstTo_succ_lt hb q)
      have e2 := fun q => bstV_some (bstTo_succ_ge hb q)
      rw [bstV_some hb]
      refine z_tas
      all_goals try (refine c_dv (0 :: 1 :: 2 :: 3 :: 4 :: 5 :: 6 :: 7 :: 8 :: 9 :: 10 :: 11 :: 12 :: 13 :: 14 :: []) ?_; intro _)
      all_goals try (refine z_govG)
      all_goals first
        | exact c_round (i + 1) h (by show L.length - (i + 1) < L.length - i; omega) ⟨rfl, rfl, by rw [e1 (by omega)]; rfl, by simp [look], trivial⟩ Sub.au
        | exact c_round (i + 1) h (by show L.length - (i + 1) < L.length - i; omega) ⟨rfl, rfl, by rw [e2 (by omega)]; rfl, by simp [look], trivial⟩ Sub.au
        | (exfalso; omega)
  · obtain rfl : i = L.length := by omega
    cases hb : bstTo L L.length with
    | none =>
      have hl0 : L.length = 0 := bstTo_none.1 hb
      have es : ∀ x, secTo L x away L.length = -1 := fun x => by rw [hl0]; rfl
      rw [bstV_none hb, es]
      refine z_tas
      refine c_loop (X := Nat) (fun i => i = 0) (fun i => [(0, .slice A L.length c), (6, .int .i64 (-1)), (8, .int .i64 (-1)), (9, .int .i64 i)])
        (fun i => []) (fun i => 0) 0 rfl ⟨rfl, rfl, rfl, rfl, trivial⟩ Sub.au ?_
      rintro i rfl
      rw [hl0]
      refine z_tas
      exact j_out2 rfl rfl rfl (.nil _) ⟨rfl, rfl⟩
    | some b =>
      have hlt := bstTo_lt hb
      obtain ⟨bL, oL, rfl, hRL⟩ := hr.at_ (by omega : 0 < L.length)
      have hbb := hL b hlt
      rw [bstV_some hb]
      simp only [Option.getD_some]
      refine z_tas
      refine c_loop (X := Nat) (fun i => i ≤ L.length) (fun i => [(0, .slice (some ⟨bL, oL, none⟩) L.length c), (1, .int .i64 away), (6, .int .i64 b), (8, .int .i64 (secTo L (L.getD b default) away i)), (9, .int .i64 i)])
        (fun i => []) (fun i => L.length - i) 0 (by omega) ⟨rfl, rfl, rfl, rfl, rfl, trivial⟩ Sub.au ?_
      intro i hi
      rcases Nat.lt_or_ge i L.length with h | h
      · have hx := hL i h
        have e := secTo.eq_2 L (L.getD b default) away i
        have hnr := fun w => (near_cv (L.getD i default) (L.getD b default) away).h ⟨hx, hbb⟩ w
        generalize hsc : secTo L (L.getD b default) away i = sc at *
        by_cases hf : farB (L.getD i default) (L.getD b default) away = true
        · have iN : CV Tryz.prog 44 [.agg (stpE (L.getD i default)).toArray, .agg (stpE (L.getD b default)).toArray, .int .i64 away] (.bool false) True := ⟨fun _ w => by have := hnr w; rw [hf] at this; exact this⟩
          have e1 : (sc < 0 ∨ (L.getD i default).cost < sc) → secTo L (L.getD b default) away (i + 1) = (L.getD i default).cost := fun q => by rw [e, if_pos ⟨hf, q⟩]
          have e2 : ¬ (sc < 0 ∨ (L.getD i default).cost < sc) → secTo L (L.getD b default) away (i + 1) = sc := fun q => by rw [e, if_neg (fun h => q h.2)]
          clear e hnr
          refine z_tas
          all_goals try (refine c_dv (0 :: 1 :: 2 :: 3 :: 4 :: 5 :: 6 :: 7 :: 8 :: 9 :: 10 :: 11 :: 12 :: 13 :: 14 :: 15 :: 16 :: 17 :: 18 :: 19 :: 20 :: 21 :: 22 :: 23 :: []) ?_; intro _)
          all_goals try (refine z_govG)
          all_goals first
            | exact c_round (i + 1) h (by show L.length - (i + 1) < L.length - i; omega) ⟨rfl, rfl, rfl, by rw [e1 (by omega)]; rfl, by simp [look], trivial⟩ Sub.au
            | exact c_round (i + 1) h (by show L.length - (i + 1) < L.length - i; omega) ⟨rfl, rfl, rfl, by rw [e2 (by omega)]; rfl, by simp [look], trivial⟩ Sub.au
        · have iN : CV Tryz.prog 44 [.agg (stpE (L.getD i default)).toArray, .agg (stpE (L.getD b default)).toArray, .int .i64 away] (.bool true) True := ⟨fun _ w => by have := hnr w; rw [Bool.eq_false_iff.2 hf] at this; exact this⟩
          have e2 : secTo L (L.getD b default) away (i + 1) = sc := by rw [e, if_neg (fun h => hf h.1)]
          clear e hnr
          refine z_tas
          all_goals try (refine c_dv (0 :: 1 :: 2 :: 3 :: 4 :: 5 :: 6 :: 7 :: 8 :: 9 :: 10 :: 11 :: 12 :: 13 :: 14 :: 15 :: 16 :: 17 :: 18 :: 19 :: 20 :: 21 :: 22 :: 23 :: []) ?_; intro _)
          all_goals try (refine z_govG)
          all_goals exact c_round (i + 1) h (by show L.length - (i + 1) < L.length - i; omega) ⟨rfl, rfl, rfl, by rw [e2]; rfl, by simp [look], trivial⟩ Sub.au
      · obtain rfl : i = L.length := by omega
        refine z_tas
        exact j_out2 rfl rfl rfl (.nil _) ⟨rfl, rfl⟩
end Go.Proofs.YtemmnpgebpffbaaGreat
/- Functions that hold their first arguments: method values, and calls of them. -/
namespace Go.Proofs.YtemmnpgebpffbaaGreat
open Go.RowKit
instance (f : Fn) (xs ys : Array Value) : One (.func f xs ys) := ⟨rfl⟩
instance : One .nilFunc := ⟨rfl⟩
section
variable {F : Fence} {n : Nat} {P : Program} {N : Nat} {ds : List Deferred} {w0 : World} {W : Nat → Prop} {σ : List (Nat × Value)} {H R : List HE} {Q : Exit → Act → World → Prop} {K : Act → World → Prop}
variable {d : Nat} {ty : TypeId} {pos : String} {aft : Array Edge} {gd : Option (Nat × Bool)} {o : Oper} {ops : Array Oper} {rest : List Oper}
instance (priority := 50) (fn : Fn) (first : Array Operand) (vs : List Value) : MS P w0 W H (.makeFunc fn first #[]) vs (.func fn vs.toArray #[]) True := ⟨fun _ {_ _ _ _ σ _ _ _ _ _ _ _} _ h1 h2 h3 => r_makeFunc (xs := vs.toArray) (ys := #[]) (fun a ha => ⟨by
  have h1' : vals σ first.toList = some vs := by simpa [Op.operands] using h1
  have := vals_all h1' a ha
  rw [← this]
  apply Array.ext'
  simp, by simp⟩) h2 h3⟩
/-- A call of a function that holds its first arguments. -/
theorem o_callB [hF : Wide F] [hW : WF F] {dst : Option Nat} {x : Operand} {f : FuncId} {first captured : Array Value} {args : Array Operand} {ts : Array TypeId} {vs : List Value} [hcl : Cl P f] {S : List HE} {Rl : Value → List HE → Prop}
    (hx : ev σ x = some (.func (.func f) first captured)) (hv : vals σ args.toList = some vs) (hs : Split H S R)
    (hc : ∀ w, St w0 W H w → Own S w → Does P f (first.toList ++ vs ++ captured.toList) S w Rl)
    (h : ∀ v S', Rl v S' → ∀ a w, Tm N ds σ a → St w0 W (S' ++ R) w → K (a.put dst v) w) :
    OJ F n P N ds w0 W σ H ⟨dst, .call ⟨.value x, args, ts⟩, ty, pos, aft, gd⟩ K Q := by
  intro a w ha hw
  have hargs : args.map a.eval = vs.toArray := by
    rw [← vals_map ha hv]
    apply Array.ext'
    simp
  refine ⟨fun f _ => hF.out.fn f, ?_⟩
  rw [Oper.semAt_plain F _ _ (by simp)]
  have e0 : (first ++ vs.toArray ++ captured : Array Value) = (first.toList ++ vs ++ captured.toList).toArray := by
    apply Array.ext'; simp
  simp only [execOp, resolve, invoke, Deferred.ofValue, Sem.run_bind, Sem.run_pure, Result.andThen_ok, ha.eval hx, hargs, hcl.h, Oper.uponIn_enter, e0]
  refine ⟨fun hd => (by rw [hF.out.depth] at hd; cases hd), (hW.h (hc w hw (hw.sub_own hs) (n - 1))).mono ?_⟩
  rintro e w' ⟨v, S', rfl, hr, hst⟩
  exact h v S' hr _ _ ha (hw.call hs hst)
theorem lb [Wide F] [WF F] {dst : Nat} {x : Operand} {f : FuncId} {first captured : Array Value} {args : Array Operand} {ts : Array TypeId} {vs : List Value} [Cl P f] {S : List HE} {Rl : Value → List HE → Prop}
    (hw : wantd ops σ ⟨some dst, .call ⟨.value x, args, ts⟩, ty, pos, aft, gd⟩ = some true) (hx : ev σ x = some (.func (.func f) first captured)) (hv : vals σ args.toList = some vs) (hdN : Nat.blt dst N = true)
    (hc : ∀ w, St w0 W H w → Own S w → Does P f (first.toList ++ vs ++ captured.toList) S w Rl) [hs : SplitC H S R] (h : ∀ v S', Rl v S' → J N ds w0 W ((dst, v) :: σ) (S' ++ R) (wpListIn F n P ops Q rest)) :
    J N ds w0 W σ H (wpListIn F n P ops Q (⟨some dst, .call ⟨.value x, args, ts⟩, ty, pos, aft, gd⟩ :: rest)) :=
  l_run hw (o_callB hx hv hs.h hc fun v S' hr a w ha hw => h v S' hr _ _ (ha.put dst v (by simpa using hdN)) hw)
end
end Go.Proofs.YtemmnpgebpffbaaGreat
