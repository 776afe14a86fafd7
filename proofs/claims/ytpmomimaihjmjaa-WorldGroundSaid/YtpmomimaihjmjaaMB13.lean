
import Derived.Test.YtpmomimaihjmjaaMB12
set_option linter.unusedVariables false
set_option linter.unusedSimpArgs false
/- Package world: Go. -/
namespace Go.Proofs.Ytpmomimaihjmjaa
open Go.RowKit
/-- Why one can't go on, or 0. -/
def goC (v : Wv) (dx dy up ms : Int) : Int :=
  if ¬((-65536 ≤ dx ∧ dx ≤ 65536) ∧ (-65536 ≤ dy ∧ dy ≤ 65536) ∧ (-65536 ≤ up ∧ up ≤ 65536) ∧ ms ≤ 60000) then 2 else
  if ¬((-1048576 ≤ v.x + dx ∧ v.x + dx ≤ 1048576) ∧ (-1048576 ≤ v.y + dy ∧ v.y + dy ≤ 1048576) ∧ (-1048576 ≤ v.high + up ∧ v.high + up ≤ 1048576)) then 9 else 0
@[reducible] def goV (v : Wv) (dx dy up ms : Int) : Wv := ⟨v.x + dx, v.y + dy, v.high + up, v.off, dx, dy, (v.time + ms) % 4294967296, v.told⟩
/-- The frames that are told. -/
def goL (v : Wv) (z e : Int) : List Frm :=
  if radB v z e = true then [frW v 1 v.dx v.dy, frW { v with told := v.told + 1 } 3 (v.high + v.off) 0, frW { v with told := v.told + 2 } 2 (v.high - z) 0] else [frW v 1 v.dx v.dy, frW { v with told := v.told + 1 } 3 (v.high + v.off) 0]
def goT (v : Wv) (z e : Int) : Wv × List Frm := ({ v with told := v.told + (goL v z e).length }, goL v z e)
/-- One who goes on: who they are then, what is told, and why not. -/
def goF (W H : Nat) (f : List Int) (v : Wv) (dx dy up ms : Int) : Wv × List Frm × Int :=
  if goC v dx dy up ms = 0 then ((goT (goV v dx dy up ms) (heightT W H f (v.x + dx) (v.y + dy)) (codeF W H f (v.x + dx) (v.y + dy))).1, (goT (goV v dx dy up ms) (heightT W H f (v.x + dx) (v.y + dy)) (codeF W H f (v.x + dx) (v.y + dy))).2, 0) else (v, [], goC v dx dy up ms)
theorem goV_ok {v : Wv} {b dx dy up ms : Int} (h : v.ok b) (hc : goC v dx dy up ms = 0) : (goV v dx dy up ms).ok b := by
  unfold goC at hc
  split at hc
  · exact absurd hc (by decide)
  split at hc
  · exact absurd hc (by decide)
  · rename_i h1 h2
    have h1 := Decidable.not_not.1 h1
    have h2 := Decidable.not_not.1 h2
    exact ⟨h2.1, h2.2.1, h2.2.2, h.off, h1.1, h1.2.1, ⟨Int.emod_nonneg _ (by decide), Int.emod_lt_of_pos _ (by decide)⟩, h.told⟩
/-- The frames that the first so many instruments told. -/
def loL (v : Wv) (z e : Int) : Nat → List Frm
  | 0 => []
  | 1 => [frW v 1 v.dx v.dy]
  | 2 => [frW v 1 v.dx v.dy, frW { v with told := v.told + 1 } 3 (v.high + v.off) 0]
  | _ => goL v z e
def loV (v : Wv) (z e : Int) (i : Nat) : Wv := { v with told := v.told + (loL v z e i).length }
theorem loV_zero (v : Wv) (z e : Int) : loV v z e 0 = v := by
  unfold loV
  simp [loL]
theorem loV_ok {v : Wv} {b : Int} (h : v.ok b) (z e : Int) (i : Nat) : (loV v z e i).ok (b + 3) := by
  have hl : (loL v z e i).length ≤ 3 := by
    match i with
    | 0 => exact Nat.zero_le _
    | 1 => show 1 ≤ 3; omega
    | 2 => show 2 ≤ 3; omega
    | n + 3 => show (goL v z e).length ≤ 3; unfold goL; split <;> simp
  have ht := h.told
  refine ⟨h.x, h.y, h.high, h.off, h.dx, h.dy, h.time, ?_⟩
  show 0 ≤ v.told + _ ∧ v.told + _ ≤ b + 3
  omega
attribute [local irreducible] OJ J HdJ Code.wpIn wpListIn Oper.wpIn bodyPost CallsIn Does
set_option maxRecDepth 4000
set_option maxHeartbeats 64000000 in
theorem go_c (K : CaT) (s : CaV) (f : List Int) (b t : Nat) (v : Wv) (m bb : Int) (hv : v.ok bb) (hb : bb ≤ 100000) (dx dy up ms : Int) (hdx : InR .i64 dx) (hdy : InR .i64 dy) (hup : InR .i64 up) (hms : InR .u32 ms) (w : World) (hown : Own (K.W s b t v) w) (hF : CaF K.ys f K.room) (h : CaOk K.ys f K.room s m) (hm : m ≤ 900000000000000000) :
    Does Try.prog 32 [.pointer (some ⟨b, 0, none⟩), .int .i64 dx, .int .i64 dy, .int .i64 up, .int .u32 ms] (K.W s b t v) w
      (fun r S' => ∃ s' A c, r = .tuple #[.slice A (goF (wY K.ys) (hY K.ys) f v dx dy up ms).2.1.length c, .int .i64 (goF (wY K.ys) (hY K.ys) f v dx dy up ms).2.2] ∧ CaOk K.ys f K.room s' (m + 4) ∧
        S' = .row (.slice A (goF (wY K.ys) (hY K.ys) f v dx dy up ms).2.1.length c) 83 6 (goF (wY K.ys) (hY K.ys) f v dx dy up ms).2.1.length (flat frmE (goF (wY K.ys) (hY K.ys) f v dx dy up ms).2.1) :: K.W s' b t (goF (wY K.ys) (hY K.ys) f v dx dy up ms).1) := by
  have hms1 : 0 ≤ ms ∧ ms ≤ 4294967295 := hms
  have h1 := hv.x
  have h2 := hv.y
  have h3 := hv.high
  have h4 := hv.time
  have h5 := hv.told
  refine does_of Try.func32 rfl Try.ntmps32 rfl hown (fun n => ?_)
  simp only [slots]
  by_cases hc : goC v dx dy up ms = 0
  · have hg := goV_ok hv hc
    have e : goF (wY K.ys) (hY K.ys) f v dx dy up ms = _ := if_pos hc
    unfold goC at hc
    split at hc
    · exact absurd hc (by decide)
    split at hc
    · exact absurd hc (by decide)
    rename_i g1 g2
    have g1 := Decidable.not_not.1 g1
    have g2 := Decidable.not_not.1 g2
    refine j_nil (e := 83) (size := 6) ?_
    refine z_tas
    refine c_dvL [.blk b 156 (worldE K.g v t)] (0 :: 1 :: 2 :: 3 :: 4 :: 5 :: 6 :: 7 :: 8 :: 9 :: 10 :: 11 :: 12 :: 13 :: 14 :: 15 :: 16 :: []) Sub.au ?_
    intro _
    refine z_govG
    rotate_left
    refine t_next Sub.au (t_nrm (rest' := [14, 16]) (by decide) ?_)
    refine z_govG
    all_goals
      rename Nat => b12
      refine c_dvL [.blk b12 61 [.int .i64 (v.x + dx), .int .i64 (v.y + dy)]] (0 :: 1 :: 2 :: 3 :: 4 :: 5 :: 6 :: 7 :: 8 :: 9 :: 10 :: 11 :: 12 :: 13 :: 14 :: 15 :: 16 :: 17 :: 18 :: 19 :: 20 :: 21 :: 22 :: 23 :: 24 :: []) Sub.au ?_
      intro _
      refine z_govG
      have ew : IntKind.u32.wrap (v.time + ms) = (v.time + ms) % 4294967296 := by simp [IntKind.wrap, IntKind.bits, IntKind.signed]
      rw [ew]
      have hz := heightT_in hF.good.1 (W := wY K.ys) (H := hY K.ys) (v.x + dx) (v.y + dy)
      rw [e]
      generalize hgz : heightT (wY K.ys) (hY K.ys) f (v.x + dx) (v.y + dy) = z at *
      generalize hge : codeF (wY K.ys) (hY K.ys) f (v.x + dx) (v.y + dy) = e0 at *
      have ho := hg.off
      have hh := hg.high
      refine c_loop (X := Nat × CaV × Option Addr × Nat) (fun q => q.1 ≤ 3 ∧ CaOk K.ys f K.room q.2.1 (m + 4 * ((q.1 / 3 : Nat) : Int))) (fun q => [(0, .pointer (some ⟨b, 0, none⟩)), (103, .slice (some ⟨t, 0, none⟩) 3 3), (104, .int .i64 ((3 : Nat) : Int)), (105, .int .i64 q.1), (13, .slice q.2.2.1 (loL (goV v dx dy up ms) z e0 q.1).length q.2.2.2)])
        (fun q => .row (.slice q.2.2.1 (loL (goV v dx dy up ms) z e0 q.1).length q.2.2.2) 83 6 (loL (goV v dx dy up ms) z e0 q.1).length (flat frmE (loL (goV v dx dy up ms) z e0 q.1)) :: K.W q.2.1 b t (loV (goV v dx dy up ms) z e0 q.1)) (fun q => 3 - q.1) (0, s, none, 0) ⟨by omega, by simpa using h⟩ ⟨rfl, rfl, rfl, rfl, rfl, trivial⟩ (by show Sub (.row (.slice none 0 0) 83 6 0 [] :: K.W s b t (loV (goV v dx dy up ms) z e0 0)) _; rw [loV_zero]; exact Sub.au) ?_
      have hgz' : heightT (wY K.ys) (hY K.ys) f (goV v dx dy up ms).x (goV v dx dy up ms).y = z := hgz
      have hge' : codeF (wY K.ys) (hY K.ys) f (goV v dx dy up ms).x (goV v dx dy up ms).y = e0 := hge
      generalize goV v dx dy up ms = v1 at *
      have hgd := hg.dx
      have hge := hg.dy
      have hgt := hg.told
      rintro ⟨i, s1, A1, c1⟩ ⟨hi, hs1⟩
      have hV := loV_ok hg z e0 i
      dsimp only at hi hs1 ⊢
      rcases Nat.lt_or_ge i 3 with hi3 | hi3
      · have hTL : toolL.length = 3 := rfl
        have hl3 : (loL v1 z e0 0).length = 0 ∧ (loL v1 z e0 1).length = 1 ∧ (loL v1 z e0 2).length = 2 := ⟨rfl, rfl, rfl⟩
        obtain rfl | rfl | rfl : i = 0 ∨ i = 1 ∨ i = 2 := by omega
        · rw [loV_zero]
          refine z_tas
          refine lb (f := 74) (first := #[.pointer (some ⟨b, 0, none⟩)]) (captured := #[]) (vs := []) (S := K.W s1 b t v1) rfl rfl rfl rfl (fun w hw ho => move_c K s1 b t v1 w ho) ?_
          rintro r S' ⟨rfl, rfl⟩
          refine z_tas
          refine lf rfl rfl rfl (S := K.W s1 b t v1) (fun w hw ho => frame_c K s1 b t v1 bb 1 v1.dx v1.dy hg (by omega) (by show -2147483648 ≤ _ ∧ _ ≤ 2147483647; omega) (by show -2147483648 ≤ _ ∧ _ ≤ 2147483647; omega) w ho) ?_
          rintro r S' ⟨rfl, rfl⟩
          refine z_tas
          rename_i A2 c2
          exact c_round (1, s1, A2, c2) ⟨by omega, by simpa using hs1⟩ (by show 3 - 1 < 3 - 0; omega) ⟨rfl, rfl, rfl, rfl, rfl, trivial⟩ (by show Sub (.row (.slice A2 (loL v1 z e0 0 ++ [frW v1 1 v1.dx v1.dy]).length c2) 83 6 (loL v1 z e0 0 ++ [frW v1 1 v1.dx v1.dy]).length (flat frmE (loL v1 z e0 0 ++ [frW v1 1 v1.dx v1.dy])) :: K.W s1 b t { v1 with told := v1.told + 1 }) _; exact Sub.au)
        · rw [show loV v1 z e0 1 = { v1 with told := v1.told + 1 } from rfl] at hV ⊢
          refine z_tas
          refine lb (f := 75) (first := #[.pointer (some ⟨b, 0, none⟩)]) (captured := #[]) (vs := []) (S := K.W s1 b t { v1 with told := v1.told + 1 }) rfl rfl rfl rfl (fun w hw ho => baro_c K s1 b t _ (bb + 3) hV w ho) ?_
          rintro r S' ⟨rfl, rfl⟩
          refine z_tas
          refine lf rfl rfl rfl (S := K.W s1 b t { v1 with told := v1.told + 1 }) (fun w hw ho => frame_c K s1 b t _ (bb + 3) 3 (v1.high + v1.off) 0 hV (by omega) (by show -2147483648 ≤ _ ∧ _ ≤ 2147483647; omega) (by show -2147483648 ≤ _ ∧ _ ≤ 2147483647; omega) w ho) ?_
          rintro r S' ⟨rfl, rfl⟩
          refine z_tas
          rename_i A2 c2
          have eV : loV v1 z e0 2 = { v1 with told := v1.told + 1 + 1 } := congrArg (fun q => ({ v1 with told := q } : Wv)) (by show v1.told + ((2 : Nat) : Int) = _; omega)
          exact c_round (2, s1, A2, c2) ⟨by omega, by simpa using hs1⟩ (by show 3 - 2 < 3 - 1; omega) ⟨rfl, rfl, rfl, rfl, rfl, trivial⟩ (by show Sub (.row (.slice A2 (loL v1 z e0 1 ++ [frW { v1 with told := v1.told + 1 } 3 (v1.high + v1.off) 0]).length c2) 83 6 (loL v1 z e0 1 ++ [frW { v1 with told := v1.told + 1 } 3 (v1.high + v1.off) 0]).length (flat frmE (loL v1 z e0 1 ++ [frW { v1 with told := v1.told + 1 } 3 (v1.high + v1.off) 0])) :: K.W s1 b t (loV v1 z e0 2)) _; rw [eV]; exact Sub.au)
        · rw [show loV v1 z e0 2 = { v1 with told := v1.told + 2 } from rfl] at hV ⊢
          refine z_tas
          refine lb (f := 76) (first := #[.pointer (some ⟨b, 0, none⟩)]) (captured := #[]) (vs := []) (S := K.W s1 b t { v1 with told := v1.told + 2 }) rfl rfl rfl rfl (fun w hw ho => radar_c K s1 f b t _ m (bb + 3) hV w ho hF (by simpa using hs1) hm) ?_
          rintro r S' ⟨s2, rfl, k1, rfl⟩
          rw [show heightT (wY K.ys) (hY K.ys) f ({ v1 with told := v1.told + 2 } : Wv).x ({ v1 with told := v1.told + 2 } : Wv).y = z from hgz', show codeF (wY K.ys) (hY K.ys) f ({ v1 with told := v1.told + 2 } : Wv).x ({ v1 with told := v1.told + 2 } : Wv).y = e0 from hge', show radB ({ v1 with told := v1.told + 2 } : Wv) z e0 = radB v1 z e0 from rfl]
          have k2 : CaOk K.ys f K.room s2 (m + 4 * ((3 / 3 : Nat) : Int)) := by simpa using k1
          rcases hrb : radB v1 z e0 with _ | _
          · refine z_tas
            have eL : loL v1 z e0 3 = loL v1 z e0 2 := by show goL v1 z e0 = _; unfold goL; rw [hrb]; rfl
            have eV : loV v1 z e0 3 = { v1 with told := v1.told + 2 } := by unfold loV; rw [eL]; rfl
            exact c_round (3, s2, A1, c1) ⟨by omega, k2⟩ (by show 3 - 3 < 3 - 2; omega) ⟨rfl, rfl, rfl, rfl, by simp only [eL]; rfl, trivial⟩ (by simp only [eL, eV]; exact Sub.au)
          · refine z_tas
            refine lf rfl rfl rfl (S := K.W s2 b t { v1 with told := v1.told + 2 }) (fun w hw ho => frame_c K s2 b t _ (bb + 3) 2 (v1.high - z) 0 hV (by omega) (by show -2147483648 ≤ _ ∧ _ ≤ 2147483647; omega) (by show -2147483648 ≤ _ ∧ _ ≤ 2147483647; omega) w ho) ?_
            rintro r S' ⟨rfl, rfl⟩
            refine z_tas
            rename_i A2 c2
            have eL : loL v1 z e0 3 = loL v1 z e0 2 ++ [frW { v1 with told := v1.told + 2 } 2 (v1.high - z) 0] := by show goL v1 z e0 = _; unfold goL; rw [hrb]; rfl
            have eV : loV v1 z e0 3 = { v1 with told := v1.told + 2 + 1 } := by unfold loV; rw [eL]; exact congrArg (fun q => ({ v1 with told := q } : Wv)) (by show v1.told + ((3 : Nat) : Int) = _; omega)
            exact c_round (3, s2, A2, c2) ⟨by omega, k2⟩ (by show 3 - 3 < 3 - 2; omega) ⟨rfl, rfl, rfl, rfl, by simp only [eL]; rfl, trivial⟩ (by simp only [eL, eV]; exact Sub.au)
      · obtain rfl : i = 3 := by omega
        refine z_tas
        exact j_out2 rfl rfl rfl (Sub.refl _) ⟨s1, A1, c1, rfl, by simpa using hs1, rfl⟩
  · have e : goF (wY K.ys) (hY K.ys) f v dx dy up ms = (v, [], goC v dx dy up ms) := if_neg hc
    rw [e]
    have k1 := h.mono (show m ≤ m + 4 by omega)
    refine j_nil (e := 83) (size := 6) ?_
    by_cases g1 : (-65536 ≤ dx ∧ dx ≤ 65536) ∧ (-65536 ≤ dy ∧ dy ≤ 65536) ∧ (-65536 ≤ up ∧ up ≤ 65536) ∧ ms ≤ 60000
    · have e9 : goC v dx dy up ms = 9 := by
        unfold goC at hc ⊢
        rw [if_neg (Decidable.not_not.2 g1)] at hc ⊢
        split
        · rfl
        · rename_i g2
          exact absurd (if_neg g2) hc
      have g2 : ¬((-1048576 ≤ v.x + dx ∧ v.x + dx ≤ 1048576) ∧ (-1048576 ≤ v.y + dy ∧ v.y + dy ≤ 1048576) ∧ (-1048576 ≤ v.high + up ∧ v.high + up ≤ 1048576)) := fun g2 => hc (by unfold goC; rw [if_neg (Decidable.not_not.2 g1), if_neg (Decidable.not_not.2 g2)])
      rw [e9]
      refine z_tas
      refine c_dvL [.blk b 156 (worldE K.g v t)] (0 :: 1 :: 2 :: 3 :: 4 :: 5 :: 6 :: 7 :: 8 :: 9 :: 10 :: 11 :: 12 :: 13 :: 14 :: 15 :: 16 :: []) Sub.au ?_
      intro _
      refine z_govG
      all_goals try (refine t_next Sub.au (t_nrm (rest' := [14, 16]) (by decide) ?_); refine z_govG)
      all_goals first
        | exact j_out2 (S' := .row (.slice none 0 0) 83 6 0 [] :: K.W s b t v) rfl rfl rfl Sub.au ⟨s, none, 0, rfl, k1, rfl⟩
        | (exfalso; omega)
    · have e2 : goC v dx dy up ms = 2 := if_pos g1
      rw [e2]
      refine z_tas
      all_goals first
        | exact j_out2 (S' := .row (.slice none 0 0) 83 6 0 [] :: K.W s b t v) rfl rfl rfl Sub.au ⟨s, none, 0, rfl, k1, rfl⟩
        | (exfalso; omega)
end Go.Proofs.Ytpmomimaihjmjaa
