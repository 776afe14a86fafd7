
import Derived.Test.YtpmomimaihjmjaaGreatMG09
set_option linter.unusedVariables false
set_option linter.unusedSimpArgs false
/- Package pyramid: boxes. -/
namespace Go.Proofs.YtpmomimaihjmjaaGreat
open Go.RowKit
structure Bx where
  x0 : Int
  y0 : Int
  x1 : Int
  y1 : Int
abbrev bxE : Bx → List Value := fun b => [.int .i64 b.x0, .int .i64 b.y0, .int .i64 b.x1, .int .i64 b.y1]
def apartB (a b : Bx) : Bool := decide (a.x0 > b.x1 ∨ a.x1 < b.x0 ∨ a.y0 > b.y1 ∨ a.y1 < b.y0)
def inB (a b : Bx) : Bool := decide (a.x0 ≥ b.x0 ∧ a.x1 ≤ b.x1 ∧ a.y0 ≥ b.y0 ∧ a.y1 ≤ b.y1)
attribute [local irreducible] OJ J HdJ Code.wpIn wpListIn Oper.wpIn bodyPost CallsIn Does
set_option maxHeartbeats 4000000 in
theorem apart_any (a b : Bx) (w : World) : Does Tryz.prog 53 [.agg (bxE a).toArray, .agg (bxE b).toArray] [] w (fun v S' => v = .bool (apartB a b) ∧ S' = []) := by
  refine does_of Tryz.func53 rfl Tryz.ntmps53 rfl ⟨by simp, .nil⟩ (fun n => ?_)
  simp only [slots]
  unfold apartB
  refine z_gob
  all_goals (refine z_ro; exact ⟨(congrArg Value.bool (by rw [Bool.eq_iff_iff]; simp only [decide_eq_true_eq, Bool.and_eq_true, Bool.or_eq_true, Bool.not_eq_true, beq_iff_eq, bne_iff_ne, true_iff, iff_true, false_iff, iff_false, Bool.false_eq_true, not_false_eq_true, ne_eq]; omega)), rfl⟩)
set_option maxHeartbeats 4000000 in
theorem inB_any (a b : Bx) (w : World) : Does Tryz.prog 54 [.agg (bxE a).toArray, .agg (bxE b).toArray] [] w (fun v S' => v = .bool (inB a b) ∧ S' = []) := by
  refine does_of Tryz.func54 rfl Tryz.ntmps54 rfl ⟨by simp, .nil⟩ (fun n => ?_)
  simp only [slots]
  unfold inB
  refine z_gob
  all_goals (refine z_ro; exact ⟨(congrArg Value.bool (by rw [Bool.eq_iff_iff]; simp only [decide_eq_true_eq, Bool.and_eq_true, Bool.or_eq_true, Bool.not_eq_true, beq_iff_eq, bne_iff_ne, true_iff, iff_true, false_iff, iff_false, Bool.false_eq_true, not_false_eq_true, ne_eq]; omega)), rfl⟩)
instance apart_cv (a0 a1 a2 a3 b0 b1 b2 b3 : Int) : CV Tryz.prog 53 [.agg #[.int .i64 a0, .int .i64 a1, .int .i64 a2, .int .i64 a3], .agg #[.int .i64 b0, .int .i64 b1, .int .i64 b2, .int .i64 b3]] (.bool (apartB ⟨a0, a1, a2, a3⟩ ⟨b0, b1, b2, b3⟩)) True := ⟨fun _ w => apart_any ⟨a0, a1, a2, a3⟩ ⟨b0, b1, b2, b3⟩ w⟩
instance in_cv (a0 a1 a2 a3 b0 b1 b2 b3 : Int) : CV Tryz.prog 54 [.agg #[.int .i64 a0, .int .i64 a1, .int .i64 a2, .int .i64 a3], .agg #[.int .i64 b0, .int .i64 b1, .int .i64 b2, .int .i64 b3]] (.bool (inB ⟨a0, a1, a2, a3⟩ ⟨b0, b1, b2, b3⟩)) True := ⟨fun _ w => inB_any ⟨a0, a1, a2, a3⟩ ⟨b0, b1, b2, b3⟩ w⟩
/-- What a place of a level stands for. -/
def sqB (wd ht n x y : Nat) : Bx := ⟨(x * 2 ^ n : Nat), (y * 2 ^ n : Nat), min ((x * 2 ^ n + 2 ^ n : Nat) : Int) (wd : Int) - 1, min ((y * 2 ^ n + 2 ^ n : Nat) : Int) (ht : Int) - 1⟩
set_option maxHeartbeats 4000000 in
theorem square_any (p : Nat) (A : Option Addr) (c : Nat) (L : List Lv) (seen : Int) (n x y : Nat) (w : World) (hown : Own [.blk p 68 [.slice A L.length c, .int .i64 seen]] w)
    (hr : RoA w (blocks [.blk p 68 [.slice A L.length c, .int .i64 seen]]) A L.length c 3 (flat lvE L)) (h0 : 0 < L.length) (wd ht : Nat) (hw0 : (L.getD 0 default).w = wd) (hh0 : (L.getD 0 default).h = ht) (hn : n ≤ 16) (hx : x ≤ 70000) (hy : y ≤ 70000) (hwd : wd ≤ 70000 ∧ ht ≤ 70000) :
    Does Tryz.prog 52 [.pointer (some ⟨p, 0, none⟩), .agg #[.int .i64 n, .int .i64 x, .int .i64 y]] [.blk p 68 [.slice A L.length c, .int .i64 seen]] w
      (fun v S' => v = .agg (bxE (sqB wd ht n x y)).toArray ∧ S' = [.blk p 68 [.slice A L.length c, .int .i64 seen]]) := by
  refine does_of Tryz.func52 rfl Tryz.ntmps52 rfl hown (fun N => ?_)
  simp only [slots]
  obtain ⟨bL, oL, rfl, hAtP⟩ := hr.at_ h0
  obtain ⟨sd, hsd⟩ : ∃ sd, sd = 2 ^ n := ⟨_, rfl⟩
  have h2 : sd ≤ 65536 := by rw [hsd]; exact Nat.le_trans (Nat.pow_le_pow_right (by decide) hn) (by decide : 2 ^ 16 ≤ 65536)
  obtain ⟨xs, hxs⟩ : ∃ xs, xs = x * sd := ⟨_, rfl⟩
  obtain ⟨ys, hys⟩ : ∃ ys, ys = y * sd := ⟨_, rfl⟩
  have hxb : xs ≤ 70000 * 65536 := by rw [hxs]; exact Nat.mul_le_mul hx h2
  have hyb : ys ≤ 70000 * 65536 := by rw [hys]; exact Nat.mul_le_mul hy h2
  have hsq : sqB wd ht n x y = ⟨xs, ys, min (xs + sd : Int) wd - 1, min (ys + sd : Int) ht - 1⟩ := by
    unfold sqB
    rw [← hsd, ← hxs, ← hys]
    push_cast
    rfl
  rw [hsq]
  refine z_gob
  have hw1 : (L.getD (Int.toNat 0) default).w = wd := hw0
  have hh1 : (L.getD (Int.toNat 0) default).h = ht := hh0
  have e1 : IntKind.i64.wrap (1 * 2 ^ min ((n : Int)).toNat IntKind.i64.bits) = (sd : Int) := by
    rw [Int.toNat_natCast, Nat.min_eq_left (by simp only [IntKind.bits]; omega), Int.one_mul, show (2 : Int) ^ n = (sd : Int) by rw [hsd]; push_cast; rfl]
    exact wrap_in (k := .i64) (by simp only [InR]; omega)
  rw [e1, hw1, hh1]
  have ex : IntKind.i64.wrap ((x : Int) * (sd : Int)) = (xs : Int) := by rw [← Int.natCast_mul, ← hxs]; exact wrap_in (k := .i64) (by simp only [InR]; omega)
  have ey : IntKind.i64.wrap ((y : Int) * (sd : Int)) = (ys : Int) := by rw [← Int.natCast_mul, ← hys]; exact wrap_in (k := .i64) (by simp only [InR]; omega)
  rw [ex, ey]
  have ex2 : IntKind.i64.wrap ((xs : Int) + (sd : Int)) = (xs + sd : Int) := wrap_in (k := .i64) (by simp only [InR]; omega)
  have ey2 : IntKind.i64.wrap ((ys : Int) + (sd : Int)) = (ys + sd : Int) := wrap_in (k := .i64) (by simp only [InR]; omega)
  rw [ex2, ey2]
  have ex3 : IntKind.i64.wrap (min (xs + sd : Int) (wd : Int) - 1) = min (xs + sd : Int) (wd : Int) - 1 := wrap_in (k := .i64) (by simp only [InR]; omega)
  have ey3 : IntKind.i64.wrap (min (ys + sd : Int) (ht : Int) - 1) = min (ys + sd : Int) (ht : Int) - 1 := wrap_in (k := .i64) (by simp only [InR]; omega)
  rw [ex3, ey3]
  refine j_outK (S' := [.blk p 68 [.slice (some ⟨bL, oL, none⟩) L.length c, .int .i64 seen]]) Sub.au ?_
  refine z_rk
  exact ⟨rfl, rfl⟩
/-- The places of the level below one, for which it stands. -/
def blwN (lw lh x y : Nat) : Nat → List (Nat × Nat)
  | 0 => []
  | i + 1 => blwN lw lh x y i ++ if 2 * x + i % 2 < lw ∧ 2 * y + i / 2 < lh then [(2 * x + i % 2, 2 * y + i / 2)] else []
def plE (n : Int) : Nat × Nat → List Value := fun p => [.int .i64 n, .int .i64 p.1, .int .i64 p.2]
structure Pl3 where
  n : Nat
  x : Nat
  y : Nat
instance : Inhabited Pl3 := ⟨⟨0, 0, 0⟩⟩
abbrev pl3E : Pl3 → List Value := fun p => [.int .i64 p.n, .int .i64 p.x, .int .i64 p.y]
instance : RowE pl3E 3 := ⟨fun _ => rfl, by decide⟩
instance : OneE pl3E := ⟨fun a u hu => by simp [pl3E] at hu; rcases hu with rfl | rfl | rfl <;> rfl⟩
def blw (n lw lh x y : Nat) (i : Nat) : List Pl3 := (blwN lw lh x y i).map fun p => ⟨n, p.1, p.2⟩
end Go.Proofs.YtpmomimaihjmjaaGreat
/- Package pyramid: the cells below one. -/
namespace Go.Proofs.YtpmomimaihjmjaaGreat
open Go.RowKit
theorem blw_succ (n lw lh x y i : Nat) : blw n lw lh x y (i + 1) = if 2 * x + i % 2 < lw ∧ 2 * y + i / 2 < lh then blw n lw lh x y i ++ [⟨n, 2 * x + i % 2, 2 * y + i / 2⟩] else blw n lw lh x y i := by
  unfold blw
  rw [blwN]
  split <;> simp
theorem blw_len (n lw lh x y : Nat) : ∀ i, (blw n lw lh x y i).length ≤ i
  | 0 => Nat.le_refl _
  | i + 1 => by
    rw [blw_succ]
    have := blw_len n lw lh x y i
    split <;> simp <;> omega
instance (n x y : Nat) : UnE pl3E [.int .i64 (n : Int), .int .i64 (x : Int), .int .i64 (y : Int)] ⟨n, x, y⟩ := ⟨rfl⟩
attribute [local irreducible] OJ J HdJ Code.wpIn wpListIn Oper.wpIn bodyPost CallsIn Does
set_option maxRecDepth 4000
set_option maxHeartbeats 16000000 in
theorem below_any (p : Nat) (A : Option Addr) (c : Nat) (L : List Lv) (seen : Int) (n x y : Nat) (w : World) (hown : Own [.blk p 68 [.slice A L.length c, .int .i64 seen]] w)
    (hr : RoA w (blocks [.blk p 68 [.slice A L.length c, .int .i64 seen]]) A L.length c 3 (flat lvE L)) (hn : n < L.length) (lw lh : Nat) (hw0 : (L.getD n default).w = lw) (hh0 : (L.getD n default).h = lh) (hn1 : n ≤ 16) (hx : x ≤ 70000) (hy : y ≤ 70000) :
    Does Tryz.prog 55 [.pointer (some ⟨p, 0, none⟩), .agg #[.int .i64 (n + 1 : Nat), .int .i64 x, .int .i64 y]] [.blk p 68 [.slice A L.length c, .int .i64 seen]] w
      (fun v S' => ∃ A' c', v = .slice A' (blw n lw lh x y 4).length c' ∧ S' = [.blk p 68 [.slice A L.length c, .int .i64 seen], .row (.slice A' (blw n lw lh x y 4).length c') 131 3 (blw n lw lh x y 4).length (flat pl3E (blw n lw lh x y 4))]) := by
  refine does_of Tryz.func55 rfl Tryz.ntmps55 rfl hown (fun N => ?_)
  simp only [slots]
  obtain ⟨bL, oL, rfl, hAtP⟩ := hr.at_ (show 0 < L.length by omega)
  have en1 : ((n + 1 : Nat) : Int) - 1 = (n : Int) := by omega
  have hw1 : (L.getD ((((n + 1 : Nat) : Int) - 1).toNat) default).w = lw := by rw [en1]; exact hw0
  have hh1 : (L.getD ((((n + 1 : Nat) : Int) - 1).toNat) default).h = lh := by rw [en1]; exact hh0
  refine j_nil (e := 131) (size := 3) ?_
  refine z_gob
  rename_i b1
  refine c_loop (X := Nat × Option Addr × Nat) (fun q => q.1 ≤ 4) (fun q => [(0, .pointer (some ⟨p, 0, none⟩)), (3, .pointer (some ⟨b1, 0, none⟩)), (5, .slice q.2.1 (blw n lw lh x y q.1).length q.2.2), (9, .int .i64 q.1)])
    (fun q => [.blk b1 131 [.int .i64 (n + 1 : Nat), .int .i64 x, .int .i64 y],
      .row (.slice q.2.1 (blw n lw lh x y q.1).length q.2.2) 131 3 (blw n lw lh x y q.1).length (flat pl3E (blw n lw lh x y q.1)), .blk p 68 [.slice (some ⟨bL, oL, none⟩) L.length c, .int .i64 seen]]) (fun q => 4 - q.1) (0, none, 0) (by simp) ⟨rfl, rfl, rfl, rfl, trivial⟩ (Sub.refl _) ?_
  rintro ⟨i, A1, c1⟩ hi
  dsimp only at hi ⊢
  have hll := blw_len n lw lh x y i
  refine z_gob
  · have hi4 : i < 4 := by omega
    have eb : blw n lw lh x y (i + 1) = blw n lw lh x y i ++ [⟨n, 2 * x + i % 2, 2 * y + i / 2⟩] := by rw [blw_succ, if_pos (by omega)]
    have ex : 2 * (x : Int) + (i : Int) % 2 = ((2 * x + i % 2 : Nat) : Int) := by omega
    have ey : 2 * (y : Int) + (i : Int) / 2 = ((2 * y + i / 2 : Nat) : Int) := by omega
    rw [en1, ex, ey]
    generalize blw n lw lh x y i = l0 at *
    generalize 2 * x + i % 2 = xx at *
    generalize 2 * y + i / 2 = yy at *
    refine z_gob
    rename_i A2 c2
    refine c_round (i + 1, A2, c2) (by show i + 1 ≤ 4; omega) (by show 4 - (i + 1) < 4 - i; omega) ⟨rfl, rfl, by rw [eb]; rfl, by simp [look], trivial⟩ (by rw [eb]; exact Sub.au)
  · have eb : blw n lw lh x y (i + 1) = blw n lw lh x y i := by rw [blw_succ, if_neg (by omega)]
    refine c_round (i + 1, A1, c1) (by show i + 1 ≤ 4; omega) (by show 4 - (i + 1) < 4 - i; omega) ⟨rfl, rfl, by rw [eb]; rfl, by simp [look], trivial⟩ (by rw [eb]; exact Sub.au)
  · have eb : blw n lw lh x y (i + 1) = blw n lw lh x y i := by rw [blw_succ, if_neg (by omega)]
    refine c_round (i + 1, A1, c1) (by show i + 1 ≤ 4; omega) (by show 4 - (i + 1) < 4 - i; omega) ⟨rfl, rfl, by rw [eb]; rfl, by simp [look], trivial⟩ (by rw [eb]; exact Sub.au)
  · obtain rfl : i = 4 := by omega
    refine j_outK (S' := [.blk p 68 [.slice (some ⟨bL, oL, none⟩) L.length c, .int .i64 seen], .row (.slice A1 (blw n lw lh x y 4).length c1) 131 3 (blw n lw lh x y 4).length (flat pl3E (blw n lw lh x y 4))]) Sub.au ?_
    refine z_rk
    exact ⟨A1, c1, rfl, rfl⟩
end Go.Proofs.YtpmomimaihjmjaaGreat
/- Package pyramid: New. -/
namespace Go.Proofs.YtpmomimaihjmjaaGreat
open Go.RowKit
def cellOf (v : Int) : Cel := if v = -32768 then ⟨0, 0, 0⟩ else ⟨v, v, 1⟩
def cellsN (z : List Int) : Nat → List Cel
  | 0 => []
  | i + 1 => cellsN z i ++ [cellOf (z.getD i 0)]
theorem cellsN_len (z : List Int) : ∀ i, (cellsN z i).length = i
  | 0 => rfl
  | i + 1 => by rw [cellsN, List.length_append, cellsN_len z i]; rfl
theorem cellsN_bnd (z : List Int) : ∀ i, ∀ c ∈ cellsN z i, 0 ≤ c.n ∧ c.n ≤ 1
  | 0, c, h => by simp [cellsN] at h
  | i + 1, c, h => by
    rw [cellsN, List.mem_append] at h
    rcases h with h | h
    · exact cellsN_bnd z i c h
    · have : c = cellOf (z.getD i 0) := by simpa using h
      rw [this]
      unfold cellOf
      split <;> simp
/-- Levels, the last one first. -/
inductive Stack (w h : Nat) (cs : List Cel) : List Lv → Prop
  | one (l : Lv) (e : l.w = w ∧ l.h = h ∧ l.cs = cs) : Stack w h cs [l]
  | up (t l : Lv) (r : List Lv) (hs : Stack w h cs (l :: r)) (hb : 1 < l.w ∨ 1 < l.h) (e : t.w = hf l.w ∧ t.h = hf l.h ∧ t.cs = hAll l.w l.h l.cs (hf l.h)) : Stack w h cs (t :: l :: r)
def rowsR (l : List Lv) : List HE := l.map fun l => .row (.slice l.A l.cs.length l.c) 65 3 l.cs.length (flat celE l.cs)
theorem jTo_bndM {l : List Cel} {M : Int} (h : ∀ c ∈ l, 0 ≤ c.n ∧ c.n ≤ M) : ∀ k, k ≤ l.length → 0 ≤ (jTo l k).n ∧ (jTo l k).n ≤ M * (k : Int)
  | 0, _ => by simp [jTo]
  | k + 1, hk => by
    have h1 := jTo_bndM h k (by omega)
    have h2 := h (l.getD k default) (by rw [List.getD_eq_getElem?_getD, List.getElem?_eq_getElem (by omega)]; exact List.getElem_mem _)
    have e : M * ((k + 1 : Nat) : Int) = M * (k : Int) + M := by rw [Int.natCast_add, Int.mul_add]; simp
    rw [e]
    simp only [jTo, joinC]
    generalize M * (k : Int) = u at *
    split
    · omega
    split
    · omega
    · simp only; omega
theorem atL_bnd {w h : Int} {cs : List Cel} {M : Int} (h0 : 0 ≤ M) (hok : ∀ c ∈ cs, 0 ≤ c.n ∧ c.n ≤ M) (x y : Int) : 0 ≤ (atP w h cs x y).n ∧ (atP w h cs x y).n ≤ M := by
  unfold atP
  split
  · rw [List.getD_eq_getElem?_getD]
    cases hq : cs[(y * w + x).toNat]? with
    | none => exact ⟨by decide, h0⟩
    | some c => simpa using hok c (List.mem_of_getElem? hq)
  · exact ⟨Int.le_refl 0, h0⟩
theorem hAll_mem (w h : Nat) (cs : List Cel) : ∀ y, ∀ c ∈ hAll w h cs y, ∃ x y', c = hAtP w h cs x y'
  | 0, c, hc => by simp [hAll] at hc
  | y + 1, c, hc => by
    rw [hAll, List.mem_append] at hc
    rcases hc with hc | hc
    · exact hAll_mem w h cs y c hc
    · have : ∀ k, c ∈ hRow w h cs y k → ∃ x, c = hAtP w h cs x y := by
        intro k
        induction k with
        | zero => intro h; simp [hRow] at h
        | succ k ih =>
          intro h
          rw [hRow, List.mem_append] at h
          rcases h with h | h
          · exact ih h
          · exact ⟨k, by simpa using h⟩
      obtain ⟨x, hx⟩ := this _ hc
      exact ⟨x, y, hx⟩
theorem hAll_bnd {w h : Nat} {cs : List Cel} {M : Int} (h0 : 0 ≤ M) (hok : ∀ c ∈ cs, 0 ≤ c.n ∧ c.n ≤ M) (y : Nat) : ∀ c ∈ hAll w h cs y, 0 ≤ c.n ∧ c.n ≤ M * 4 := by
  intro c hc
  obtain ⟨x, y', rfl⟩ := hAll_mem w h cs y c hc
  unfold hAtP
  refine jTo_bndM (fun c hc => ?_) 4 (by simp)
  simp only [List.mem_cons, List.not_mem_nil, or_false] at hc
  rcases hc with rfl | rfl | rfl | rfl <;> exact atL_bnd h0 hok _ _
structure PyrR (W H : Nat) (cs : List Cel) (t : Lv) (r : List Lv) (e : Nat) : Prop where
  st : Stack W H cs (t :: r)
  ee : e + r.length = 8
  w1 : 1 ≤ t.w ∧ t.w ≤ 2 ^ e
  h1 : 1 ≤ t.h ∧ t.h ≤ 2 ^ e
  len : t.cs.length = t.w * t.h
  bnd : ∀ c ∈ t.cs, 0 ≤ c.n ∧ c.n ≤ 4 ^ r.length
theorem PyrR.small {W H : Nat} {cs : List Cel} {t : Lv} {r : List Lv} {e : Nat} (h : PyrR W H cs t r e) : r.length ≤ 8 ∧ t.w ≤ 256 ∧ t.h ≤ 256 ∧ ∀ c ∈ t.cs, CelOk c := by
  have he := h.ee
  have h2 : 2 ^ e ≤ 2 ^ 8 := Nat.pow_le_pow_right (by decide) (by omega)
  have h4 : (4 : Nat) ^ r.length ≤ 65536 := Nat.le_trans (Nat.pow_le_pow_right (by decide) (by omega : r.length ≤ 8)) (by decide)
  have h4' : (4 : Int) ^ r.length ≤ 65536 := by
    have e4 : (4 : Int) ^ r.length = ((4 ^ r.length : Nat) : Int) := (Int.natCast_pow 4 r.length).symm
    rw [e4]
    exact Int.ofNat_le.2 h4
  refine ⟨by omega, by have := h.w1; omega, by have := h.h1; omega, fun c hc => ?_⟩
  have := h.bnd c hc
  unfold CelOk
  omega
theorem PyrR.next {W H : Nat} {cs : List Cel} {t : Lv} {r : List Lv} {e : Nat} (h : PyrR W H cs t r e) (hb : 1 < t.w ∨ 1 < t.h) (A : Option Addr) (c : Nat) : ∃ e', PyrR W H cs ⟨hf t.w, hf t.h, A, c, hAll t.w t.h t.cs (hf t.h)⟩ (t :: r) e' ∧ hf t.w + hf t.h < t.w + t.h := by
  obtain ⟨e', rfl⟩ : ∃ e', e = e' + 1 := by
    cases e with
    | zero => have := h.w1; have := h.h1; simp at *; omega
    | succ e => exact ⟨e, rfl⟩
  have hw := h.w1
  have hh := h.h1
  rw [Nat.pow_succ] at hw hh
  refine ⟨e', ⟨.up _ _ _ h.st hb ⟨rfl, rfl, rfl⟩, by have := h.ee; simp at *; omega, ?_, ?_, ?_, ?_⟩, ?_⟩
  · simp only [hf]; omega
  · simp only [hf]; omega
  · simp only; rw [hAll_len, Nat.mul_comm]
  · intro c hc
    have := hAll_bnd (M := 4 ^ r.length) (Int.le_of_lt (Int.pow_pos (by decide))) h.bnd _ c hc
    simpa [Int.pow_succ] using this
  · simp only [hf]; omega
instance (w h : Nat) (A : Option Addr) (c : Nat) (cs : List Cel) : UnE lvE [.int .i64 (w : Int), .int .i64 (h : Int), .slice A cs.length c] ⟨w, h, A, c, cs⟩ := ⟨rfl⟩
instance chk_cv (W H : Int) (A : Option Addr) (c : Nat) (z : List Int) : CV Tryz.prog 18 [.agg #[.int .i64 W, .int .i64 H, .slice A z.length c]] (.int .i64 (chkF W H z)) True := ⟨fun _ w => chk_any W H A c z w⟩
attribute [local irreducible] OJ J HdJ Code.wpIn wpListIn Oper.wpIn bodyPost CallsIn Does
set_option maxRecDepth 4000
set_option maxHeartbeats 16000000 in
theorem new_any (W H : Nat) (A : Option Addr) (c : Nat) (z : List Int) (w : World) (hr : RoA w (blocks []) A z.length c 1 (ints .i16 z)) (hz : ∀ v ∈ z, InR .i16 v) (hok : chkF W H z = 0) :
    Does Tryz.prog 6 [.agg #[.int .i64 W, .int .i64 H, .slice A z.length c]] [] w (fun v S' => ∃ p AL cL t r, Stack W H (cellsN z z.length) (t :: r) ∧ t.w ≤ 1 ∧ t.h ≤ 1 ∧ v = .tuple #[.pointer (some ⟨p, 0, none⟩), .int .i64 0] ∧
      S' = .blk p 68 [.slice AL (t :: r).reverse.length cL, .int .i64 0] :: .row (.slice AL (t :: r).reverse.length cL) 63 3 (t :: r).reverse.length (flat lvE (t :: r).reverse) :: rowsR (t :: r)) := by
  have hWH : 2 ≤ W ∧ W ≤ 256 ∧ 2 ≤ H ∧ H ≤ 256 ∧ (z.length : Int) = W * H := by
    unfold chkF at hok
    split at hok
    · cases hok
    split at hok
    · rename_i h1 h2; exact ⟨by omega, by omega, by omega, by omega, h2⟩
    · cases hok
  have hzl : z.length ≤ 65536 := by
    have := Nat.mul_le_mul hWH.2.1 hWH.2.2.2.1
    have e : z.length = W * H := by have := hWH.2.2.2.2; rw [← Int.natCast_mul] at this; omega
    omega
  refine does_of Tryz.func6 rfl Tryz.ntmps6 rfl ⟨by simp, .nil⟩ (fun n => ?_)
  simp only [slots]
  refine j_nil (e := 65) (size := 3) ?_
  refine z_gob
  rename_i b1 b5
  refine c_loop (X := Nat × Option Addr × Nat) (fun q => q.1 ≤ z.length) (fun q => [(5, .pointer (some ⟨b5, 0, none⟩)), (22, .slice A z.length c), (23, .int .i64 z.length), (24, .int .i64 q.1), (2, .pointer none), (3, .int .i64 0)])
    (fun q => [.blk b5 63 [.int .i64 W, .int .i64 H, .slice q.2.1 (cellsN z q.1).length q.2.2], .row (.slice q.2.1 (cellsN z q.1).length q.2.2) 65 3 (cellsN z q.1).length (flat celE (cellsN z q.1))]) (fun q => z.length - q.1) (0, none, 0) (by simp) ⟨rfl, rfl, rfl, rfl, rfl, rfl, trivial⟩ (by exact (Sub.cons (Has.here _ _) (Sub.cons (Has.there _ (Has.here _ _)) (Sub.nil _)))) ?_
  rintro ⟨i, A1, c1⟩ hi
  dsimp only at hi ⊢
  have hl1 := cellsN_len z i
  have ec : cellsN z (i + 1) = cellsN z i ++ [cellOf (z.getD i 0)] := rfl
  refine z_gob
  · rename_i A2 c2
    have ec2 : cellOf (z.getD i 0) = ⟨z.getD i 0, z.getD i 0, 1⟩ := if_neg (by omega)
    refine c_round (i + 1, A2, c2) (by show i + 1 ≤ _; omega) (by show _ - (i + 1) < _ - i; omega) ⟨rfl, rfl, rfl, by simp [look], rfl, rfl, trivial⟩ (by dsimp only; rw [ec, ec2]; exact Sub.au)
  · rename_i A2 c2
    have ec2 : cellOf (z.getD i 0) = ⟨0, 0, 0⟩ := if_pos (by omega)
    refine c_round (i + 1, A2, c2) (by show i + 1 ≤ _; omega) (by show _ - (i + 1) < _ - i; omega) ⟨rfl, rfl, rfl, by simp [look], rfl, rfl, trivial⟩ (by dsimp only; rw [ec, ec2]; exact Sub.au)
  obtain rfl : i = z.length := by omega
  rename_i b7 b8 b9 _
  refine c_loop (X := Lv × List Lv × Nat × Nat × Option Addr × Nat) (fun q => PyrR W H (cellsN z z.length) q.1 q.2.1 q.2.2.1) (fun q => [(9, .pointer (some ⟨b8, 0, none⟩)), (10, .pointer (some ⟨q.2.2.2.1, 0, none⟩)), (2, .pointer none), (3, .int .i64 0)])
    (fun q => .blk q.2.2.2.1 63 (lvE q.1) :: .blk b8 68 [.slice q.2.2.2.2.1 (q.1 :: q.2.1).reverse.length q.2.2.2.2.2, .int .i64 0] :: .row (.slice q.2.2.2.2.1 (q.1 :: q.2.1).reverse.length q.2.2.2.2.2) 63 3 (q.1 :: q.2.1).reverse.length (flat lvE (q.1 :: q.2.1).reverse) ::
      .row (.slice q.1.A q.1.cs.length q.1.c) 65 3 q.1.cs.length (flat celE q.1.cs) :: rowsR q.2.1)
    (fun q => q.1.w + q.1.h) (⟨W, H, A1, c1, cellsN z z.length⟩, [], 8, b9, some ⟨b7, 0, none⟩, 1) ?_ ⟨rfl, rfl, rfl, rfl, trivial⟩ (by exact (Sub.cons (Has.here _ _) (Sub.cons (Has.here _ _) (Sub.cons (Has.here _ _) (Sub.cons (Has.there _ (Has.here _ _)) (Sub.nil _)))))) ?_
  · have e1 : z.length = W * H := by have := hWH.2.2.2.2; rw [← Int.natCast_mul] at this; omega
    exact ⟨.one _ ⟨rfl, rfl, rfl⟩, rfl, ⟨by show 1 ≤ W; omega, by show W ≤ 256; omega⟩, ⟨by show 1 ≤ H; omega, by show H ≤ 256; omega⟩, by show (cellsN z z.length).length = W * H; rw [cellsN_len, e1], fun c hc => cellsN_bnd z _ c hc⟩
  rintro ⟨t, r, e, bt, AL, cL⟩ hR
  dsimp only at hR ⊢
  obtain ⟨g1, g2, g3, g4⟩ := hR.small
  have hw1 := hR.w1
  have hh1 := hR.h1
  have hrl : (t :: r).reverse.length ≤ 100 := by rw [List.length_reverse, List.length_cons]; omega
  refine z_gob
  · have hb : 1 < t.w ∨ 1 < t.h := .inl (by omega)
    refine lf rfl rfl rfl (S := []) (fun w hw ho => halved_any t.w t.h t.A t.c t.cs w ⟨Ro.row hw (Split.nil _) (by refine z_hasf)⟩ hR.len ⟨g2, g3⟩ g4) ?_
    rintro v S' ⟨A2, c2, rfl, rfl⟩
    obtain ⟨e', hR2, hlt⟩ := hR.next hb A2 c2
    repeat' (first | (refine z_ta) | fail)
    generalize hq : hAll t.w t.h t.cs (hf t.h) = nc at *
    have er : (⟨hf t.w, hf t.h, A2, c2, nc⟩ :: t :: r : List Lv).reverse = (t :: r).reverse ++ [⟨hf t.w, hf t.h, A2, c2, nc⟩] := List.reverse_cons ..
    generalize (t :: r).reverse = lr at *
    refine c_drx [.blk bt 63 [.int .i64 (hf t.w : Nat), .int .i64 (hf t.h : Nat), .slice A2 nc.length c2]] [true, true, true, true, false, true, false, false, true, true, false] [4, 6, 7, 10] Sub.au rfl (by decide) (by decide +kernel) ?_
    refine z_gob
    all_goals
      rename_i b11 AL2 cL2 b10
      refine c_round (⟨hf t.w, hf t.h, A2, c2, nc⟩, t :: r, e', b10, AL2, cL2) hR2 hlt ⟨rfl, rfl, rfl, rfl, trivial⟩ ?_
      dsimp only
      rw [er]
      exact .cons (.here _ _) (.cons (.there _ (.there _ (.there _ (.here _ _)))) (.cons (.there _ (.there _ (.there _ (.here _ _)))) (.cons (.there _ (.here _ _)) (Sub.skip (Sub.skip (Sub.refl _) _) _))))
  · have hb : 1 < t.w ∨ 1 < t.h := .inr (by omega)
    refine lf rfl rfl rfl (S := []) (fun w hw ho => halved_any t.w t.h t.A t.c t.cs w ⟨Ro.row hw (Split.nil _) (by refine z_hasf)⟩ hR.len ⟨g2, g3⟩ g4) ?_
    rintro v S' ⟨A2, c2, rfl, rfl⟩
    obtain ⟨e', hR2, hlt⟩ := hR.next hb A2 c2
    repeat' (first | (refine z_ta) | fail)
    generalize hq : hAll t.w t.h t.cs (hf t.h) = nc at *
    have er : (⟨hf t.w, hf t.h, A2, c2, nc⟩ :: t :: r : List Lv).reverse = (t :: r).reverse ++ [⟨hf t.w, hf t.h, A2, c2, nc⟩] := List.reverse_cons ..
    generalize (t :: r).reverse = lr at *
    refine c_drx [.blk bt 63 [.int .i64 (hf t.w : Nat), .int .i64 (hf t.h : Nat), .slice A2 nc.length c2]] [true, true, true, true, false, true, false, false, true, true, false] [4, 6, 7, 10] Sub.au rfl (by decide) (by decide +kernel) ?_
    refine z_gob
    all_goals
      rename_i b11 AL2 cL2 b10
      refine c_round (⟨hf t.w, hf t.h, A2, c2, nc⟩, t :: r, e', b10, AL2, cL2) hR2 hlt ⟨rfl, rfl, rfl, rfl, trivial⟩ ?_
      dsimp only
      rw [er]
      exact .cons (.here _ _) (.cons (.there _ (.there _ (.there _ (.here _ _)))) (.cons (.there _ (.there _ (.there _ (.here _ _)))) (.cons (.there _ (.here _ _)) (Sub.skip (Sub.skip (Sub.refl _) _) _))))
  · refine j_outK (S' := .blk b8 68 [.slice AL (t :: r).reverse.length cL, .int .i64 0] :: .row (.slice AL (t :: r).reverse.length cL) 63 3 (t :: r).reverse.length (flat lvE (t :: r).reverse) :: rowsR (t :: r)) (Sub.skip (Sub.refl _) _) ?_
    refine z_rk
    exact ⟨b8, AL, cL, t, r, hR.st, by omega, by omega, rfl, rfl⟩
end Go.Proofs.YtpmomimaihjmjaaGreat
/- Package pyramid: what cells are together; a row of one's own made shorter; a new base for what is only read. -/
namespace Go.Proofs.YtpmomimaihjmjaaGreat
open Go.RowKit
def Prp (c : Cel) : Prop := 0 ≤ c.n ∧ (c.n = 0 → c = ⟨0, 0, 0⟩)
theorem prp_zero : Prp ⟨0, 0, 0⟩ := ⟨by simp, fun _ => rfl⟩
theorem prp_cell (v : Int) : Prp (cellOf v) := by unfold cellOf; split <;> simp [Prp]
theorem prp_join {a b : Cel} (ha : Prp a) (hb : Prp b) : Prp (joinC a b) := by
  unfold joinC
  obtain ⟨ha1, ha2⟩ := ha
  obtain ⟨hb1, hb2⟩ := hb
  split
  · exact ⟨ha1, ha2⟩
  split
  · exact ⟨hb1, hb2⟩
  · exact ⟨by simp only; omega, fun h => by simp only at h; omega⟩
theorem join_zero {a : Cel} (_ : Prp a) : joinC a ⟨0, 0, 0⟩ = a := by unfold joinC; simp
theorem zero_join {a : Cel} (ha : Prp a) : joinC ⟨0, 0, 0⟩ a = a := by
  unfold joinC
  split
  · rw [ha.2 (by have := ha.1; omega)]
  · rfl
theorem join_comm {a b : Cel} (ha : Prp a) (hb : Prp b) : joinC a b = joinC b a := by
  obtain ⟨ha1, ha2⟩ := ha
  obtain ⟨hb1, hb2⟩ := hb
  unfold joinC
  by_cases h1 : b.n < 1
  · have e1 := hb2 (by omega)
    subst e1
    by_cases h2 : a.n < 1
    · have e2 := ha2 (by omega)
      subst e2; rfl
    · simp [h2]
  · by_cases h2 : a.n < 1
    · have e2 := ha2 (by omega)
      subst e2
      simp [h1]
    · rw [if_neg h1, if_neg (by omega), if_neg h2, if_neg (by omega), Int.min_comm, Int.max_comm, Int.add_comm]
theorem join_assoc {a b c : Cel} (ha : Prp a) (hb : Prp b) (hc : Prp c) : joinC (joinC a b) c = joinC a (joinC b c) := by
  by_cases h3 : c.n = 0
  · rw [hc.2 h3, join_zero (prp_join ha hb), join_zero hb]
  by_cases h2 : b.n = 0
  · rw [hb.2 h2, join_zero ha, zero_join hc]
  by_cases h1 : a.n = 0
  · rw [ha.2 h1, zero_join hb, zero_join (prp_join hb hc)]
  have e1 : joinC a b = ⟨min a.lo b.lo, max a.hi b.hi, a.n + b.n⟩ := by unfold joinC; rw [if_neg (by have := hb.1; omega), if_neg h1]
  have e2 : joinC b c = ⟨min b.lo c.lo, max b.hi c.hi, b.n + c.n⟩ := by unfold joinC; rw [if_neg (by have := hc.1; omega), if_neg h2]
  rw [e1, e2]
  unfold joinC
  have := ha.1
  have := hb.1
  have := hc.1
  simp only
  rw [if_neg (by omega), if_neg (by omega), if_neg (by omega), if_neg (by omega), Int.min_assoc, Int.max_assoc, Int.add_assoc]
/-- Some cells together. -/
def agg {α : Type} (b : α → Cel) : List α → Cel
  | [] => ⟨0, 0, 0⟩
  | x :: r => joinC (b x) (agg b r)
section
variable {α : Type} {b : α → Cel} (hb : ∀ x, Prp (b x))
include hb
theorem agg_prp : ∀ l : List α, Prp (agg b l)
  | [] => prp_zero
  | x :: r => prp_join (hb x) (agg_prp r)
theorem agg_app : ∀ l r : List α, agg b (l ++ r) = joinC (agg b l) (agg b r)
  | [], r => (zero_join (agg_prp hb r)).symm
  | x :: l, r => by
    show joinC (b x) (agg b (l ++ r)) = joinC (joinC (b x) (agg b l)) (agg b r)
    rw [agg_app l r, join_assoc (hb x) (agg_prp hb l) (agg_prp hb r)]
theorem agg_perm {l r : List α} (h : l.Perm r) : agg b l = agg b r := by
  induction h with
  | nil => rfl
  | cons x _ ih => simp only [agg, ih]
  | swap x y l =>
    simp only [agg]
    rw [← join_assoc (hb y) (hb x) (agg_prp hb l), ← join_assoc (hb x) (hb y) (agg_prp hb l), join_comm (hb y) (hb x)]
  | trans _ _ h1 h2 => exact h1.trans h2
end
theorem subA_zero (b c s : Nat) : subA (some ⟨b, 0, none⟩) 0 c s = some ⟨b, 0, none⟩ := by
  unfold subA
  split
  · rfl
  · simp [Addr.add]
section
variable {N : Nat} {ds : List Deferred} {w0 : World} {W : Nat → Prop} {σ : List (Nat × Value)} {H R : List HE} {q : Act → World → Prop}
/-- A row's room. -/
theorem j_cap {A : Option Addr} {m c e s : Nat} {xs : List Value} (hh : Has H (.row (.slice A m c) e s m xs) R) (h : m ≤ c ∧ c ≤ maxLen → J N ds w0 W σ H q) : J N ds w0 W σ H q := by
  intro a w ha hw
  have h1 : w.ownsRow 0 e s (.slice A m c) m xs := hw.own.holds _ (hh.perm.mem_iff.2 (List.mem_cons_self ..))
  refine h ?_ a w ha hw
  obtain ⟨hx, hr⟩ := h1
  rcases hr with ⟨he, hm⟩ | ⟨g, cap, cur, he, e1, e2, e3, e4, e5, e6⟩
  · injection he with f1 f2 f3
    subst f3; exact ⟨by omega, Nat.zero_le _⟩
  · injection he with f1 f2 f3
    subst f3; exact ⟨e3, e4⟩
/-- A row of one's own, made shorter. -/
theorem j_trunc {A : Option Addr} {m c e s : Nat} {xs : List Value} (k : Nat) (hh : Has H (.row (.slice A m c) e s m xs) R) (hk : k ≤ m) (h0 : 0 < m) (h : J N ds w0 W σ (.row (.slice A k c) e s k (xs.take (k * s)) :: R) q) : J N ds w0 W σ H q := by
  intro a w ha hw
  have h1 : w.ownsRow 0 e s (.slice A m c) m xs := hw.own.holds _ (hh.perm.mem_iff.2 (List.mem_cons_self ..))
  have h2 : w.ownsRow 0 e s (.slice A k c) k (xs.take (k * s)) := by
    obtain ⟨hx, hr⟩ := h1
    have hks : k * s ≤ m * s := Nat.mul_le_mul_right s hk
    refine ⟨by rw [List.length_take, hx, Nat.min_eq_left hks], ?_⟩
    rcases hr with ⟨he, hm⟩ | ⟨g, cap, cur, he, e1, e2, e3, e4, e5, e6⟩
    · omega
    · injection he with f1 f2 f3
      subst f1 f3
      refine .inr ⟨g, _, cur, rfl, e1, e2, by omega, e4, e5, ?_⟩
      rw [← e6, List.take_take, Nat.min_eq_left hks]
  refine h a w ha (hw.turn hh (y := .row (.slice A k c) e s k (xs.take (k * s))) h2 rfl rfl rfl (Nat.le_refl _) (fun _ _ _ => rfl) (.inl ?_))
  cases A <;> rfl
end
end Go.Proofs.YtpmomimaihjmjaaGreat
/- Package pyramid, the plain law: a cell of a level is what all heights below it are together. -/
namespace Go.Proofs.YtpmomimaihjmjaaGreat
open Go.RowKit
/-- All columns and rows below a place. -/
def sqL : Nat → Nat → Nat → List (Nat × Nat)
  | 0, x, y => [(x, y)]
  | n + 1, x, y => sqL n (2 * x) (2 * y) ++ (sqL n (2 * x + 1) (2 * y) ++ (sqL n (2 * x) (2 * y + 1) ++ sqL n (2 * x + 1) (2 * y + 1)))
theorem sqL_mem : ∀ (n x y : Nat) (p : Nat × Nat), p ∈ sqL n x y → x * 2 ^ n ≤ p.1 ∧ p.1 < x * 2 ^ n + 2 ^ n ∧ y * 2 ^ n ≤ p.2 ∧ p.2 < y * 2 ^ n + 2 ^ n
  | 0, x, y, p, h => by
    have : p = (x, y) := by simpa [sqL] using h
    subst this
    simp
  | n + 1, x, y, p, h => by
    simp only [sqL, List.mem_append] at h
    have e1 : 2 ^ (n + 1) = 2 ^ n + 2 ^ n := by rw [Nat.pow_succ]; omega
    have e2 : ∀ z, z * 2 ^ (n + 1) = 2 * z * 2 ^ n := fun z => by rw [Nat.pow_succ, Nat.mul_comm 2 z, Nat.mul_assoc z 2, Nat.mul_comm 2]
    have e3 : ∀ z, (2 * z + 1) * 2 ^ n = 2 * z * 2 ^ n + 2 ^ n := fun z => by rw [Nat.add_mul, Nat.one_mul]
    rw [e2, e2, e1]
    rcases h with h | h | h | h
    · have := sqL_mem n _ _ p h; omega
    · have := sqL_mem n _ _ p h; rw [e3] at this; omega
    · have := sqL_mem n _ _ p h; rw [e3] at this; omega
    · have := sqL_mem n _ _ p h; rw [e3, e3] at this; omega
theorem hRow_get (w h : Nat) (cs : List Cel) (y : Nat) : ∀ (m x : Nat), x < m → (hRow w h cs y m)[x]? = some (hAtP w h cs x y)
  | 0, x, hx => by omega
  | m + 1, x, hx => by
    rw [hRow]
    by_cases h1 : x < m
    · rw [List.getElem?_append_left (by rw [hRow_len]; exact h1)]
      exact hRow_get w h cs y m x h1
    · obtain rfl : x = m := by omega
      rw [List.getElem?_append_right (by rw [hRow_len]; omega), hRow_len, Nat.sub_self]
      rfl
theorem hAll_get (w h : Nat) (cs : List Cel) (x : Nat) (hx : x < hf w) : ∀ (m y : Nat), y < m → (hAll w h cs m)[y * hf w + x]? = some (hAtP w h cs x y)
  | 0, y, hy => by omega
  | m + 1, y, hy => by
    rw [hAll]
    by_cases h1 : y < m
    · have := Nat.mul_le_mul_right (hf w) (show y + 1 ≤ m from h1)
      rw [Nat.add_mul, Nat.one_mul] at this
      rw [List.getElem?_append_left (by rw [hAll_len]; omega)]
      exact hAll_get w h cs x hx m y h1
    · obtain rfl : y = m := by omega
      rw [List.getElem?_append_right (by rw [hAll_len]; omega), hAll_len, Nat.add_sub_cancel_left]
      exact hRow_get w h cs y (hf w) x hx
theorem atL_prp {w h : Int} {cs : List Cel} (hok : ∀ c ∈ cs, Prp c) (x y : Int) : Prp (atP w h cs x y) := by
  unfold atP
  split
  · rw [List.getD_eq_getElem?_getD]
    cases hq : cs[(y * w + x).toNat]? with
    | none => exact ⟨by decide, fun _ => rfl⟩
    | some c => simpa using hok c (List.mem_of_getElem? hq)
  · exact prp_zero
theorem atL_out {w h : Nat} {cs : List Cel} {x y : Nat} (ho : w ≤ x ∨ h ≤ y) : atP w h cs x y = ⟨0, 0, 0⟩ := by
  unfold atP
  rw [if_neg (by omega)]
/-- The level above, cell by cell. -/
theorem atL_up {w h : Nat} {cs : List Cel} (hok : ∀ c ∈ cs, Prp c) (x y : Nat) :
    atP (hf w : Nat) (hf h : Nat) (hAll w h cs (hf h)) x y = joinC (atP w h cs (2 * x : Nat) (2 * y : Nat)) (joinC (atP w h cs (2 * x + 1 : Nat) (2 * y : Nat)) (joinC (atP w h cs (2 * x : Nat) (2 * y + 1 : Nat)) (atP w h cs (2 * x + 1 : Nat) (2 * y + 1 : Nat)))) := by
  have hp := fun a b => atL_prp (w := w) (h := h) hok a b
  by_cases hin : x < hf w ∧ y < hf h
  · have e1 : atP (hf w : Nat) (hf h : Nat) (hAll w h cs (hf h)) x y = hAtP w h cs x y := by
      unfold atP
      rw [if_pos (by omega), List.getD_eq_getElem?_getD, show ((y : Int) * (hf w : Nat) + (x : Int)).toNat = y * hf w + x by rw [← Int.natCast_mul, ← Int.natCast_add, Int.toNat_natCast], hAll_get w h cs x hin.1 (hf h) y hin.2]
      rfl
    rw [e1]
    unfold hAtP
    simp only [jTo, List.getD, List.getElem?_cons_zero, List.getElem?_cons_succ, Option.getD_some]
    rw [zero_join (hp _ _), join_assoc (prp_join (hp _ _) (hp _ _)) (hp _ _) (hp _ _), join_assoc (hp _ _) (hp _ _) (prp_join (hp _ _) (hp _ _))]
    push_cast
    rfl
  · have ho : w ≤ 2 * x ∨ h ≤ 2 * y := by simp only [hf] at hin; omega
    rw [atL_out (by omega), atL_out ho, atL_out (by omega), atL_out (by omega), atL_out (by omega)]
    rfl
theorem hAll_prp {w h : Nat} {cs : List Cel} (hok : ∀ c ∈ cs, Prp c) (y : Nat) : ∀ c ∈ hAll w h cs y, Prp c := by
  intro c hc
  obtain ⟨x, y', rfl⟩ := hAll_mem w h cs y c hc
  unfold hAtP
  simp only [jTo, List.getD, List.getElem?_cons_zero, List.getElem?_cons_succ, Option.getD_some]
  exact prp_join (prp_join (prp_join (prp_join prp_zero (atL_prp hok _ _)) (atL_prp hok _ _)) (atL_prp hok _ _)) (atL_prp hok _ _)
/-- A cell of the field, by its place. -/
def bcF (w h : Nat) (cs : List Cel) (p : Nat × Nat) : Cel := atP w h cs p.1 p.2
theorem bcF_prp {w h : Nat} {cs : List Cel} (hok : ∀ c ∈ cs, Prp c) (p : Nat × Nat) : Prp (bcF w h cs p) := atL_prp hok _ _
theorem stack_top {w h : Nat} {cs : List Cel} (hok : ∀ c ∈ cs, Prp c) {st : List Lv} (hs : Stack w h cs st) : ∀ t r, st = t :: r → (∀ c ∈ t.cs, Prp c) ∧ ∀ x y : Nat, atP t.w t.h t.cs x y = agg (bcF w h cs) (sqL r.length x y) := by
  induction hs with
  | one l e =>
    intro t r he
    injection he with e1 e2
    subst e1 e2
    obtain ⟨a, b, c⟩ := e
    rw [a, b, c]
    exact ⟨hok, fun x y => by simp [sqL, agg, bcF, join_zero (atL_prp hok _ _)]⟩
  | up t0 l r0 hs hb e ih =>
    intro t r he
    injection he with e1 e2
    subst e1 e2
    obtain ⟨g1, g2⟩ := ih l r0 rfl
    obtain ⟨a, b, c⟩ := e
    rw [a, b, c]
    refine ⟨hAll_prp g1 _, fun x y => ?_⟩
    rw [atL_up g1, g2, g2, g2, g2, List.length_cons, sqL]
    have hb := bcF_prp (w := w) (h := h) hok
    rw [agg_app hb, agg_app hb, agg_app hb]
theorem stack_cut {w h : Nat} {cs : List Cel} {st : List Lv} (hs : Stack w h cs st) : ∀ n, n < st.length → ∃ r, Stack w h cs (st.reverse.getD n default :: r) ∧ r.length = n := by
  induction hs with
  | one l e =>
    intro n hn
    obtain rfl : n = 0 := by simpa using hn
    exact ⟨[], .one l e, rfl⟩
  | up t l r hs hb e ih =>
    intro n hn
    by_cases h1 : n < (l :: r).length
    · obtain ⟨r', q1, q2⟩ := ih n h1
      have e1 : (t :: l :: r).reverse.getD n default = (l :: r).reverse.getD n default := by
        rw [List.reverse_cons, List.getD_eq_getElem?_getD, List.getD_eq_getElem?_getD, List.getElem?_append_left (by rw [List.length_reverse]; exact h1)]
      rw [e1]
      exact ⟨r', q1, q2⟩
    · obtain rfl : n = (l :: r).length := by simp only [List.length_cons] at hn h1 ⊢; omega
      have e1 : (t :: l :: r).reverse.getD (l :: r).length default = t := by
        rw [List.reverse_cons, List.getD_eq_getElem?_getD, List.getElem?_append_right (by rw [List.length_reverse]; exact Nat.le_refl _), List.length_reverse, Nat.sub_self]
        rfl
      rw [e1]
      exact ⟨l :: r, .up t l r hs hb e, rfl⟩
/-- A cell of any level. -/
theorem level_cell {w h : Nat} {cs : List Cel} (hok : ∀ c ∈ cs, Prp c) {st : List Lv} (hs : Stack w h cs st) (n : Nat) (hn : n < st.length) (x y : Nat) :
    atP (st.reverse.getD n default).w (st.reverse.getD n default).h (st.reverse.getD n default).cs x y = agg (bcF w h cs) (sqL n x y) := by
  obtain ⟨r, h1, h2⟩ := stack_cut hs n hn
  rw [← h2]
  have := (stack_top hok h1 _ _ rfl).2 x y
  rw [h2] at this ⊢
  exact this
theorem agg_zero {α : Type} {f : α → Cel} : ∀ {l : List α}, (∀ x ∈ l, f x = ⟨0, 0, 0⟩) → agg f l = ⟨0, 0, 0⟩
  | [], _ => rfl
  | x :: r, h => by
    rw [agg, h x (List.mem_cons_self ..), agg_zero fun y hy => h y (List.mem_cons_of_mem _ hy)]
    rfl
theorem agg_congr {α : Type} {f g : α → Cel} : ∀ {l : List α}, (∀ x ∈ l, f x = g x) → agg f l = agg g l
  | [], _ => rfl
  | x :: r, h => by rw [agg, agg, h x (List.mem_cons_self ..), agg_congr fun y hy => h y (List.mem_cons_of_mem _ hy)]
/-- A cell of the field, if it lies in a box. -/
def bcB (w h : Nat) (cs : List Cel) (b : Bx) (p : Nat × Nat) : Cel := if b.x0 ≤ p.1 ∧ p.1 ≤ b.x1 ∧ b.y0 ≤ p.2 ∧ p.2 ≤ b.y1 then bcF w h cs p else ⟨0, 0, 0⟩
theorem bcB_prp {w h : Nat} {cs : List Cel} (hok : ∀ c ∈ cs, Prp c) (b : Bx) (p : Nat × Nat) : Prp (bcB w h cs b p) := by
  unfold bcB
  split
  · exact bcF_prp hok p
  · exact prp_zero
theorem bcF_out {w h : Nat} {cs : List Cel} {p : Nat × Nat} (ho : w ≤ p.1 ∨ h ≤ p.2) : bcF w h cs p = ⟨0, 0, 0⟩ := atL_out ho
theorem bcB_out {w h : Nat} {cs : List Cel} {b : Bx} {p : Nat × Nat} (ho : w ≤ p.1 ∨ h ≤ p.2) : bcB w h cs b p = ⟨0, 0, 0⟩ := by
  unfold bcB
  split
  · exact bcF_out ho
  · rfl
theorem agg_apart {w h : Nat} {cs : List Cel} {b : Bx} {n x y : Nat} (ha : apartB (sqB w h n x y) b = true) : agg (bcB w h cs b) (sqL n x y) = ⟨0, 0, 0⟩ := by
  refine agg_zero fun p hp => ?_
  have h1 := sqL_mem n x y p hp
  unfold apartB sqB at ha
  simp only [decide_eq_true_eq] at ha
  by_cases ho : w ≤ p.1 ∨ h ≤ p.2
  · exact bcB_out ho
  · unfold bcB
    rw [if_neg (by omega)]
theorem agg_in {w h : Nat} {cs : List Cel} {b : Bx} {n x y : Nat} (ha : inB (sqB w h n x y) b = true) : agg (bcB w h cs b) (sqL n x y) = agg (bcF w h cs) (sqL n x y) := by
  refine agg_congr fun p hp => ?_
  have h1 := sqL_mem n x y p hp
  unfold inB sqB at ha
  simp only [decide_eq_true_eq] at ha
  by_cases ho : w ≤ p.1 ∨ h ≤ p.2
  · rw [bcB_out ho, bcF_out ho]
  · unfold bcB
    rw [if_pos (by omega)]
/-- Where a level ends the field has ended. -/
theorem agg_off {w h : Nat} {cs : List Cel} {b : Bx} {n x y lw lh : Nat} (hw : w ≤ lw * 2 ^ n) (hh : h ≤ lh * 2 ^ n) (ho : lw ≤ x ∨ lh ≤ y) : agg (bcB w h cs b) (sqL n x y) = ⟨0, 0, 0⟩ := by
  refine agg_zero fun p hp => bcB_out ?_
  have h1 := sqL_mem n x y p hp
  rcases ho with ho | ho
  · have := Nat.mul_le_mul_right (2 ^ n) ho; omega
  · have := Nat.mul_le_mul_right (2 ^ n) ho; omega
/-- The places on the stack, together. -/
def aggS (f : Nat × Nat → Cel) (st : List Pl3) : Cel := agg f (st.flatMap fun q => sqL q.n q.x q.y)
theorem aggS_app {f : Nat × Nat → Cel} (hf : ∀ p, Prp (f p)) (a b : List Pl3) : aggS f (a ++ b) = joinC (aggS f a) (aggS f b) := by
  unfold aggS
  rw [List.flatMap_append, agg_app hf]
theorem aggS_one {f : Nat × Nat → Cel} (q : Pl3) : aggS f [q] = agg f (sqL q.n q.x q.y) := by
  unfold aggS
  simp
theorem aggS_prp {f : Nat × Nat → Cel} (hf : ∀ p, Prp (f p)) (a : List Pl3) : Prp (aggS f a) := agg_prp hf _
theorem aggS_step {w h : Nat} {cs : List Cel} (hok : ∀ c ∈ cs, Prp c) {b : Bx} {n x y lw lh : Nat} (hw : w ≤ lw * 2 ^ n) (hh : h ≤ lh * 2 ^ n) (i : Nat) :
    aggS (bcB w h cs b) (blw n lw lh x y (i + 1)) = joinC (aggS (bcB w h cs b) (blw n lw lh x y i)) (agg (bcB w h cs b) (sqL n (2 * x + i % 2) (2 * y + i / 2))) := by
  have hp := bcB_prp (w := w) (h := h) hok b
  rw [blw_succ]
  split
  · rw [aggS_app hp, aggS_one]
  · rename_i hc
    rw [agg_off hw hh (by omega), join_zero (aggS_prp hp _)]
theorem aggS_blw {w h : Nat} {cs : List Cel} (hok : ∀ c ∈ cs, Prp c) {b : Bx} {n x y lw lh : Nat} (hw : w ≤ lw * 2 ^ n) (hh : h ≤ lh * 2 ^ n) :
    aggS (bcB w h cs b) (blw n lw lh x y 4) = agg (bcB w h cs b) (sqL (n + 1) x y) := by
  have hp := bcB_prp (w := w) (h := h) hok b
  have ha := fun l => agg_prp hp l
  rw [aggS_step hok hw hh, aggS_step hok hw hh, aggS_step hok hw hh, aggS_step hok hw hh]
  have e0 : aggS (bcB w h cs b) (blw n lw lh x y 0) = ⟨0, 0, 0⟩ := rfl
  rw [e0, zero_join (ha _), sqL, agg_app hp, agg_app hp, agg_app hp]
  rw [join_assoc (prp_join (ha _) (ha _)) (ha _) (ha _), join_assoc (ha _) (ha _) (prp_join (ha _) (ha _))]
  rfl
theorem stack_dim {w h : Nat} {cs : List Cel} {st : List Lv} (hs : Stack w h cs st) : ∀ t r, st = t :: r → w ≤ t.w * 2 ^ r.length ∧ h ≤ t.h * 2 ^ r.length := by
  induction hs with
  | one l e =>
    intro t r he
    injection he with e1 e2
    subst e1 e2
    obtain ⟨a, b, c⟩ := e
    simp [a, b]
  | up t0 l r0 hs hb e ih =>
    intro t r he
    injection he with e1 e2
    subst e1 e2
    obtain ⟨g1, g2⟩ := ih l r0 rfl
    obtain ⟨a, b, c⟩ := e
    rw [a, b, List.length_cons, Nat.pow_succ]
    have k1 := Nat.mul_le_mul_right (2 ^ r0.length) (show l.w ≤ hf l.w * 2 by simp only [hf]; omega)
    have k2 := Nat.mul_le_mul_right (2 ^ r0.length) (show l.h ≤ hf l.h * 2 by simp only [hf]; omega)
    have e2 : ∀ z, z * 2 * 2 ^ r0.length = z * (2 ^ r0.length * 2) := fun z => by rw [Nat.mul_assoc, Nat.mul_comm 2]
    rw [e2] at k1 k2
    omega
theorem level_dim {w h : Nat} {cs : List Cel} {st : List Lv} (hs : Stack w h cs st) (n : Nat) (hn : n < st.length) : w ≤ (st.reverse.getD n default).w * 2 ^ n ∧ h ≤ (st.reverse.getD n default).h * 2 ^ n := by
  obtain ⟨r, h1, h2⟩ := stack_cut hs n hn
  have := stack_dim h1 _ _ rfl
  rw [h2] at this
  exact this
end Go.Proofs.YtpmomimaihjmjaaGreat
/- Package pyramid: Over (under way). -/
namespace Go.Proofs.YtpmomimaihjmjaaGreat
open Go.RowKit
structure PlOk (L : List Lv) (p : Pl3) : Prop where
  n : p.n < L.length
  x : p.x < (L.getD p.n default).w
  y : p.y < (L.getD p.n default).h
structure PyrL (W H : Nat) (cs : List Cel) (L : List Lv) : Prop where
  cell : ∀ n, n < L.length → ∀ x y : Nat, atP (L.getD n default).w (L.getD n default).h (L.getD n default).cs x y = agg (bcF W H cs) (sqL n x y)
  dim : ∀ n, n < L.length → W ≤ (L.getD n default).w * 2 ^ n ∧ H ≤ (L.getD n default).h * 2 ^ n
  base : (L.getD 0 default).w = W ∧ (L.getD 0 default).h = H
  prp : ∀ c ∈ cs, Prp c
  pos : 0 < L.length
  few : L.length ≤ 16
  side : ∀ n, n < L.length → (L.getD n default).w ≤ 256 ∧ (L.getD n default).h ≤ 256 ∧ (L.getD n default).cs.length = (L.getD n default).w * (L.getD n default).h
  one : ∀ n, n < L.length → 1 ≤ (L.getD n default).w ∧ 1 ≤ (L.getD n default).h
  cel : ∀ n, n < L.length → ∀ c ∈ (L.getD n default).cs, CelOk c
theorem flat_takeP (l : List Pl3) (k : Nat) : (flat pl3E l).take (k * 3) = flat pl3E (l.take k) := by
  induction k generalizing l with
  | zero => simp [flat]
  | succ k ih =>
    cases l with
    | nil => simp [flat]
    | cons x r =>
      have e : (k + 1) * 3 = k * 3 + 1 + 1 + 1 := by omega
      rw [e]
      simpa [flat, List.flatMap_cons] using ih r
def muS : List Pl3 → Nat
  | [] => 0
  | p :: r => 5 ^ p.n + muS r
theorem muS_app : ∀ a b : List Pl3, muS (a ++ b) = muS a + muS b
  | [], b => by simp [muS]
  | p :: a, b => by simp only [List.cons_append, muS, muS_app a b]; omega
theorem muS_len : ∀ a : List Pl3, a.length ≤ muS a
  | [] => Nat.le_refl _
  | p :: a => by
    have := muS_len a
    have h5 : 0 < 5 ^ p.n := Nat.pow_pos (by decide)
    simp only [muS, List.length_cons]
    omega
theorem blw_mem {n lw lh x y : Nat} : ∀ i, ∀ c ∈ blw n lw lh x y i, c.n = n ∧ c.x < lw ∧ c.y < lh
  | 0, c, h => by simp [blw, blwN] at h
  | i + 1, c, h => by
    rw [blw_succ] at h
    split at h
    · rename_i hc
      rw [List.mem_append] at h
      rcases h with h | h
      · exact blw_mem i c h
      · have : c = ⟨n, 2 * x + i % 2, 2 * y + i / 2⟩ := by simpa using h
        subst this
        exact ⟨rfl, hc.1, hc.2⟩
    · exact blw_mem i c h
theorem muS_same {n : Nat} : ∀ l : List Pl3, (∀ c ∈ l, c.n = n) → muS l = l.length * 5 ^ n
  | [], _ => by simp [muS]
  | p :: l, h => by
    rw [muS, muS_same l (fun c hc => h c (List.mem_cons_of_mem _ hc)), h p (List.mem_cons_self ..), List.length_cons, Nat.add_mul, Nat.one_mul, Nat.add_comm]
theorem last_take {st : List Pl3} (h : 0 < st.length) : st = st.take (st.length - 1) ++ [st.getD (st.length - 1) default] := by
  rw [List.getD_eq_getElem?_getD, List.getElem?_eq_getElem (show st.length - 1 < st.length by omega)]
  conv => lhs; rw [← List.take_append_drop (st.length - 1) st]
  congr 1
  rw [List.drop_eq_getElem_cons (show st.length - 1 < st.length by omega), List.drop_eq_nil_of_le (by omega)]
  rfl
theorem join_n {a b : Cel} (ha : Prp a) (hb : Prp b) : (joinC a b).n = a.n + b.n := by
  have := ha.1
  have := hb.1
  unfold joinC
  split
  · omega
  split
  · omega
  · rfl
theorem agg_le {α : Type} {f g : α → Cel} (hf : ∀ x, Prp (f x)) (hg : ∀ x, Prp (g x)) (h : ∀ x, (f x).n ≤ (g x).n) : ∀ l : List α, (agg f l).n ≤ (agg g l).n
  | [] => Int.le_refl _
  | x :: r => by
    rw [agg, agg, join_n (hf x) (agg_prp hf r), join_n (hg x) (agg_prp hg r)]
    have := agg_le hf hg h r
    have := h x
    omega
theorem PyrL.total {W H : Nat} {cs : List Cel} {L : List Lv} (h : PyrL W H cs L) (b : Bx) : (agg (bcB W H cs b) (sqL (L.length - 1) 0 0)).n ≤ 1000000 := by
  have h1 := agg_le (f := bcB W H cs b) (g := bcF W H cs) (bcB_prp h.prp b) (bcF_prp h.prp) (fun p => by
    unfold bcB
    split
    · exact Int.le_refl _
    · exact (bcF_prp h.prp p).1) (sqL (L.length - 1) 0 0)
  have hl := h.pos
  rw [← h.cell (L.length - 1) (by omega)] at h1
  have := atL_ok (w := (L.getD (L.length - 1) default).w) (h := (L.getD (L.length - 1) default).h) (h.cel (L.length - 1) (by omega)) ((0 : Nat) : Int) ((0 : Nat) : Int)
  unfold CelOk at this
  omega
structure OvR (W H : Nat) (cs : List Cel) (b : Bx) (L : List Lv) (st : List Pl3) (out : Cel) (seen : Nat) : Prop where
  ok : ∀ p ∈ st, PlOk L p
  prp : Prp out
  sum : joinC out (aggS (bcB W H cs b) st) = agg (bcB W H cs b) (sqL (L.length - 1) 0 0)
  seen : seen + muS st ≤ 152587890625
attribute [local irreducible] OJ J HdJ Code.wpIn wpListIn Oper.wpIn bodyPost CallsIn Does
set_option maxRecDepth 4000
set_option maxHeartbeats 16000000 in
theorem over_any (p : Nat) (A : Option Addr) (c : Nat) (L : List Lv) (seen : Int) (b : Bx) (w : World) (hown : Own [.blk p 68 [.slice A L.length c, .int .i64 seen]] w)
    (hr : RoA w (blocks [.blk p 68 [.slice A L.length c, .int .i64 seen]]) A L.length c 3 (flat lvE L))
    (hrs : ∀ n, n < L.length → RoA w (blocks [.blk p 68 [.slice A L.length c, .int .i64 seen]]) (L.getD n default).A (L.getD n default).cs.length (L.getD n default).c 3 (flat celE (L.getD n default).cs)) (W H : Nat) (cs : List Cel) (hL : PyrL W H cs L) :
    Does Tryz.prog 28 [.pointer (some ⟨p, 0, none⟩), .agg (bxE b).toArray] [.blk p 68 [.slice A L.length c, .int .i64 seen]] w
      (fun v S' => ∃ s2, v = .agg (celE (agg (bcB W H cs b) (sqL (L.length - 1) 0 0))).toArray ∧ S' = [.blk p 68 [.slice A L.length c, .int .i64 s2]]) := by
  refine does_of Tryz.func28 rfl Tryz.ntmps28 rfl hown (fun N => ?_)
  simp only [slots]
  have hfew := hL.few
  have hpos := hL.pos
  have el : (L.length : Int) - 1 = ((L.length - 1 : Nat) : Int) := by omega
  repeat' (first | (refine z_ta) | fail)
  rw [el]
  rename_i b3 b4 b5 b6
  refine c_loop (X := List Pl3 × Cel × Nat × Option Addr × Nat) (fun q => OvR W H cs b L q.1 q.2.1 q.2.2.1) (fun q => [(0, .pointer (some ⟨p, 0, none⟩)), (3, .pointer (some ⟨b3, 0, none⟩)), (4, .pointer (some ⟨b4, 0, none⟩)), (5, .pointer (some ⟨b5, 0, none⟩)), (6, .slice q.2.2.2.1 q.1.length q.2.2.2.2)])
    (fun q => [.row (.slice q.2.2.2.1 q.1.length q.2.2.2.2) 131 3 q.1.length (flat pl3E q.1), .blk b5 65 (celE q.2.1), .blk b4 65 [.int .i16 0, .int .i16 0, .int .i64 0], .blk b3 86 (bxE b), .blk p 68 [.slice A L.length c, .int .i64 q.2.2.1]])
    (fun q => muS q.1) ([⟨L.length - 1, 0, 0⟩], ⟨0, 0, 0⟩, 0, some ⟨b6, 0, none⟩, 1) ?_ ⟨rfl, rfl, rfl, rfl, rfl, trivial⟩ (Sub.refl _) ?_
  · have h1 := hL.one (L.length - 1) (by omega)
    have h5 : 5 ^ (L.length - 1) ≤ 5 ^ 15 := Nat.pow_le_pow_right (by decide) (by omega)
    have h6 : (5 : Nat) ^ 15 = 30517578125 := by decide
    have hbp := bcB_prp hL.prp b (w := W) (h := H)
    refine ⟨fun p hp => ?_, prp_zero, by dsimp only; rw [aggS_one, zero_join (agg_prp hbp _)], by simp only [muS]; omega⟩
    have : p = ⟨L.length - 1, 0, 0⟩ := by simpa using hp
    subst this
    exact ⟨by show L.length - 1 < L.length; omega, by show 0 < (L.getD (L.length - 1) default).w; omega, by show 0 < (L.getD (L.length - 1) default).h; omega⟩
  rintro ⟨st, out, sn, A6, c6⟩ hR
  dsimp only at hR ⊢
  obtain ⟨hpl, hop, hsum, hsn⟩ := hR
  have hbp := bcB_prp hL.prp b (w := W) (h := H)
  have htot := hL.total b
  have hout : 0 ≤ out.n ∧ out.n ≤ 1000000 := by
    rw [← hsum, join_n hop (aggS_prp hbp _)] at htot
    have := (aggS_prp hbp st).1
    have := hop.1
    omega
  have hsl := muS_len st
  repeat' (first | (refine z_ta) | fail)
  · have hpos2 : 0 < st.length := by omega
    have eh : (st.length : Int) - 1 = ((st.length - 1 : Nat) : Int) := by omega
    have ei : ((st.length : Int) - 1).toNat = st.length - 1 := by omega
    rw [ei, eh]
    refine j_cap (A := _) (m := st.length) (c := c6) (e := 131) (s := 3) (xs := flat pl3E st) (by refine z_hasf) (fun hcap => ?_)
    have hq : PlOk L (st.getD (st.length - 1) default) := by
      rw [List.getD_eq_getElem?_getD, List.getElem?_eq_getElem (show st.length - 1 < st.length by omega)]
      exact hpl _ (List.getElem_mem ..)
    have hs0 : (st.take (st.length - 1)).length = st.length - 1 := by rw [List.length_take, Nat.min_eq_left (by omega)]
    have hst := last_take hpos2
    generalize st.getD (st.length - 1) default = q at *
    repeat' (first | (refine z_ta) | fail)
    rw [subA_zero, Nat.sub_zero, Nat.sub_zero]
    rename_i b7 _
    refine j_trunc (m := st.length) (c := c6) (e := 131) (s := 3) (xs := flat pl3E st) (st.length - 1) (by refine z_hasf) (by omega) hpos2 ?_
    rw [flat_takeP]
    generalize st.take (st.length - 1) = s0 at *
    rw [← hs0]
    repeat' (first | (refine z_ta) | fail)
    have hmu : muS st = muS s0 + 5 ^ q.n := by rw [hst, muS_app]; simp [muS]
    have h5 : 0 < 5 ^ q.n := Nat.pow_pos (by decide)
    have hsum2 : joinC (joinC out (agg (bcB W H cs b) (sqL q.n q.x q.y))) (aggS (bcB W H cs b) s0) = agg (bcB W H cs b) (sqL (L.length - 1) 0 0) := by
      rw [← hsum, hst, aggS_app hbp, aggS_one, join_assoc hop (agg_prp hbp _) (aggS_prp hbp _), join_comm (agg_prp hbp _) (aggS_prp hbp _)]
    have hp0 : ∀ p ∈ s0, PlOk L p := fun p hp => hpl p (by rw [hst]; exact List.mem_append_left _ hp)
    have hsd := hL.side q.n hq.n
    have hs00 := hL.side 0 hL.pos
    have hqn := hq.n
    have hqx := hq.x
    have hqy := hq.y
    refine lf rfl rfl rfl (S := [.blk p 68 [.slice A L.length c, .int .i64 (sn + 1)]]) (fun w hw ho => square_any p A c L (sn + 1) q.n q.x q.y w ho ⟨hr.h.go hw Split.au⟩ hL.pos (L.getD 0 default).w (L.getD 0 default).h rfl rfl (by omega) (by omega) (by omega) (by omega)) ?_
    rintro v S' ⟨rfl, rfl⟩
    obtain ⟨bx, hbx⟩ : ∃ bx, bx = sqB (L.getD 0 default).w (L.getD 0 default).h q.n q.x q.y := ⟨_, rfl⟩
    rw [← hbx]
    have hbx2 : bx = sqB W H q.n q.x q.y := by rw [hbx, hL.base.1, hL.base.2]
    repeat' (first | (refine z_ta) | fail)
    · refine c_round (s0, out, sn + 1, some ⟨b7, 0, none⟩, c6) ?_ ?_ ⟨rfl, rfl, rfl, rfl, rfl, trivial⟩ (by dsimp only; rw [Int.natCast_add]; exact Sub.au)
      · rename_i hap
        refine ⟨hp0, hop, ?_, by show sn + 1 + muS s0 ≤ _; omega⟩
        have := agg_apart (w := W) (h := H) (cs := cs) (b := b) (n := q.n) (x := q.x) (y := q.y) (by rw [← hbx2]; exact hap)
        rw [this, join_zero hop] at hsum2
        exact hsum2
      · show muS s0 < muS st; omega
    · rename_i hap hin
      obtain ⟨bL, oL, rfl, hAtP⟩ := hr.at_ hL.pos
      refine c_dra rfl rfl (by decide) (by decide +kernel) ?_
      refine z_gob
      have hat := hrs q.n hq.n
      have hcel := hL.cel q.n hq.n
      have hcl : (L.getD q.n default).cs.length ≤ 1000000 := by rw [hsd.2.2]; have := Nat.mul_le_mul hsd.1 hsd.2.1; omega
      refine lfv (v := .agg (celE (atP (L.getD q.n default).w (L.getD q.n default).h (L.getD q.n default).cs q.x q.y)).toArray) rfl rfl rfl (fun w hw => atP_any (L.getD q.n default).w (L.getD q.n default).h (L.getD q.n default).A (L.getD q.n default).c (L.getD q.n default).cs q.x q.y w ⟨hat.h.go hw (Split.nil _)⟩ (by rw [hsd.2.2]; push_cast; rfl) hcl) ?_
      have hco : CelOk (atP (L.getD q.n default).w (L.getD q.n default).h (L.getD q.n default).cs q.x q.y) := atL_ok hcel _ _
      have hac : atP (L.getD q.n default).w (L.getD q.n default).h (L.getD q.n default).cs q.x q.y = agg (bcB W H cs b) (sqL q.n q.x q.y) := by
        rw [hL.cell q.n hq.n, agg_in (by rw [← hbx2]; exact hin)]
      rw [← hac] at hsum2
      have hpa : Prp (atP (L.getD q.n default).w (L.getD q.n default).h (L.getD q.n default).cs q.x q.y) := by rw [hac]; exact agg_prp hbp _
      generalize atP (L.getD q.n default).w (L.getD q.n default).h (L.getD q.n default).cs q.x q.y = ac at *
      refine z_gob
      have hoo : CelOk out := hout
      refine lfv (v := .agg (celE (jTo [out, ac] 2)).toArray) rfl rfl rfl (fun w hw => join_any _ _ [out, ac] w ⟨Ro.row hw (Split.nil _) (by refine z_hasf)⟩ (by simp) (fun c hc => (by
        simp only [List.mem_cons, List.not_mem_nil, or_false] at hc
        rcases hc with rfl | rfl
        · exact hoo
        · exact hco))) ?_
      have hjj : jTo [out, ac] 2 = joinC out ac := by
        simp only [jTo, List.getD, List.getElem?_cons_zero, List.getElem?_cons_succ, Option.getD_some]
        rw [zero_join hop]
      rw [← hjj] at hsum2
      have hpj : Prp (jTo [out, ac] 2) := by rw [hjj]; exact prp_join hop hpa
      generalize hj : jTo [out, ac] 2 = oc at *
      refine z_gob
      all_goals refine c_round (s0, oc, sn + 1, some ⟨b7, 0, none⟩, c6) ?_ ?_ ⟨rfl, rfl, rfl, rfl, rfl, trivial⟩ (by dsimp only; rw [Int.natCast_add]; exact Sub.au)
      all_goals first
        | (show muS s0 < muS st; omega)
        | exact ⟨hp0, hpj, hsum2, by show sn + 1 + muS s0 ≤ _; omega⟩
    · rename_i hap hin
      obtain ⟨n', hn'⟩ : ∃ n', q.n = n' + 1 := by
        cases hqz : q.n with
        | succ k => exact ⟨k, rfl⟩
        | zero =>
          exfalso
          rw [hqz] at hqx hqy hbx
          have e0 : bx = ⟨q.x, q.y, q.x, q.y⟩ := by
            rw [hbx]
            unfold sqB
            simp only [Nat.pow_zero, Nat.mul_one, Bx.mk.injEq, true_and]
            omega
          rw [e0] at hap hin
          unfold apartB at hap
          unfold inB at hin
          simp only [decide_eq_true_eq] at hap hin
          omega
      rw [hn']
      refine lf rfl rfl rfl (S := [.blk p 68 [.slice A L.length c, .int .i64 (sn + 1)]]) (fun w hw ho => below_any p A c L (sn + 1) n' q.x q.y w ho ⟨hr.h.go hw Split.au⟩ (by omega) (L.getD n' default).w (L.getD n' default).h rfl rfl (by omega) (by omega) (by omega)) ?_
      rintro v S' ⟨A2, c2, rfl, rfl⟩
      have hbl := blw_len n' (L.getD n' default).w (L.getD n' default).h q.x q.y 4
      have hbm := blw_mem (n := n') (lw := (L.getD n' default).w) (lh := (L.getD n' default).h) (x := q.x) (y := q.y) 4
      have hdm := hL.dim n' (by omega)
      have hbs := aggS_blw (w := W) (h := H) (cs := cs) hL.prp (b := b) (n := n') (x := q.x) (y := q.y) (lw := (L.getD n' default).w) (lh := (L.getD n' default).h) hdm.1 hdm.2
      generalize blw n' (L.getD n' default).w (L.getD n' default).h q.x q.y 4 = bl at *
      have hmb : muS bl ≤ 4 * 5 ^ n' := by
        rw [muS_same bl (fun c hc => (hbm c hc).1)]
        exact Nat.mul_le_mul_right _ hbl
      have h5n : 5 ^ q.n = 5 * 5 ^ n' := by rw [hn', Nat.pow_succ, Nat.mul_comm]
      have h5p : 0 < 5 ^ n' := Nat.pow_pos (by decide)
      have hmm : muS (s0 ++ bl) = muS s0 + muS bl := muS_app s0 bl
      repeat' (first | (refine z_ta) | fail)
      rename_i A3 c3
      refine c_round (s0 ++ bl, out, sn + 1, A3, c3) ⟨fun p hp => ?_, hop, ?_, ?_⟩ ?_ ⟨rfl, rfl, rfl, rfl, rfl, trivial⟩ (by dsimp only; rw [Int.natCast_add]; exact Sub.au)
      · rcases List.mem_append.1 hp with hp | hp
        · exact hp0 p hp
        · obtain ⟨g1, g2, g3⟩ := hbm p hp
          exact ⟨by omega, by rw [g1]; exact g2, by rw [g1]; exact g3⟩
      · show joinC out (aggS (bcB W H cs b) (s0 ++ bl)) = _
        rw [aggS_app hbp, hbs, ← hn', ← hsum2, join_assoc hop (agg_prp hbp _) (aggS_prp hbp _), join_comm (agg_prp hbp _) (aggS_prp hbp _)]
      · show sn + 1 + muS (s0 ++ bl) ≤ _; omega
      · show muS (s0 ++ bl) < muS st; omega
  · refine j_outK (S' := [.blk p 68 [.slice A L.length c, .int .i64 sn]]) Sub.au ?_
    refine z_rk
    have hst0 : st = [] := List.eq_nil_of_length_eq_zero (by omega)
    subst hst0
    have e0 : aggS (bcB W H cs b) [] = ⟨0, 0, 0⟩ := rfl
    rw [e0, join_zero hop] at hsum
    exact ⟨sn, by rw [← hsum]; rfl, rfl⟩
end Go.Proofs.YtpmomimaihjmjaaGreat
/- Package pyramid: what New makes is a pyramid of which Over tells. -/
namespace Go.Proofs.YtpmomimaihjmjaaGreat
open Go.RowKit
theorem cellsN_prp (z : List Int) : ∀ i, ∀ c ∈ cellsN z i, Prp c
  | 0, c, h => by simp [cellsN] at h
  | i + 1, c, h => by
    rw [cellsN, List.mem_append] at h
    rcases h with h | h
    · exact cellsN_prp z i c h
    · have : c = cellOf (z.getD i 0) := by simpa using h
      rw [this]
      exact prp_cell _
theorem stack_R {W H : Nat} {cs : List Cel} {st : List Lv} (hs : Stack W H cs st) (hW : 1 ≤ W ∧ W ≤ 256) (hH : 1 ≤ H ∧ H ≤ 256) (hl : cs.length = W * H) (hb : ∀ c ∈ cs, 0 ≤ c.n ∧ c.n ≤ 1) : ∀ t r, st = t :: r → ∃ e, PyrR W H cs t r e := by
  induction hs with
  | one l e =>
    intro t r he
    injection he with e1 e2
    subst e1 e2
    obtain ⟨a, b, c⟩ := e
    exact ⟨8, ⟨.one _ ⟨a, b, c⟩, rfl, by rw [a]; exact ⟨hW.1, hW.2⟩, by rw [b]; exact ⟨hH.1, hH.2⟩, by rw [a, b, c, hl], by rw [c]; simpa using hb⟩⟩
  | up t0 l r0 hs hb2 e ih =>
    intro t r he
    injection he with e1 e2
    subst e1 e2
    obtain ⟨e0, h0⟩ := ih l r0 rfl
    obtain ⟨e', h1, -⟩ := h0.next hb2 t0.A t0.c
    obtain ⟨a, b, c⟩ := e
    refine ⟨e', ?_⟩
    have : t0 = ⟨hf l.w, hf l.h, t0.A, t0.c, hAll l.w l.h l.cs (hf l.h)⟩ := by
      cases t0
      simp only at a b c
      subst a b c
      rfl
    rw [this]
    exact h1
theorem pyr_of {W H : Nat} {z : List Int} {st : List Lv} (hs : Stack W H (cellsN z z.length) st) (hne : 0 < st.length) (hW : 1 ≤ W ∧ W ≤ 256) (hH : 1 ≤ H ∧ H ≤ 256) (hl : z.length = W * H) : PyrL W H (cellsN z z.length) st.reverse := by
  have hR := fun n (hn : n < st.length) => stack_cut hs n hn
  have hall : ∀ n, n < st.length → ∃ r e, r.length = n ∧ PyrR W H (cellsN z z.length) (st.reverse.getD n default) r e := fun n hn => by
    obtain ⟨r, h1, h2⟩ := hR n hn
    obtain ⟨e, h3⟩ := stack_R h1 hW hH (by rw [cellsN_len, hl]) (cellsN_bnd z _) _ _ rfl
    exact ⟨r, e, h2, h3⟩
  have hfew : st.length ≤ 9 := by
    obtain ⟨r, e, h2, h3⟩ := hall (st.length - 1) (by omega)
    have := h3.small.1
    omega
  refine ⟨fun n hn x y => level_cell (cellsN_prp z _) hs n (by simpa using hn) x y, fun n hn => level_dim hs n (by simpa using hn), ?_, cellsN_prp z _, by simpa using hne, by rw [List.length_reverse]; omega, fun n hn => ?_, fun n hn => ?_, fun n hn c hc => ?_⟩
  · obtain ⟨r, h1, h2⟩ := hR 0 hne
    have hr : r = [] := List.eq_nil_of_length_eq_zero h2
    subst hr
    cases h1 with
    | one l e => exact ⟨e.1, e.2.1⟩
  · obtain ⟨r, e, h2, h3⟩ := hall n (by simpa using hn)
    exact ⟨h3.small.2.1, h3.small.2.2.1, h3.len⟩
  · obtain ⟨r, e, h2, h3⟩ := hall n (by simpa using hn)
    exact ⟨h3.w1.1, h3.h1.1⟩
  · obtain ⟨r, e, h2, h3⟩ := hall n (by simpa using hn)
    exact h3.small.2.2.2 c hc
/-- From where one stands all goes on: what is behind is read alone. -/
theorem St.here {w0 w : World} {W : Nat → Prop} {H H1 : List HE} (h : St w0 W H w) (hs : Sub H1 H) : St w (blocks H1) H1 w :=
  ⟨rfl, rfl, rfl, Nat.le_refl _, fun _ _ _ => rfl, (h.sub hs).own, fun x hx b hb => .inl ⟨x, hx, hb⟩⟩
theorem j_base {N : Nat} {ds : List Deferred} {w0 : World} {W : Nat → Prop} {σ : List (Nat × Value)} {H : List HE} {q : Act → World → Prop} (H1 : List HE) (hs : Sub H1 H) (h : ∀ w1, St w0 W H w1 → J N ds w1 (blocks H1) σ H1 q) : J N ds w0 W σ H q :=
  fun a w ha hw => h w hw a w ha (hw.here hs)
end Go.Proofs.YtpmomimaihjmjaaGreat
/- Package ray, and the reference of layer 37: Check, floor, ceil, strip. -/
namespace Go.Proofs.YtpmomimaihjmjaaGreat
open Go.RowKit
/-- Is a number not more than another one away from 0? -/
def inF (x far : Int) : Bool := decide (-far ≤ x ∧ x ≤ far)
abbrev Far37 (x : Int) : Prop := -131072 ≤ x ∧ x ≤ 131072
abbrev Line37 (ax ay bx by_ : Int) : Prop := Far37 ax ∧ Far37 ay ∧ Far37 bx ∧ Far37 by_
def chk37 (ax ay bx by_ : Int) : Int := if Line37 ax ay bx by_ then 0 else 2
instance (x far : Int) : BoolP (inF x far) (-far ≤ x ∧ x ≤ far) := ⟨by simp [inF]⟩
section
variable {F : Fence} {n : Nat} {P : Program} {N : Nat} {ds : List Deferred} {w0 : World} {W : Nat → Prop} {σ : List (Nat × Value)} {H R S : List HE} {Q : Exit → Act → World → Prop}
variable {ops : Array Oper} {rest : List Oper} {d : Nat} {ty : TypeId} {pos : String} {aft : Array Edge} {gd : Option (Nat × Bool)} {v : Value} {us : List Value}
/-- A call of a function that is a value; the heap is given back. -/
theorem lcl [Wide F] [WF F] {x : Operand} {f : FuncId} {captured : Array Value} {args : Array Operand} {ts : Array TypeId} [Cl P f]
    (hw : wantd ops σ ⟨some d, .call ⟨.value x, args, ts⟩, ty, pos, aft, gd⟩ = some true) (hx : ev σ x = some (.func (.func f) #[] captured)) (hv : vals σ args.toList = some us) (hdN : Nat.blt d N = true)
    (hc : ∀ w, St w0 W H w → Own S w → Does P f (us ++ captured.toList) S w fun u S' => u = v ∧ S' = S) [hs : SplitC H S R] (h : J N ds w0 W ((d, v) :: σ) H (wpListIn F n P ops Q rest)) :
    J N ds w0 W σ H (wpListIn F n P ops Q (⟨some d, .call ⟨.value x, args, ts⟩, ty, pos, aft, gd⟩ :: rest)) := by
  refine l_run hw (o_call (Rl := fun u S' => u = v ∧ S' = S) hx hv hs.h hc ?_)
  rintro u S' ⟨rfl, rfl⟩ a w ha hw'
  exact h _ _ (ha.put d _ (by simpa using hdN)) (hw'.sub hs.h.back)
end
attribute [local irreducible] OJ J HdJ Code.wpIn wpListIn Oper.wpIn bodyPost CallsIn Does
set_option maxRecDepth 4000
set_option maxHeartbeats 8000000 in
instance chk37_any (ax ay bx by_ : Int) : CV Tryz.prog 8 [.agg #[.int .i64 ax, .int .i64 ay], .agg #[.int .i64 bx, .int .i64 by_]] (.int .i64 (chk37 ax ay bx by_)) True := ⟨fun _ w => by
  refine does_of Tryz.func8 rfl Tryz.ntmps8 rfl ⟨by simp, .nil⟩ (fun n => ?_)
  simp only [slots]
  refine z_gob
  refine c_rounds 6 ?_
  refine z_gob
  all_goals exact j_out1 rfl rfl Sub.au ⟨congrArg (Value.int .i64) (by unfold chk37; first | rw [if_pos (by omega)] | rw [if_neg (by omega)]), rfl⟩⟩
set_option maxHeartbeats 4000000 in
instance floor_any (x d : Int) : CV Tryz.prog 33 [.int .i64 x, .int .i64 d] (.int .i64 (x / d)) (0 < d ∧ (-4611686018427387904 ≤ x ∧ x ≤ 4611686018427387904)) := ⟨fun hc w => by
  have h1 := Int.emod_nonneg x (show d ≠ 0 by omega)
  have h2 := Int.emod_nonneg (-x) (show d ≠ 0 by omega)
  refine does_of Tryz.func33 rfl Tryz.ntmps33 rfl ⟨by simp, .nil⟩ (fun n => ?_)
  simp only [slots]
  rcases Int.lt_or_le x 0 with hx | hx
  · have h3 := div_abs (-x) hc.1 (by omega)
    have h4 := neg_div (x := x) hc.1
    have e1 : x.tdiv d = -((-x) / d) := by rw [← Int.neg_neg x, Int.neg_tdiv, Int.tdiv_eq_ediv_of_nonneg (by omega), Int.neg_neg]
    have e2 : x.tmod d = -((-x) % d) := by rw [← Int.neg_neg x, Int.neg_tmod, Int.tmod_eq_emod_of_nonneg (by omega), Int.neg_neg]
    have e3 : IntKind.i64.wrap (x.tdiv d) = -((-x) / d) := by rw [e1]; exact wrap_in (by simp only [InR]; omega)
    refine z_gob
    all_goals exact j_out1 rfl rfl Sub.au ⟨congrArg (Value.int .i64) (by split at h4 <;> omega), rfl⟩
  · have h3 := div_abs x hc.1 hx
    refine z_gob
    all_goals exact j_out1 rfl rfl Sub.au ⟨rfl, rfl⟩⟩
end Go.Proofs.YtpmomimaihjmjaaGreat
/- Package ray: the strips. -/
namespace Go.Proofs.YtpmomimaihjmjaaGreat
open Go.RowKit
abbrev stripE : Int × Int × Int → List Value := fun p => [.int .i64 p.1, .int .i64 p.2.1, .int .i64 p.2.2]
attribute [local irreducible] OJ J HdJ Code.wpIn wpListIn Oper.wpIn bodyPost CallsIn Does
set_option maxRecDepth 4000
set_option maxHeartbeats 4000000 in
instance ceil_any (x d : Int) : CV Tryz.prog 32 [.int .i64 x, .int .i64 d] (.int .i64 (cdiv x d)) (0 < d ∧ (-2305843009213693952 ≤ x ∧ x ≤ 2305843009213693952)) := ⟨fun hc w => by
  have h1 := div_bnd (z := -x) (d := d) 2305843009213693952 hc.1 (by omega)
  refine does_of Tryz.func32 rfl Tryz.ntmps32 rfl ⟨by simp, .nil⟩ (fun n => ?_)
  simp only [slots]
  refine z_gob
  refine z_ro
  exact ⟨rfl, rfl⟩⟩
set_option maxHeartbeats 4000000 in
theorem along_any (g3 g7 g4 : Nat) (ax ay bx by_ h : Int) (w : World) (hl : Line37 ax ay bx by_) (h5 : -600000 ≤ h ∧ h ≤ 600000)
    (hown : Own [.blk g3 24 [.int .i64 ax, .int .i64 ay], .blk g7 2 [.int .i64 (by_ - ay)], .blk g4 24 [.int .i64 bx, .int .i64 by_]] w) :
    Does Tryz.prog 58 [.int .i64 h, .pointer (some ⟨g3, 0, none⟩), .pointer (some ⟨g7, 0, none⟩), .pointer (some ⟨g4, 0, none⟩)] [.blk g3 24 [.int .i64 ax, .int .i64 ay], .blk g7 2 [.int .i64 (by_ - ay)], .blk g4 24 [.int .i64 bx, .int .i64 by_]] w
      (fun v S' => v = .int .i64 (along ax ay bx by_ h) ∧ S' = [.blk g3 24 [.int .i64 ax, .int .i64 ay], .blk g7 2 [.int .i64 (by_ - ay)], .blk g4 24 [.int .i64 bx, .int .i64 by_]]) := by
  obtain ⟨l1, l2, l3, l4⟩ := hl
  have hb := along_bnd l1 l2 l3 l4 h5
  unfold along at hb ⊢
  refine does_of Tryz.func58 rfl Tryz.ntmps58 rfl hown (fun n => ?_)
  simp only [slots]
  refine z_gob
  exact j_out1 rfl rfl Sub.au ⟨rfl, rfl⟩
set_option maxHeartbeats 16000000 in
instance strip_any (ax ay bx by_ k : Int) : CV Tryz.prog 34 [.agg #[.int .i64 ax, .int .i64 ay], .agg #[.int .i64 bx, .int .i64 by_], .int .i64 k] (.agg (stripE (k, stripF ax ay bx by_ k)).toArray) (Line37 ax ay bx by_ ∧ ay ≤ by_ ∧ -1000 ≤ k ∧ k ≤ 1000) := ⟨fun hc w => by
  obtain ⟨hl, hy, hk⟩ := hc
  have hl2 := hl
  obtain ⟨l1, l2, l3, l4⟩ := hl2
  have a1 := (along_bnd l1 l2 l3 l4 (h := max ay (k * 256)) (by omega)).2.2
  have a2 := (along_bnd l1 l2 l3 l4 (h := min by_ ((k + 1) * 256)) (by omega)).2.2
  refine does_of Tryz.func34 rfl Tryz.ntmps34 rfl ⟨by simp, .nil⟩ (fun n => ?_)
  simp only [slots]
  unfold stripF
  rcases Int.lt_or_le 0 (by_ - ay) with hd | hd
  · have b1 := cdiv_bnd (z := min (along ax ay bx by_ (max ay (k * 256))) (along ax ay bx by_ (min by_ ((k + 1) * 256)))) (d := (by_ - ay) * 256) 549755813888 (by omega) (by omega)
    have b2 := div_bnd (z := max (along ax ay bx by_ (max ay (k * 256))) (along ax ay bx by_ (min by_ ((k + 1) * 256)))) (d := (by_ - ay) * 256) 549755813888 (by omega) (by omega)
    rw [if_neg (by omega)]
    refine z_gob
    refine lcl rfl rfl rfl rfl (fun w hw ho => along_any _ _ _ ax ay bx by_ (max ay (k * 256)) w hl (by omega) ho) ?_
    refine z_gob
    refine lcl rfl rfl rfl rfl (fun w hw ho => along_any _ _ _ ax ay bx by_ (min by_ ((k + 1) * 256)) w hl (by omega) ho) ?_
    refine z_gob
    refine z_ro
    exact ⟨rfl, rfl⟩
  · have b1 := cdiv_bnd (z := min ax bx) (d := 256) 131072 (by omega) (by omega)
    rw [if_pos (by omega)]
    refine z_gob
    refine z_ro
    exact ⟨rfl, rfl⟩⟩
set_option maxHeartbeats 4000000 in
theorem strips_any (ax ay bx by_ : Int) (w : World) : Does Tryz.prog 14 [.agg #[.int .i64 ax, .int .i64 ay], .agg #[.int .i64 bx, .int .i64 by_]] [] w
    (fun v S' => ∃ g2 g3, v = .func (.func 31) #[] #[.pointer (some ⟨g2, 0, none⟩), .pointer (some ⟨g3, 0, none⟩)] ∧ S' = [.blk g2 24 [.int .i64 ax, .int .i64 ay], .blk g3 24 [.int .i64 bx, .int .i64 by_]]) := by
  refine does_of Tryz.func14 rfl Tryz.ntmps14 rfl ⟨by simp, .nil⟩ (fun n => ?_)
  simp only [slots]
  refine z_gob
  rename_i b2 b3
  exact j_out1 rfl rfl (S' := [.blk b2 24 [.int .i64 ax, .int .i64 ay], .blk b3 24 [.int .i64 bx, .int .i64 by_]]) Sub.au ⟨b2, b3, rfl, rfl⟩
end Go.Proofs.YtpmomimaihjmjaaGreat
/- Package ray: all strips of a line; the reference's Touches. -/
namespace Go.Proofs.YtpmomimaihjmjaaGreat
open Go.RowKit
def rowsN (ay by_ : Int) : Nat := (max ay by_ / 256 - (cdiv (min ay by_) 256 - 1) + 1).toNat
def rowAt37 (ax ay bx by_ : Int) (i : Nat) : Int × Int × Int := (cdiv (min ay by_) 256 - 1 + i, if ay ≤ by_ then stripF ax ay bx by_ (cdiv (min ay by_) 256 - 1 + i) else stripF bx by_ ax ay (cdiv (min ay by_) 256 - 1 + i))
/-- The strips of a line. -/
def rowsL (ax ay bx by_ : Int) : List (Int × Int × Int) := if Line37 ax ay bx by_ then (List.range (rowsN ay by_)).map (rowAt37 ax ay bx by_) else []
theorem nonneg_rows {a b : Int} (h : a ≤ b) : cdiv a 256 - 1 ≤ b / 256 := by
  have h1 := cdiv_le (x := a) (k := b / 256 + 1) (d := 256) (by omega)
  omega
theorem Split.two (a b : HE) : ∀ (S : List HE), Split (a :: b :: S) S [a, b]
  | [] => .nil _
  | y :: r => .cons (.there a (.there b (.here y r))) (Split.two a b r)
theorem Has.end2 (a b : HE) : ∀ S : List HE, Has (S ++ [a, b]) a (S ++ [b])
  | [] => .here _ _
  | y :: r => .there y (Has.end2 a b r)
theorem Has.end1 (b : HE) : ∀ S : List HE, Has (S ++ [b]) b S
  | [] => .here _ _
  | y :: r => .there y (Has.end1 b r)
theorem Sub.two (a b : HE) (S : List HE) : Sub (a :: b :: S) (S ++ [a, b]) := .cons (Has.end2 a b S) (.cons (Has.end1 b S) (Sub.refl S))
attribute [local irreducible] OJ J HdJ Code.wpIn wpListIn Oper.wpIn bodyPost CallsIn Does
set_option maxRecDepth 4000
set_option maxHeartbeats 32000000 in
theorem strips1_any (l g2 g3 : Nat) (ax ay bx by_ : Int) (w : World) (S : List HE) (I : Nat → List HE → Prop) (D : List HE → Prop)
    (hown : Own (.blk g2 24 [.int .i64 ax, .int .i64 ay] :: .blk g3 24 [.int .i64 bx, .int .i64 by_] :: S) w) (h0 : I 0 S)
    (hy : ∀ i S', i < (rowsL ax ay bx by_).length → I i S' → ∀ w', Own S' w' → Yields Tryz.prog l [.agg (stripE ((rowsL ax ay bx by_).getD i default)).toArray] S' w' (fun v S'' => (v = .bool true ∧ I (i + 1) S'') ∨ (v = .bool false ∧ D S''))) :
    Does Tryz.prog 31 [.func (.yield l) #[] #[], .pointer (some ⟨g2, 0, none⟩), .pointer (some ⟨g3, 0, none⟩)] (.blk g2 24 [.int .i64 ax, .int .i64 ay] :: .blk g3 24 [.int .i64 bx, .int .i64 by_] :: S) w
      (fun v S' => v = .tuple #[] ∧ ∃ c2 c3 S1, S' = .blk g2 24 c2 :: .blk g3 24 c3 :: S1 ∧ (I (rowsL ax ay bx by_).length S1 ∨ D S1)) := by
  refine does_of Tryz.func31 rfl Tryz.ntmps31 rfl hown (fun n => ?_)
  simp only [slots]
  by_cases hl : Line37 ax ay bx by_
  · have hc : chk37 ax ay bx by_ = 0 := if_pos hl
    have hl2 : Line37 bx by_ ax ay := ⟨hl.2.2.1, hl.2.2.2, hl.1, hl.2.1⟩
    obtain ⟨l1, l2, l3, l4⟩ := hl
    have hl : Line37 ax ay bx by_ := ⟨l1, l2, l3, l4⟩
    rcases Int.lt_or_le by_ ay with hsw | hsw
    · have hrow : ∀ i : Nat, rowAt37 ax ay bx by_ i = (cdiv by_ 256 - 1 + i, stripF bx by_ ax ay (cdiv by_ 256 - 1 + i)) := fun i => by
        unfold rowAt37
        rw [if_neg (by omega), show min ay by_ = by_ by omega]
      have hn : rowsN ay by_ = (ay / 256 - (cdiv by_ 256 - 1) + 1).toNat := by
        unfold rowsN
        rw [show min ay by_ = by_ by omega, show max ay by_ = ay by omega]
      have hd1 := cdiv_bnd (z := by_) (d := 256) 131072 (by omega) (by omega)
      have hd2 := div_bnd (z := ay) (d := 256) 131072 (by omega) (by omega)
      have hd3 := cdiv_le (x := by_) (k := 512) (d := 256) (by omega)
      have hd4 := cdiv_le (x := by_) (k := -513) (d := 256) (by omega)
      have hge := nonneg_rows (a := by_) (b := ay) (by omega)
      refine z_gob
      refine c_loop (X := Nat × List HE) (fun x => x.1 ≤ rowsN ay by_ ∧ I x.1 x.2) (fun x => [(0, .func (.yield l) #[] #[]), (1, .pointer (some ⟨g2, 0, none⟩)), (2, .pointer (some ⟨g3, 0, none⟩)), (4, .int .i64 (cdiv by_ 256 - 1 + x.1))])
        (fun x => .blk g2 24 [.int .i64 bx, .int .i64 by_] :: .blk g3 24 [.int .i64 ax, .int .i64 ay] :: x.2) (fun x => rowsN ay by_ - x.1) (0, S) ⟨by simp, h0⟩ ⟨rfl, rfl, rfl, by simp [look], trivial⟩ (Sub.refl _) ?_
      rintro ⟨i, S1⟩ ⟨hi, hI⟩
      dsimp only at hi hI ⊢
      have hlen : i < rowsN ay by_ → i < (rowsL ax ay bx by_).length := fun h => by unfold rowsL; rw [if_pos hl, List.length_map, List.length_range]; exact h
      refine z_gob
      · have hlt : i < rowsN ay by_ := by omega
        have hg : (rowsL ax ay bx by_).getD i default = (cdiv by_ 256 - 1 + i, stripF bx by_ ax ay (cdiv by_ 256 - 1 + i)) := by
          unfold rowsL
          rw [if_pos hl, List.getD_eq_getElem?_getD, List.getElem?_map, List.getElem?_range hlt]
          exact hrow i
        refine lyl rfl rfl rfl (Split.two _ _ _) rfl (fun w hw ho => (by have := hy i S1 (hlen hlt) hI w ho; rw [hg] at this; exact this)) ?_
        rintro v S2 (⟨rfl, hI2⟩ | ⟨rfl, hD⟩)
        · refine z_gob
          exact c_round (i + 1, S2) ⟨by show i + 1 ≤ _; omega, hI2⟩ (by show _ - (i + 1) < _ - i; omega) ⟨rfl, rfl, rfl, by simp [look]; omega, trivial⟩ (Sub.two _ _ _)
        · refine z_gob
          exact j_out0 rfl (Sub.two _ _ _) ⟨rfl, _, _, _, rfl, .inr hD⟩
      · have hend : i = rowsN ay by_ := by omega
        subst hend
        exact j_outN rfl (Sub.refl _) ⟨rfl, _, _, _, rfl, .inl (by unfold rowsL; rw [if_pos hl, List.length_map, List.length_range]; exact hI)⟩
    · have hrow : ∀ i : Nat, rowAt37 ax ay bx by_ i = (cdiv ay 256 - 1 + i, stripF ax ay bx by_ (cdiv ay 256 - 1 + i)) := fun i => by
        unfold rowAt37
        rw [if_pos (by omega), show min ay by_ = ay by omega]
      have hn : rowsN ay by_ = (by_ / 256 - (cdiv ay 256 - 1) + 1).toNat := by
        unfold rowsN
        rw [show min ay by_ = ay by omega, show max ay by_ = by_ by omega]
      have hd1 := cdiv_bnd (z := ay) (d := 256) 131072 (by omega) (by omega)
      have hd2 := div_bnd (z := by_) (d := 256) 131072 (by omega) (by omega)
      have hd3 := cdiv_le (x := ay) (k := 512) (d := 256) (by omega)
      have hd4 := cdiv_le (x := ay) (k := -513) (d := 256) (by omega)
      have hge := nonneg_rows (a := ay) (b := by_) (by omega)
      refine z_gob
      refine c_loop (X := Nat × List HE) (fun x => x.1 ≤ rowsN ay by_ ∧ I x.1 x.2) (fun x => [(0, .func (.yield l) #[] #[]), (1, .pointer (some ⟨g2, 0, none⟩)), (2, .pointer (some ⟨g3, 0, none⟩)), (4, .int .i64 (cdiv ay 256 - 1 + x.1))])
        (fun x => .blk g2 24 [.int .i64 ax, .int .i64 ay] :: .blk g3 24 [.int .i64 bx, .int .i64 by_] :: x.2) (fun x => rowsN ay by_ - x.1) (0, S) ⟨by simp, h0⟩ ⟨rfl, rfl, rfl, by simp [look], trivial⟩ (Sub.refl _) ?_
      rintro ⟨i, S1⟩ ⟨hi, hI⟩
      dsimp only at hi hI ⊢
      have hlen : i < rowsN ay by_ → i < (rowsL ax ay bx by_).length := fun h => by unfold rowsL; rw [if_pos hl, List.length_map, List.length_range]; exact h
      refine z_gob
      · have hlt : i < rowsN ay by_ := by omega
        have hg : (rowsL ax ay bx by_).getD i default = (cdiv ay 256 - 1 + i, stripF ax ay bx by_ (cdiv ay 256 - 1 + i)) := by
          unfold rowsL
          rw [if_pos hl, List.getD_eq_getElem?_getD, List.getElem?_map, List.getElem?_range hlt]
          exact hrow i
        refine lyl rfl rfl rfl (Split.two _ _ _) rfl (fun w hw ho => (by have := hy i S1 (hlen hlt) hI w ho; rw [hg] at this; exact this)) ?_
        rintro v S2 (⟨rfl, hI2⟩ | ⟨rfl, hD⟩)
        · refine z_gob
          exact c_round (i + 1, S2) ⟨by show i + 1 ≤ _; omega, hI2⟩ (by show _ - (i + 1) < _ - i; omega) ⟨rfl, rfl, rfl, by simp [look]; omega, trivial⟩ (Sub.two _ _ _)
        · refine z_gob
          exact j_out0 rfl (Sub.two _ _ _) ⟨rfl, _, _, _, rfl, .inr hD⟩
      · have hend : i = rowsN ay by_ := by omega
        subst hend
        exact j_outN rfl (Sub.refl _) ⟨rfl, _, _, _, rfl, .inl (by unfold rowsL; rw [if_pos hl, List.length_map, List.length_range]; exact hI)⟩
  · have hc : chk37 ax ay bx by_ = 2 := if_neg hl
    refine z_gob
    exact j_out0 rfl (Sub.refl _) ⟨rfl, _, _, _, rfl, .inl (by unfold rowsL; rw [if_neg hl]; exact h0)⟩
/-- A range over the strips of a line. -/
theorem c_strips {n N : Nat} {ds : List Deferred} {w0 : World} {W : Nat → Prop} {σ : List (Nat × Value)} {H : List HE} {Q : Exit → Act → World → Prop} {g : Operand} {ps : Array Tmp} {assign body : Code} {g2 g3 : Nat} {ax ay bx by_ : Int} {S R : List HE} (I : Nat → List HE → Prop) (D : Code → List HE → Prop)
    (hx : ev σ g = some (.func (.func 31) #[] #[.pointer (some ⟨g2, 0, none⟩), .pointer (some ⟨g3, 0, none⟩)])) (hs : Split H (.blk g2 24 [.int .i64 ax, .int .i64 ay] :: .blk g3 24 [.int .i64 bx, .int .i64 by_] :: S) R) (h0 : I 0 S)
    (hy : ∀ l i S1, i < (rowsL ax ay bx by_).length → I i S1 → ∀ w1, Own (.loop l N σ ps assign body .ready none :: S1) w1 → Yields Tryz.prog l [.agg (stripE ((rowsL ax ay bx by_).getD i default)).toArray] (.loop l N σ ps assign body .ready none :: S1) w1
      (fun v S2 => (v = .bool true ∧ ∃ S3, S2 = .loop l N σ ps assign body .ready none :: S3 ∧ I (i + 1) S3) ∨ (v = .bool false ∧ ∃ c S3, S2 = .loop l N σ ps assign body .done (some c) :: S3 ∧ D c S3)))
    (hn : ∀ d S1, I (rowsL ax ay bx by_).length S1 → J N (mk d :: ds) w0 W σ (S1 ++ .obj d (.deferred (some [])) :: R) (Q .normal))
    (hd : ∀ d c S1, D c S1 → J N (mk d :: ds) w0 W σ (S1 ++ .obj d (.deferred (some [])) :: R) (c.wpIn Fence.wide n Tryz.prog Q)) : J N ds w0 W σ H ((Code.rangeFunc g ps assign body).wpIn Fence.wide n Tryz.prog Q) := by
  refine c_range (Rp := fun d l pend S1 => ∃ c2 c3 S2, S1 = .blk g2 24 c2 :: .blk g3 24 c3 :: S2 ∧ ((pend = none ∧ I (rowsL ax ay bx by_).length S2) ∨ ∃ c, pend = some c ∧ D c S2)) hx hs (fun d l w1 LE hLE hw ho => ?_) ?_
  · have hp : (LE :: .blk g2 24 [.int .i64 ax, .int .i64 ay] :: .blk g3 24 [.int .i64 bx, .int .i64 by_] :: S).Perm (.blk g2 24 [.int .i64 ax, .int .i64 ay] :: .blk g3 24 [.int .i64 bx, .int .i64 by_] :: LE :: S) := (List.Perm.swap _ _ _).trans (.cons _ (List.Perm.swap _ _ _))
    refine Does.conv (strips1_any l g2 g3 ax ay bx by_ w1 (LE :: S) (fun i S' => ∃ S1, S' = LE :: S1 ∧ I i S1) (fun S' => ∃ c S1, S' = .loop l N σ ps assign body .done (some c) :: S1 ∧ D c S1) (ho.perm hp) ⟨S, rfl, h0⟩ ?_) hp.symm ?_
    · rintro i S' hi ⟨S1, rfl, hI⟩ w2 ho2
      subst hLE
      exact hy l i S1 hi hI w2 ho2
    · rintro v S' ⟨-, c2, c3, S1, rfl, ⟨S2, rfl, hI⟩ | ⟨c, S2, rfl, hD⟩⟩
      · refine ⟨_, (List.Perm.cons _ (List.Perm.swap _ _ _)).trans (List.Perm.swap _ _ _), .ready, none, _, by rw [hLE], by simp, c2, c3, S2, rfl, .inl ⟨rfl, hI⟩⟩
      · exact ⟨_, (List.Perm.cons _ (List.Perm.swap _ _ _)).trans (List.Perm.swap _ _ _), .done, some c, _, rfl, by simp, c2, c3, S2, rfl, .inr ⟨c, rfl, hD⟩⟩
  · rintro d l pend S1 ⟨c2, c3, S2, rfl, ⟨rfl, hI⟩ | ⟨c, rfl, hD⟩⟩
    · exact ⟨fun _ => j_perm (Sub.skip (Sub.skip (Sub.refl _) _) _) (hn d S2 hI), fun c h => by cases h⟩
    · exact ⟨fun h => (by cases h), fun c' h => (by injection h with h; subst h; exact j_perm (Sub.skip (Sub.skip (Sub.refl _) _) _) (hd d c S2 hD))⟩
end Go.Proofs.YtpmomimaihjmjaaGreat
/- The reference's Touches; ray's Cells, Touches and Length. -/
namespace Go.Proofs.YtpmomimaihjmjaaGreat
open Go.RowKit
def meetB (a b lo hi : Int) : Bool := decide (min a b ≤ hi ∧ lo ≤ max a b)
instance (a b lo hi : Int) : BoolP (meetB a b lo hi) (min a b ≤ hi ∧ lo ≤ max a b) := ⟨by simp [meetB]⟩
/-- On which side corner number c of a cell lies. -/
def sideC (ax ay bx by_ i k : Int) (c : Nat) : Int := (bx - ax) * (256 * k + 256 * ((c : Int) / 2) - ay) - (by_ - ay) * (256 * i + 256 * ((c : Int) % 2) - ax)
def abT (ax ay bx by_ i k : Int) : Nat → Bool
  | 0 => false
  | c + 1 => abT ax ay bx by_ i k c || decide (0 ≤ sideC ax ay bx by_ i k c)
def beT (ax ay bx by_ i k : Int) : Nat → Bool
  | 0 => false
  | c + 1 => beT ax ay bx by_ i k c || decide (sideC ax ay bx by_ i k c ≤ 0)
instance (ax ay bx by_ i k : Int) : Decidable (touP ax ay bx by_ i k) := by unfold touP; infer_instance
def touB (ax ay bx by_ i k : Int) : Bool := decide (touP ax ay bx by_ i k)
instance (ax ay bx by_ i k : Int) : BoolP (touB ax ay bx by_ i k) (touP ax ay bx by_ i k) := ⟨by simp [touB]⟩
theorem side0 (ax ay bx by_ i k : Int) : sideC ax ay bx by_ i k 0 = sideF ax ay bx by_ (256 * i) (256 * k) ∧ sideC ax ay bx by_ i k 1 = sideF ax ay bx by_ (256 * i + 256) (256 * k) ∧ sideC ax ay bx by_ i k 2 = sideF ax ay bx by_ (256 * i) (256 * k + 256) ∧ sideC ax ay bx by_ i k 3 = sideF ax ay bx by_ (256 * i + 256) (256 * k + 256) := by
  unfold sideC sideF
  refine ⟨?_, ?_, ?_, ?_⟩ <;> simp
theorem touP_of (ax ay bx by_ i k : Int) : touP ax ay bx by_ i k ↔ (min ax bx ≤ 256 * i + 256 ∧ 256 * i ≤ max ax bx) ∧ (min ay by_ ≤ 256 * k + 256 ∧ 256 * k ≤ max ay by_) ∧ abT ax ay bx by_ i k 4 = true ∧ beT ax ay bx by_ i k 4 = true := by
  obtain ⟨e0, e1, e2, e3⟩ := side0 ax ay bx by_ i k
  unfold touP
  simp only [abT, beT, Bool.or_eq_true, decide_eq_true_eq, e0, e1, e2, e3, Bool.false_eq_true, false_or, or_assoc]
theorem or_yes {p : Prop} [Decidable p] (b : Bool) (h : p) : (b || decide p) = true := by rw [decide_eq_true h]; simp
theorem or_no {p : Prop} [Decidable p] (b : Bool) (h : ¬ p) : (b || decide p) = b := by rw [decide_eq_false h]; simp
attribute [local irreducible] OJ J HdJ Code.wpIn wpListIn Oper.wpIn bodyPost CallsIn Does
set_option maxRecDepth 4000
/-- How long a line is. -/
def lenF (ax ay bx by_ : Int) : Int := if Line37 ax ay bx by_ then rootTo ((bx - ax) * (bx - ax) + (by_ - ay) * (by_ - ay)) 64 else 0
set_option maxHeartbeats 4000000 in
instance length_any (ax ay bx by_ : Int) : CV Tryz.prog 12 [.agg #[.int .i64 ax, .int .i64 ay], .agg #[.int .i64 bx, .int .i64 by_]] (.tuple #[.int .u64 (lenF ax ay bx by_), .int .i64 (chk37 ax ay bx by_)]) True := ⟨fun _ w => by
  refine does_of Tryz.func12 rfl Tryz.ntmps12 rfl ⟨by simp, .nil⟩ (fun n => ?_)
  simp only [slots]
  by_cases hl : Line37 ax ay bx by_
  · have hc : chk37 ax ay bx by_ = 0 := if_pos hl
    have hv : lenF ax ay bx by_ = _ := if_pos hl
    rw [hc, hv]
    obtain ⟨l1, l2, l3, l4⟩ := hl
    refine z_gob
    rw [hc]
    refine z_gob
    exact j_out2 rfl rfl rfl (.nil _) ⟨rfl, rfl⟩
  · have hc : chk37 ax ay bx by_ = 2 := if_neg hl
    have hv : lenF ax ay bx by_ = 0 := if_neg hl
    rw [hv]
    refine z_gob
    exact j_out2 rfl rfl rfl (.nil _) ⟨rfl, rfl⟩⟩
/-- How many cells so many strips have. -/
def cellsTo (L : List (Int × Int × Int)) : Nat → Int
  | 0 => 0
  | i + 1 => cellsTo L i + ((L.getD i default).2.2 - (L.getD i default).2.1 + 1)
theorem rowsL_bnd (ax ay bx by_ : Int) : (rowsL ax ay bx by_).length ≤ 2000 ∧ ∀ i, i < (rowsL ax ay bx by_).length → (-1000 ≤ ((rowsL ax ay bx by_).getD i default).1 ∧ ((rowsL ax ay bx by_).getD i default).1 ≤ 1000) ∧ (-549755813889 ≤ ((rowsL ax ay bx by_).getD i default).2.1 ∧ ((rowsL ax ay bx by_).getD i default).2.1 ≤ 549755813888) ∧ (-549755813888 ≤ ((rowsL ax ay bx by_).getD i default).2.2 ∧ ((rowsL ax ay bx by_).getD i default).2.2 ≤ 549755813888) := by
  by_cases hl : Line37 ax ay bx by_
  · obtain ⟨l1, l2, l3, l4⟩ := hl
    have d1 := cdiv_le (x := min ay by_) (k := 512) (d := 256) (by omega)
    have d2 := cdiv_le (x := min ay by_) (k := -513) (d := 256) (by omega)
    have hge := nonneg_rows (a := min ay by_) (b := max ay by_) (by omega)
    have hN : rowsN ay by_ ≤ 2000 := by unfold rowsN; omega
    have hlen : (rowsL ax ay bx by_).length = rowsN ay by_ := by unfold rowsL; rw [if_pos ⟨l1, l2, l3, l4⟩, List.length_map, List.length_range]
    refine ⟨by omega, fun i hi => ?_⟩
    have hg : (rowsL ax ay bx by_).getD i default = rowAt37 ax ay bx by_ i := by
      unfold rowsL
      rw [if_pos ⟨l1, l2, l3, l4⟩, List.getD_eq_getElem?_getD, List.getElem?_map, List.getElem?_range (by omega)]
      rfl
    have hk : i < rowsN ay by_ := by omega
    unfold rowsN at hk
    rw [hg]
    have key : ∀ px py qx qy k : Int, -131072 ≤ px ∧ px ≤ 131072 → -131072 ≤ py ∧ py ≤ 131072 → -131072 ≤ qx ∧ qx ≤ 131072 → -131072 ≤ qy ∧ qy ≤ 131072 → py ≤ qy → -1000 ≤ k ∧ k ≤ 1000 → (-549755813889 ≤ (stripF px py qx qy k).1 ∧ (stripF px py qx qy k).1 ≤ 549755813888) ∧ -549755813888 ≤ (stripF px py qx qy k).2 ∧ (stripF px py qx qy k).2 ≤ 549755813888 := by
      intro px py qx qy k h1 h2 h3 h4 h5 h6
      have a1 := (along_bnd h1 h2 h3 h4 (h := max py (k * 256)) (by omega)).2.2
      have a2 := (along_bnd h1 h2 h3 h4 (h := min qy ((k + 1) * 256)) (by omega)).2.2
      unfold stripF
      split
      · have b1 := cdiv_bnd (z := min px qx) (d := 256) 131072 (by omega) (by omega)
        simp only
        omega
      · have b1 := cdiv_bnd (z := min (along px py qx qy (max py (k * 256))) (along px py qx qy (min qy ((k + 1) * 256)))) (d := (qy - py) * 256) 549755813888 (by omega) (by omega)
        have b2 := div_bnd (z := max (along px py qx qy (max py (k * 256))) (along px py qx qy (min qy ((k + 1) * 256)))) (d := (qy - py) * 256) 549755813888 (by omega) (by omega)
        simp only
        omega
    unfold rowAt37
    simp only
    split
    · exact ⟨by omega, key ax ay bx by_ _ l1 l2 l3 l4 (by omega) (by omega)⟩
    · exact ⟨by omega, key bx by_ ax ay _ l3 l4 l1 l2 (by omega) (by omega)⟩
  · have : rowsL ax ay bx by_ = [] := if_neg hl
    rw [this]
    exact ⟨by simp, fun i hi => by simp at hi⟩
theorem cellsTo_bnd (ax ay bx by_ : Int) : ∀ i, i ≤ (rowsL ax ay bx by_).length → -(2199023255552 * (i : Int)) ≤ cellsTo (rowsL ax ay bx by_) i ∧ cellsTo (rowsL ax ay bx by_) i ≤ 2199023255552 * (i : Int)
  | 0, _ => by simp [cellsTo]
  | i + 1, h => by
    have h1 := cellsTo_bnd ax ay bx by_ i (by omega)
    have h2 := (rowsL_bnd ax ay bx by_).2 i (by omega)
    unfold cellsTo
    push_cast
    omega
set_option maxHeartbeats 16000000 in
instance cells_any (ax ay bx by_ : Int) : CV Tryz.prog 15 [.agg #[.int .i64 ax, .int .i64 ay], .agg #[.int .i64 bx, .int .i64 by_]] (.int .i64 (cellsTo (rowsL ax ay bx by_) (rowsL ax ay bx by_).length)) True := ⟨fun _ w => by
  refine does_ofM Tryz.func15 rfl Tryz.ntmps15 rfl ⟨by simp, .nil⟩ (fun n => ?_)
  simp only [slots]
  refine z_gob
  rename_i b2 b3 b5
  refine lf rfl rfl rfl (S := []) (fun w hw ho => strips_any ax ay bx by_ w) ?_
  rintro v S' ⟨g2, g3, rfl, rfl⟩
  refine z_gob
  refine c_strips (ax := ax) (ay := ay) (bx := bx) (by_ := by_) (S := [.blk b5 3 [.int .i64 0]]) (fun i S => S = [.blk b5 3 [.int .i64 (cellsTo (rowsL ax ay bx by_) i)]]) (fun _ _ => False) rfl Split.au rfl ?_ ?_ ?_
  · rintro l i S1 hi rfl w1 ho
    have h1 := cellsTo_bnd ax ay bx by_ i (by omega)
    have h2 := rowsL_bnd ax ay bx by_
    have h3 := h2.2 i hi
    have h4 := h2.1
    have e := cellsTo.eq_2 (rowsL ax ay bx by_) i
    generalize (rowsL ax ay bx by_).getD i default = row at *
    refine yields_of (N := 20) ho rfl (by simp) (fun n => ?_)
    simp only [over]
    refine z_gob
    refine c_beg ?_
    refine z_gob
    refine c_rnH (S' := [_, .blk b5 3 [.int .i64 (cellsTo (rowsL ax ay bx by_) (i + 1))]]) ?_ (.inl ⟨rfl, _, rfl, rfl⟩)
    rw [e]
    exact Sub.au
  · rintro d S1 rfl
    refine z_gob
    refine j_outMK (Ds := [d]) (S' := []) ?_ ?_
    · show Sub [.obj d (.deferred (some []))] _
      exact Sub.au
    · refine z_rk
      exact ⟨rfl, rfl⟩
  · rintro d c S1 h
    exact h.elim⟩
/-- Does a line touch a cell, by its strips? -/
def rowHas (L : List (Int × Int × Int)) (x y : Int) : Nat → Bool
  | 0 => false
  | i + 1 => rowHas L x y i || ((L.getD i default).1 == y && (decide ((L.getD i default).2.1 ≤ x) && decide (x ≤ (L.getD i default).2.2)))
/-- The first strip in a row tells. -/
def rowTell (L : List (Int × Int × Int)) (x y : Int) : Bool := match L.find? (fun r => r.1 == y) with
  | some r => decide (r.2.1 ≤ x) && decide (x ≤ r.2.2)
  | none => false
theorem tell_none {L : List (Int × Int × Int)} {x y : Int} (h : ∀ i, i < L.length → (L.getD i default).1 ≠ y) : rowTell L x y = false := by
  have : L.find? (fun r => r.1 == y) = none := by
    rw [List.find?_eq_none]
    intro r hr
    obtain ⟨i, hi, rfl⟩ := List.getElem_of_mem hr
    have := h i hi
    rw [List.getD_eq_getElem?_getD, List.getElem?_eq_getElem hi] at this
    simpa using this
  unfold rowTell
  rw [this]
theorem tell_some {L : List (Int × Int × Int)} {x y : Int} {i : Nat} (hi : i < L.length) (h : (L.getD i default).1 = y) (hb : ∀ j, j < i → (L.getD j default).1 ≠ y) : rowTell L x y = (decide ((L.getD i default).2.1 ≤ x) && decide (x ≤ (L.getD i default).2.2)) := by
  have : L.find? (fun r => r.1 == y) = some (L.getD i default) := by
    rw [List.find?_eq_some_iff_getElem]
    rw [List.getD_eq_getElem?_getD, List.getElem?_eq_getElem hi] at h ⊢
    refine ⟨by simpa using h, i, hi, rfl, fun j hj => ?_⟩
    have := hb j hj
    rw [List.getD_eq_getElem?_getD, List.getElem?_eq_getElem (by omega)] at this
    simpa using this
  unfold rowTell
  rw [this]
set_option maxHeartbeats 16000000 in
instance rtouch_any (ax ay bx by_ x y : Int) : CV Tryz.prog 16 [.agg #[.int .i64 ax, .int .i64 ay], .agg #[.int .i64 bx, .int .i64 by_], .int .i64 x, .int .i64 y] (.bool (rowTell (rowsL ax ay bx by_) x y)) True := ⟨fun _ w => by
  refine does_ofM Tryz.func16 rfl Tryz.ntmps16 rfl ⟨by simp, .nil⟩ (fun n => ?_)
  simp only [slots]
  refine z_gob
  rename_i b4 b5 b6 b7 b8
  refine lf rfl rfl rfl (S := []) (fun w hw ho => strips_any ax ay bx by_ w) ?_
  rintro v S' ⟨g2, g3, rfl, rfl⟩
  refine z_gob
  refine c_strips (ax := ax) (ay := ay) (bx := bx) (by_ := by_) (S := [.blk b6 3 [.int .i64 x], .blk b7 3 [.int .i64 y], .blk b8 4 [.bool false]]) (fun i S => S = [.blk b6 3 [.int .i64 x], .blk b7 3 [.int .i64 y], .blk b8 4 [.bool false]] ∧ ∀ j, j < i → ((rowsL ax ay bx by_).getD j default).1 ≠ y)
    (fun c S => c = .ret ∧ S = [.blk b8 4 [.bool (rowTell (rowsL ax ay bx by_) x y)]]) rfl Split.au ⟨rfl, by simp⟩ ?_ ?_ ?_
  · rintro l i S1 hi ⟨rfl, hb⟩ w1 ho
    have hs := fun h => tell_some (x := x) (y := y) hi h hb
    have hb2 : ((rowsL ax ay bx by_).getD i default).1 ≠ y → ∀ j, j < i + 1 → ((rowsL ax ay bx by_).getD j default).1 ≠ y := fun h j hj => by
      rcases Nat.lt_or_ge j i with h1 | h1
      · exact hb j h1
      · rw [show j = i by omega]; exact h
    generalize (rowsL ax ay bx by_).getD i default = row at *
    refine yields_of (N := 28) ho rfl (by simp) (fun n => ?_)
    simp only [over]
    refine z_gob
    refine c_beg ?_
    refine z_gob
    · have e : rowTell (rowsL ax ay bx by_) x y = decide (x ≤ row.2.2) := by rw [hs (by assumption)]; simp; omega
      refine c_rrH (S' := [_, .blk b8 4 [.bool (rowTell (rowsL ax ay bx by_) x y)]]) ?_ (.inr ⟨rfl, .ret, _, rfl, rfl, rfl⟩)
      rw [e]
      exact Sub.au
    · have e : rowTell (rowsL ax ay bx by_) x y = false := by rw [hs (by assumption)]; simp; omega
      refine c_rrH (S' := [_, .blk b8 4 [.bool (rowTell (rowsL ax ay bx by_) x y)]]) ?_ (.inr ⟨rfl, .ret, _, rfl, rfl, rfl⟩)
      rw [e]
      exact Sub.au
    · exact c_rnH (S' := [_, .blk b6 3 [.int .i64 x], .blk b7 3 [.int .i64 y], .blk b8 4 [.bool false]]) Sub.au (.inl ⟨rfl, _, rfl, rfl, hb2 (by assumption)⟩)
  · rintro d S1 ⟨rfl, hb⟩
    have e := tell_none (x := x) hb
    refine z_gob
    refine j_outMS (Ds := [d]) (S2 := [.blk b8 4 [.bool false]]) ?_ (.nil _) ?_
    · show Sub [.blk b8 4 [.bool false], .obj d (.deferred (some []))] _
      exact Sub.au
    · refine z_rk
      exact ⟨by rw [e]; rfl, rfl⟩
  · rintro d c S1 ⟨rfl, rfl⟩
    refine z_gob
    refine j_outMS (Ds := [d]) (S2 := [.blk b8 4 [.bool (rowTell (rowsL ax ay bx by_) x y)]]) ?_ (.nil _) ?_
    · show Sub [.blk b8 4 [.bool (rowTell (rowsL ax ay bx by_) x y)], .obj d (.deferred (some []))] _
      exact Sub.au
    · refine z_rk
      exact ⟨rfl, rfl⟩⟩
end Go.Proofs.YtpmomimaihjmjaaGreat
/- Package ray: on a pyramid's field. -/
namespace Go.Proofs.YtpmomimaihjmjaaGreat
open Go.RowKit
def onB (W H : Nat) (x y : Int) : Bool := decide (0 ≤ x ∧ 0 ≤ y ∧ x ≤ 256 * ((W : Int) - 1) ∧ y ≤ 256 * ((H : Int) - 1))
attribute [local irreducible] OJ J HdJ Code.wpIn wpListIn Oper.wpIn bodyPost CallsIn Does
set_option maxRecDepth 4000
set_option maxHeartbeats 16000000 in
theorem side_any (p : Nat) (A : Option Addr) (c : Nat) (L : List Lv) (seen : Int) (W H : Nat) (w : World) (hown : Own [.blk p 68 [.slice A L.length c, .int .i64 seen]] w)
    (hr : RoA w (blocks [.blk p 68 [.slice A L.length c, .int .i64 seen]]) A L.length c 3 (flat lvE L)) (h0 : 0 < L.length) (hb : (L.getD 0 default).w = W ∧ (L.getD 0 default).h = H) :
    Does Tryz.prog 27 [.pointer (some ⟨p, 0, none⟩), .int .i64 0] [.blk p 68 [.slice A L.length c, .int .i64 seen]] w
      (fun v S' => v = .tuple #[.int .i64 W, .int .i64 H] ∧ S' = [.blk p 68 [.slice A L.length c, .int .i64 seen]]) := by
  refine does_of Tryz.func27 rfl Tryz.ntmps27 rfl hown (fun N => ?_)
  simp only [slots]
  obtain ⟨bL, oL, rfl, hAtP⟩ := hr.at_ h0
  rw [← hb.1, ← hb.2]
  refine z_gob
  refine j_outK (S' := [.blk p 68 [.slice (some ⟨bL, oL, none⟩) L.length c, .int .i64 seen]]) Sub.au ?_
  refine z_rk
  exact ⟨rfl, rfl⟩
set_option maxHeartbeats 16000000 in
theorem on_any (p : Nat) (A : Option Addr) (c : Nat) (L : List Lv) (seen : Int) (W H : Nat) (x y : Int) (w : World) (hown : Own [.blk p 68 [.slice A L.length c, .int .i64 seen]] w)
    (hr : RoA w (blocks [.blk p 68 [.slice A L.length c, .int .i64 seen]]) A L.length c 3 (flat lvE L)) (h0 : 0 < L.length) (hb : (L.getD 0 default).w = W ∧ (L.getD 0 default).h = H) (hW : W ≤ 256 ∧ H ≤ 256) :
    Does Tryz.prog 26 [.pointer (some ⟨p, 0, none⟩), .agg #[.int .i64 x, .int .i64 y]] [.blk p 68 [.slice A L.length c, .int .i64 seen]] w
      (fun v S' => v = .bool (onB W H x y) ∧ S' = [.blk p 68 [.slice A L.length c, .int .i64 seen]]) := by
  refine does_of Tryz.func26 rfl Tryz.ntmps26 rfl hown (fun N => ?_)
  simp only [slots]
  unfold onB
  repeat' (first | (refine z_ta) | fail)
  refine lf rfl rfl rfl (S := [.blk p 68 [.slice A L.length c, .int .i64 seen]]) (fun w hw ho => side_any p A c L seen W H w ho ⟨hr.h.go hw Split.au⟩ h0 hb) ?_
  rintro v S' ⟨rfl, rfl⟩
  refine z_gob
  all_goals
    refine j_outK (S' := [.blk p 68 [.slice A L.length c, .int .i64 seen]]) Sub.au ?_
    refine z_rk
    exact ⟨(congrArg Value.bool (by rw [Bool.eq_iff_iff]; simp only [decide_eq_true_eq, Bool.and_eq_true, Bool.or_eq_true, Bool.not_eq_true, beq_iff_eq, bne_iff_ne, true_iff, iff_true, false_iff, iff_false, Bool.false_eq_true, not_false_eq_true, ne_eq]; omega)), rfl⟩
end Go.Proofs.YtpmomimaihjmjaaGreat
/- Package ray: a pyramid's memory, owned. -/
namespace Go.Proofs.YtpmomimaihjmjaaGreat
open Go.RowKit
/-- A pyramid in memory. -/
def pyrH (p : Nat) (A : Option Addr) (c : Nat) (st : List Lv) (seen : Int) : List HE :=
  .blk p 68 [.slice A st.reverse.length c, .int .i64 seen] :: .row (.slice A st.reverse.length c) 63 3 st.reverse.length (flat lvE st.reverse) :: rowsR st
theorem has_of_mem {x : HE} : ∀ {H : List HE}, x ∈ H → ∃ R, Has H x R
  | y :: H, h => by
    rcases List.mem_cons.1 h with rfl | h
    · exact ⟨H, .here _ _⟩
    · obtain ⟨R, hR⟩ := has_of_mem h
      exact ⟨y :: R, .there y hR⟩
theorem mem_rowsR {st : List Lv} {n : Nat} (hn : n < st.reverse.length) : HE.row (.slice (st.reverse.getD n default).A (st.reverse.getD n default).cs.length (st.reverse.getD n default).c) 65 3 (st.reverse.getD n default).cs.length (flat celE (st.reverse.getD n default).cs) ∈ rowsR st := by
  unfold rowsR
  refine List.mem_map.2 ⟨st.reverse.getD n default, ?_, rfl⟩
  rw [List.getD_eq_getElem?_getD, List.getElem?_eq_getElem hn]
  exact List.mem_reverse.1 (List.getElem_mem ..)
theorem Split.push {H S R : List HE} (x : HE) (h : Split H S R) : Split (x :: H) S (x :: R) := by
  induction h with
  | nil H => exact .nil _
  | cons hh _ ih => exact .cons (.there x hh) ih
theorem Split.whole : ∀ T : List HE, Split T T []
  | [] => .nil _
  | x :: T => .cons (.here _ _) (Split.whole T)
/-- What lies at the end of the list. -/
theorem Split.pre (T : List HE) : ∀ l : List HE, Split (l ++ T) T l
  | [] => Split.whole T
  | x :: l => (Split.pre T l).push x
/-- What a call gives back goes to the end of the list again. -/
theorem j_swap {N : Nat} {ds : List Deferred} {w0 : World} {W : Nat → Prop} {σ : List (Nat × Value)} {S R : List HE} {q : Act → World → Prop} (h : J N ds w0 W σ (R ++ S) q) : J N ds w0 W σ (S ++ R) q := fun a w ha hw => h a w ha (hw.perm List.perm_append_comm)
theorem Does.frame {P : Program} {f : FuncId} {args : List Value} {x : HE} {R : List HE} {w : World} {Rl : Value → List HE → Prop} (h : Does P f args [x] w Rl) (ho : Own (x :: R) w) : Does P f args (x :: R) w (fun v S' => ∃ S1, S' = S1 ++ R ∧ Rl v S1) := fun n =>
  (h n).mono fun _ _ ⟨v, S1, e, hr, hst⟩ => ⟨v, S1 ++ R, e, ⟨S1, rfl, hr⟩, (St.start ho).call (.cons (.here _ _) (.nil _)) hst⟩
theorem own_one {x : HE} {R : List HE} {w : World} (ho : Own (x :: R) w) : Own [x] w := (St.start ho).sub_own (.cons (.here _ _) (.nil _))
section
variable {p : Nat} {A : Option Addr} {c : Nat} {st : List Lv} {seen : Int} {w : World}
theorem pyr_levels (ho : Own (pyrH p A c st seen) w) : RoA w (blocks [.blk p 68 [.slice A st.reverse.length c, .int .i64 seen]]) A st.reverse.length c 3 (flat lvE st.reverse) :=
  ⟨Ro.row (St.start ho) (.cons (.here _ _) (.nil _)) (.here _ _)⟩
theorem pyr_rows (ho : Own (pyrH p A c st seen) w) (n : Nat) (hn : n < st.reverse.length) : RoA w (blocks [.blk p 68 [.slice A st.reverse.length c, .int .i64 seen]]) (st.reverse.getD n default).A (st.reverse.getD n default).cs.length (st.reverse.getD n default).c 3 (flat celE (st.reverse.getD n default).cs) :=
  let ⟨_, hR⟩ := has_of_mem (List.mem_cons_of_mem _ (mem_rowsR hn))
  ⟨Ro.row (St.start ho) (.cons (.here _ _) (.nil _)) hR⟩
/-- Over, on a pyramid that is owned. -/
theorem overP (ho : Own (pyrH p A c st seen) w) (W H : Nat) (cs : List Cel) (hL : PyrL W H cs st.reverse) (b : Bx) :
    Does Tryz.prog 28 [.pointer (some ⟨p, 0, none⟩), .agg (bxE b).toArray] (pyrH p A c st seen) w
      (fun v S' => ∃ s2 : Int, v = .agg (celE (agg (bcB W H cs b) (sqL (st.reverse.length - 1) 0 0))).toArray ∧ S' = pyrH p A c st s2) := by
  have h := Does.frame (over_any p A c st.reverse seen b w (own_one ho) (pyr_levels ho) (pyr_rows ho) W H cs hL) ho
  refine h.mono ?_
  rintro v S' ⟨S1, rfl, s2, rfl, rfl⟩
  exact ⟨s2, rfl, rfl⟩
theorem sideP (ho : Own (pyrH p A c st seen) w) (W H : Nat) (cs : List Cel) (hL : PyrL W H cs st.reverse) :
    Does Tryz.prog 27 [.pointer (some ⟨p, 0, none⟩), .int .i64 0] (pyrH p A c st seen) w (fun v S' => v = .tuple #[.int .i64 W, .int .i64 H] ∧ S' = pyrH p A c st seen) := by
  have h := Does.frame (side_any p A c st.reverse seen W H w (own_one ho) (pyr_levels ho) hL.pos hL.base) ho
  refine h.mono ?_
  rintro v S' ⟨S1, rfl, rfl, rfl⟩
  exact ⟨rfl, rfl⟩
theorem onP (ho : Own (pyrH p A c st seen) w) (W H : Nat) (cs : List Cel) (hL : PyrL W H cs st.reverse) (x y : Int) :
    Does Tryz.prog 26 [.pointer (some ⟨p, 0, none⟩), .agg #[.int .i64 x, .int .i64 y]] (pyrH p A c st seen) w (fun v S' => v = .bool (onB W H x y) ∧ S' = pyrH p A c st seen) := by
  have h := Does.frame (on_any p A c st.reverse seen W H x y w (own_one ho) (pyr_levels ho) hL.pos hL.base (by have := hL.side 0 hL.pos; rw [hL.base.1, hL.base.2] at this; exact ⟨this.1, this.2.1⟩)) ho
  refine h.mono ?_
  rintro v S' ⟨S1, rfl, rfl, rfl⟩
  exact ⟨rfl, rfl⟩
end
end Go.Proofs.YtpmomimaihjmjaaGreat
