import Derived.ProofKit
import Derived.Deep.Slices
import Derived.Deep.Fields
import Derived.ChangeSame
import Derived.Lib.SmallJoins
import Derived.Carry
import Derived.Test.YtpmomimaihjmjaaGreatMG10
set_option linter.unusedVariables false
set_option linter.unusedSimpArgs false
/- Under, the plain law: by strips and boxes it is what it is by the corners of cells that the line touches. -/
namespace Go.Proofs.YtpmomimaihjmjaaGreat
open Go.RowKit
/-- What a cell says of heights. -/
def Hgt (S : Int → Prop) (c : Cel) : Prop := Prp c ∧ (c.n = 0 → ∀ v, ¬ S v) ∧ (0 < c.n → S c.lo ∧ S c.hi ∧ ∀ v, S v → c.lo ≤ v ∧ v ≤ c.hi)
theorem Hgt.none : Hgt (fun _ => False) ⟨0, 0, 0⟩ := ⟨prp_zero, fun _ _ h => h, fun h => by simp at h⟩
theorem Hgt.cong {S T : Int → Prop} {c : Cel} (h : Hgt S c) (hST : ∀ v, S v ↔ T v) : Hgt T c := by
  have : S = T := funext fun v => propext (hST v)
  subst this
  exact h
theorem Hgt.join {S T : Int → Prop} {a b : Cel} (ha : Hgt S a) (hb : Hgt T b) : Hgt (fun v => S v ∨ T v) (joinC a b) := by
  obtain ⟨pa, ha0, ha1⟩ := ha
  obtain ⟨pb, hb0, hb1⟩ := hb
  by_cases h1 : b.n = 0
  · rw [pb.2 h1, join_zero pa]
    exact ⟨pa, fun h v hv => hv.elim (ha0 h v) (hb0 h1 v), fun h => ⟨.inl (ha1 h).1, .inl (ha1 h).2.1, fun v hv => hv.elim ((ha1 h).2.2 v) (fun q => (hb0 h1 v q).elim)⟩⟩
  by_cases h2 : a.n = 0
  · rw [pa.2 h2, zero_join pb]
    exact ⟨pb, fun h v hv => hv.elim (ha0 h2 v) (hb0 h v), fun h => ⟨.inr (hb1 h).1, .inr (hb1 h).2.1, fun v hv => hv.elim (fun q => (ha0 h2 v q).elim) ((hb1 h).2.2 v)⟩⟩
  have hn := join_n pa pb
  have na := pa.1
  have nb := pb.1
  obtain ⟨a1, a2, a3⟩ := ha1 (by omega)
  obtain ⟨b1, b2, b3⟩ := hb1 (by omega)
  refine ⟨prp_join pa pb, fun h => by omega, fun _ => ?_⟩
  have e : joinC a b = ⟨min a.lo b.lo, max a.hi b.hi, a.n + b.n⟩ := by unfold joinC; rw [if_neg (by omega), if_neg h2]
  rw [e]
  refine ⟨?_, ?_, fun v hv => ?_⟩
  · rcases Int.le_total a.lo b.lo with h | h
    · rw [Int.min_eq_left h]; exact .inl a1
    · rw [Int.min_eq_right h]; exact .inr b1
  · rcases Int.le_total a.hi b.hi with h | h
    · rw [Int.max_eq_right h]; exact .inr b2
    · rw [Int.max_eq_left h]; exact .inl a2
  · rcases hv with hv | hv
    · have := a3 v hv; simp only; omega
    · have := b3 v hv; simp only; omega
theorem Hgt.agg {α : Type} {f : α → Cel} {S : α → Int → Prop} (h : ∀ x, Hgt (S x) (f x)) : ∀ l : List α, Hgt (fun v => ∃ x ∈ l, S x v) (agg f l)
  | [] => Hgt.none.cong fun v => by simp
  | x :: r => by
    refine ((h x).join (Hgt.agg h r)).cong fun v => ?_
    simp
def sumI {α : Type} (g : α → Int) : List α → Int
  | [] => 0
  | x :: r => g x + sumI g r
theorem agg_n {α : Type} {f : α → Cel} (h : ∀ x, Prp (f x)) : ∀ l : List α, (agg f l).n = sumI (fun x => (f x).n) l
  | [] => rfl
  | x :: r => by rw [agg, join_n (h x) (agg_prp h r), sumI, agg_n h r]
theorem sumI_app {α : Type} (g : α → Int) : ∀ l r : List α, sumI g (l ++ r) = sumI g l + sumI g r
  | [], r => by simp [sumI]
  | x :: l, r => by rw [List.cons_append, sumI, sumI, sumI_app g l r]; omega
theorem sumI_le {α : Type} {f g : α → Int} : ∀ {l : List α}, (∀ x ∈ l, f x ≤ g x) → sumI f l ≤ sumI g l
  | [], _ => Int.le_refl _
  | x :: r, h => by
    have h1 := h x (List.mem_cons_self ..)
    have h2 := sumI_le (l := r) fun y hy => h y (List.mem_cons_of_mem _ hy)
    simp only [sumI]; omega
theorem sumI_lt {α : Type} {f g : α → Int} : ∀ {l : List α}, (∀ x ∈ l, f x ≤ g x) → (sumI f l < sumI g l ↔ ∃ x ∈ l, f x < g x)
  | [], _ => by simp [sumI]
  | x :: r, h => by
    have h1 := h x (List.mem_cons_self ..)
    have hr := fun y hy => h y (List.mem_cons_of_mem x hy)
    have h2 := sumI_le (l := r) hr
    have h3 := sumI_lt (l := r) hr
    simp only [sumI, List.mem_cons, exists_eq_or_imp]
    rw [← h3]
    omega
def inN (b : Bx) (p : Nat × Nat) : Int := if b.x0 ≤ p.1 ∧ p.1 ≤ b.x1 ∧ b.y0 ≤ p.2 ∧ p.2 ≤ b.y1 then 1 else 0
def ovl (lo hi a s : Int) : Int := max 0 (min hi (a + s - 1) - max lo a + 1)
theorem ovl_two (lo hi a s : Int) (hs : 0 ≤ s) : ovl lo hi a (s + s) = ovl lo hi a s + ovl lo hi (a + s) s := by unfold ovl; omega
theorem ovl_one (lo hi a : Int) : ovl lo hi a 1 = if lo ≤ a ∧ a ≤ hi then 1 else 0 := by unfold ovl; split <;> omega
theorem sq_cnt (b : Bx) : ∀ n x y : Nat, sumI (inN b) (sqL n x y) = ovl b.x0 b.x1 ((x * 2 ^ n : Nat) : Int) ((2 ^ n : Nat) : Int) * ovl b.y0 b.y1 ((y * 2 ^ n : Nat) : Int) ((2 ^ n : Nat) : Int)
  | 0, x, y => by
    have e : ((2 ^ 0 : Nat) : Int) = 1 := rfl
    rw [e, ovl_one, ovl_one, sqL, sumI, sumI, inN]
    simp only [Nat.pow_zero, Nat.mul_one]
    by_cases h1 : b.x0 ≤ (x : Int) ∧ (x : Int) ≤ b.x1
    · by_cases h2 : b.y0 ≤ (y : Int) ∧ (y : Int) ≤ b.y1
      · rw [if_pos ⟨h1.1, h1.2, h2.1, h2.2⟩, if_pos h1, if_pos h2]; rfl
      · rw [if_neg (fun h => h2 h.2.2), if_pos h1, if_neg h2]; rfl
    · rw [if_neg (fun h => h1 ⟨h.1, h.2.1⟩), if_neg h1, Int.zero_mul]; rfl
  | n + 1, x, y => by
    have e1 : ((2 ^ (n + 1) : Nat) : Int) = ((2 ^ n : Nat) : Int) + ((2 ^ n : Nat) : Int) := by rw [← Int.natCast_add, Nat.pow_succ]; congr 1; omega
    have e2 : ∀ z : Nat, ((z * 2 ^ (n + 1) : Nat) : Int) = ((2 * z * 2 ^ n : Nat) : Int) := fun z => by rw [Nat.pow_succ, Nat.mul_comm 2 z, Nat.mul_assoc z 2, Nat.mul_comm 2]
    have e3 : ∀ z : Nat, (((2 * z + 1) * 2 ^ n : Nat) : Int) = ((2 * z * 2 ^ n : Nat) : Int) + ((2 ^ n : Nat) : Int) := fun z => by rw [Nat.add_mul, Nat.one_mul, Int.natCast_add]
    rw [e1, e2, e2, ovl_two _ _ _ _ (Int.natCast_nonneg _), ovl_two _ _ _ _ (Int.natCast_nonneg _), sqL, sumI_app, sumI_app, sumI_app, sq_cnt b n, sq_cnt b n, sq_cnt b n, sq_cnt b n, e3, e3, Int.add_mul, Int.mul_add, Int.mul_add]
    omega
/-- All places below one, and no others. -/
theorem sqL_all : ∀ (n x y : Nat) (p : Nat × Nat), x * 2 ^ n ≤ p.1 → p.1 < x * 2 ^ n + 2 ^ n → y * 2 ^ n ≤ p.2 → p.2 < y * 2 ^ n + 2 ^ n → p ∈ sqL n x y
  | 0, x, y, p, h1, h2, h3, h4 => by
    have : p = (x, y) := by
      rw [Nat.pow_zero] at *
      exact Prod.ext (by simp only; omega) (by simp only; omega)
    simp [sqL, this]
  | n + 1, x, y, p, h1, h2, h3, h4 => by
    have e1 : 2 ^ (n + 1) = 2 ^ n + 2 ^ n := by rw [Nat.pow_succ]; omega
    have e2 : ∀ z, z * 2 ^ (n + 1) = 2 * z * 2 ^ n := fun z => by rw [Nat.pow_succ, Nat.mul_comm 2 z, Nat.mul_assoc z 2, Nat.mul_comm 2]
    have e3 : ∀ z, (2 * z + 1) * 2 ^ n = 2 * z * 2 ^ n + 2 ^ n := fun z => by rw [Nat.add_mul, Nat.one_mul]
    rw [e2] at h1 h2 h3 h4
    rw [e1] at h2 h4
    simp only [sqL, List.mem_append]
    have ih := fun x y => sqL_all n x y p
    rcases Nat.lt_or_ge p.1 (2 * x * 2 ^ n + 2 ^ n) with a | a <;> rcases Nat.lt_or_ge p.2 (2 * y * 2 ^ n + 2 ^ n) with b | b
    · exact .inl (ih _ _ (by omega) (by omega) (by omega) (by omega))
    · exact .inr (.inr (.inl (ih _ _ (by omega) (by omega) (by rw [e3]; omega) (by rw [e3]; omega))))
    · exact .inr (.inl (ih _ _ (by rw [e3]; omega) (by rw [e3]; omega) (by omega) (by omega)))
    · exact .inr (.inr (.inr (ih _ _ (by rw [e3]; omega) (by rw [e3]; omega) (by rw [e3]; omega) (by rw [e3]; omega))))
theorem cellsN_get (z : List Int) : ∀ m i, i < m → (cellsN z m)[i]? = some (cellOf (z.getD i 0))
  | 0, i, h => by omega
  | m + 1, i, h => by
    rw [cellsN]
    by_cases h1 : i < m
    · rw [List.getElem?_append_left (by rw [cellsN_len]; exact h1)]; exact cellsN_get z m i h1
    · obtain rfl : i = m := by omega
      rw [List.getElem?_append_right (by rw [cellsN_len]; omega), cellsN_len, Nat.sub_self]; rfl
/-- The height at a column and a row. -/
def hat (W : Nat) (z : List Int) (x y : Nat) : Int := z.getD (y * W + x) 0
theorem bcF_at {W H : Nat} {z : List Int} (hl : z.length = W * H) (p : Nat × Nat) (hx : p.1 < W) (hy : p.2 < H) : bcF W H (cellsN z z.length) p = cellOf (hat W z p.1 p.2) := by
  unfold bcF atP hat
  have h1 : (p.2 + 1) * W ≤ H * W := Nat.mul_le_mul_right _ hy
  rw [Nat.add_mul, Nat.one_mul, Nat.mul_comm H] at h1
  have h2 : p.2 * W + p.1 < z.length := by omega
  rw [if_pos (by omega), List.getD_eq_getElem?_getD, show ((p.2 : Int) * (W : Int) + (p.1 : Int)).toNat = p.2 * W + p.1 by rw [← Int.natCast_mul, ← Int.natCast_add, Int.toNat_natCast], cellsN_get z _ _ h2]
  rfl
/-- The heights in a box. -/
def SB (W H : Nat) (z : List Int) (b : Bx) (v : Int) : Prop := ∃ x y : Nat, x < W ∧ y < H ∧ (b.x0 ≤ x ∧ x ≤ b.x1 ∧ b.y0 ≤ y ∧ y ≤ b.y1) ∧ v = hat W z x y ∧ v ≠ -32768
theorem hgt_cell (v : Int) : Hgt (fun u => u = v ∧ u ≠ -32768) (cellOf v) := by
  refine ⟨prp_cell v, ?_, ?_⟩ <;> unfold cellOf <;> split <;> simp_all <;> intros <;> omega
structure Fld (W H : Nat) (z : List Int) (top : Nat) : Prop where
  len : z.length = W * H
  w2 : 2 ≤ W ∧ W ≤ 256
  h2 : 2 ≤ H ∧ H ≤ 256
  up : W ≤ 2 ^ top ∧ H ≤ 2 ^ top
theorem over_hgt {W H : Nat} {z : List Int} {top : Nat} (hF : Fld W H z top) (b : Bx) : Hgt (SB W H z b) (agg (bcB W H (cellsN z z.length) b) (sqL top 0 0)) := by
  have hb : ∀ p : Nat × Nat, Hgt (fun v => (b.x0 ≤ p.1 ∧ p.1 ≤ b.x1 ∧ b.y0 ≤ p.2 ∧ p.2 ≤ b.y1) ∧ p.1 < W ∧ p.2 < H ∧ v = hat W z p.1 p.2 ∧ v ≠ -32768) (bcB W H (cellsN z z.length) b p) := fun p => by
    unfold bcB
    split
    · rename_i hin
      by_cases ho : p.1 < W ∧ p.2 < H
      · rw [bcF_at hF.len p ho.1 ho.2]
        refine (hgt_cell _).cong fun v => ?_
        exact ⟨fun h => ⟨hin, ho.1, ho.2, h.1, h.2⟩, fun h => ⟨h.2.2.2.1, h.2.2.2.2⟩⟩
      · rw [bcF_out (by omega)]
        exact Hgt.none.cong fun v => ⟨fun h => h.elim, fun h => ho ⟨h.2.1, h.2.2.1⟩⟩
    · rename_i hin
      exact Hgt.none.cong fun v => ⟨fun h => h.elim, fun h => hin h.1⟩
  refine (Hgt.agg hb _).cong fun v => ?_
  constructor
  · rintro ⟨p, _, h1, h2, h3, h4, h5⟩
    exact ⟨p.1, p.2, h2, h3, h1, h4, h5⟩
  · rintro ⟨x, y, h1, h2, h3, h4, h5⟩
    have := hF.up
    exact ⟨(x, y), sqL_all top 0 0 (x, y) (by simp) (by simp; omega) (by simp) (by simp; omega), h3, h1, h2, h4, h5⟩
/-- A box that lies on the field. -/
structure InF (W H : Nat) (b : Bx) : Prop where
  x : 0 ≤ b.x0 ∧ b.x0 ≤ b.x1 ∧ b.x1 ≤ (W : Int) - 1
  y : 0 ≤ b.y0 ∧ b.y0 ≤ b.y1 ∧ b.y1 ≤ (H : Int) - 1
theorem over_few {W H : Nat} {z : List Int} {top : Nat} (hF : Fld W H z top) {b : Bx} (hb : InF W H b) :
    (agg (bcB W H (cellsN z z.length) b) (sqL top 0 0)).n < (b.x1 - b.x0 + 1) * (b.y1 - b.y0 + 1) ↔ ∃ x y : Nat, x < W ∧ y < H ∧ (b.x0 ≤ x ∧ x ≤ b.x1 ∧ b.y0 ≤ y ∧ y ≤ b.y1) ∧ hat W z x y = -32768 := by
  have hx := hb.x
  have hy := hb.y
  have hu := hF.up
  have hu1 : (W : Int) ≤ ((2 ^ top : Nat) : Int) := Int.ofNat_le.2 hu.1
  have hu2 : (H : Int) ≤ ((2 ^ top : Nat) : Int) := Int.ofNat_le.2 hu.2
  have e : (b.x1 - b.x0 + 1) * (b.y1 - b.y0 + 1) = sumI (inN b) (sqL top 0 0) := by
    rw [sq_cnt]
    have e1 : ovl b.x0 b.x1 ((0 * 2 ^ top : Nat) : Int) ((2 ^ top : Nat) : Int) = b.x1 - b.x0 + 1 := by rw [Nat.zero_mul]; unfold ovl; generalize ((2 ^ top : Nat) : Int) = t at *; omega
    have e2 : ovl b.y0 b.y1 ((0 * 2 ^ top : Nat) : Int) ((2 ^ top : Nat) : Int) = b.y1 - b.y0 + 1 := by rw [Nat.zero_mul]; unfold ovl; generalize ((2 ^ top : Nat) : Int) = t at *; omega
    rw [e1, e2]
  have hpr := bcB_prp (w := W) (h := H) (cellsN_prp z z.length) b
  have hval : ∀ p : Nat × Nat, (b.x0 ≤ p.1 ∧ p.1 ≤ b.x1 ∧ b.y0 ≤ p.2 ∧ p.2 ≤ b.y1) → inN b p = 1 ∧ (bcB W H (cellsN z z.length) b p).n = if hat W z p.1 p.2 = -32768 then 0 else 1 := fun p hp => by
    refine ⟨if_pos hp, ?_⟩
    unfold bcB
    rw [if_pos hp, bcF_at hF.len p (by omega) (by omega)]
    unfold cellOf
    split <;> rfl
  have hout : ∀ p : Nat × Nat, ¬ (b.x0 ≤ p.1 ∧ p.1 ≤ b.x1 ∧ b.y0 ≤ p.2 ∧ p.2 ≤ b.y1) → inN b p = 0 ∧ (bcB W H (cellsN z z.length) b p).n = 0 := fun p hp => by
    refine ⟨if_neg hp, ?_⟩
    unfold bcB
    rw [if_neg hp]
  rw [e, agg_n hpr, sumI_lt (fun p _ => by
    by_cases hp : b.x0 ≤ p.1 ∧ p.1 ≤ b.x1 ∧ b.y0 ≤ p.2 ∧ p.2 ≤ b.y1
    · rw [(hval p hp).1, (hval p hp).2]; split <;> omega
    · rw [(hout p hp).1, (hout p hp).2]; exact Int.le_refl _)]
  constructor
  · rintro ⟨p, hp, hlt⟩
    by_cases hpb : b.x0 ≤ p.1 ∧ p.1 ≤ b.x1 ∧ b.y0 ≤ p.2 ∧ p.2 ≤ b.y1
    · rw [(hval p hpb).1, (hval p hpb).2] at hlt
      refine ⟨p.1, p.2, by omega, by omega, hpb, ?_⟩
      by_cases hv : hat W z p.1 p.2 = -32768
      · exact hv
      · rw [if_neg hv] at hlt; omega
    · rw [(hout p hpb).1, (hout p hpb).2] at hlt; omega
  · rintro ⟨x, y, h1, h2, h3, h4⟩
    refine ⟨(x, y), sqL_all top 0 0 (x, y) (by simp) (by simp; omega) (by simp) (by simp; omega), ?_⟩
    rw [(hval (x, y) h3).1, (hval (x, y) h3).2, if_pos h4]
    omega
def boxS (W H : Nat) (s : Int × Int × Int) : Bx := ⟨max s.2.1 0, max s.1 0, min (s.2.2 + 1) ((W : Int) - 1), min (s.1 + 1) ((H : Int) - 1)⟩
def ovC (W H : Nat) (cs : List Cel) (top : Nat) (b : Bx) : Cel := agg (bcB W H cs b) (sqL top 0 0)
def voidS (W H : Nat) (cs : List Cel) (top : Nat) (s : Int × Int × Int) : Prop := (ovC W H cs top (boxS W H s)).n < ((boxS W H s).x1 - (boxS W H s).x0 + 1) * ((boxS W H s).y1 - (boxS W H s).y0 + 1)
def upTo (W H : Nat) (cs : List Cel) (top : Nat) (L : List (Int × Int × Int)) : Nat → Cel
  | 0 => ⟨0, 0, 0⟩
  | i + 1 => joinC (upTo W H cs top L i) (ovC W H cs top (boxS W H (L.getD i default)))
def onP37 (W H : Nat) (x y : Int) : Prop := 0 ≤ x ∧ 0 ≤ y ∧ x ≤ 256 * ((W : Int) - 1) ∧ y ≤ 256 * ((H : Int) - 1)
/-- Of a line on the field: what a strip is. -/
theorem row_fact {ax ay bx by_ : Int} (hl : Line37 ax ay bx by_) (i : Nat) (hi : i < (rowsL ax ay bx by_).length) :
    ((rowsL ax ay bx by_).getD i default).2.1 ≤ ((rowsL ax ay bx by_).getD i default).2.2 ∧ (cdiv (min ay by_) 256 - 1 ≤ ((rowsL ax ay bx by_).getD i default).1 ∧ ((rowsL ax ay bx by_).getD i default).1 ≤ max ay by_ / 256) ∧
    ∀ x : Int, touP ax ay bx by_ x ((rowsL ax ay bx by_).getD i default).1 ↔ ((rowsL ax ay bx by_).getD i default).2.1 ≤ x ∧ x ≤ ((rowsL ax ay bx by_).getD i default).2.2 := by
  have hge := nonneg_rows (a := min ay by_) (b := max ay by_) (by omega)
  have hlen : (rowsL ax ay bx by_).length = rowsN ay by_ := by unfold rowsL; rw [if_pos hl, List.length_map, List.length_range]
  have hg : (rowsL ax ay bx by_).getD i default = rowAt37 ax ay bx by_ i := by
    unfold rowsL
    rw [if_pos hl, List.getD_eq_getElem?_getD, List.getElem?_map, List.getElem?_range (by omega)]
    rfl
  rw [hg]
  have hk : i < rowsN ay by_ := by omega
  unfold rowsN at hk
  unfold rowAt37
  simp only
  split
  · rename_i h
    rw [Int.min_eq_left h, Int.max_eq_right h] at *
    exact ⟨strip_le _ _ _ _ _ h, by omega, fun x => strip_iff h (by omega) (by omega)⟩
  · rename_i h
    have h' : by_ ≤ ay := by omega
    rw [Int.min_eq_right h', Int.max_eq_left h'] at *
    exact ⟨strip_le _ _ _ _ _ h', by omega, fun x => (tou_swap bx by_ ax ay x _).symm.symm.trans (strip_iff h' (by omega) (by omega))⟩
theorem row_ex {ax ay bx by_ : Int} (hl : Line37 ax ay bx by_) {x k : Int} (ht : touP ax ay bx by_ x k) : ∃ i, i < (rowsL ax ay bx by_).length ∧ ((rowsL ax ay bx by_).getD i default).1 = k := by
  have hr : cdiv (min ay by_) 256 - 1 ≤ k ∧ k ≤ max ay by_ / 256 := by
    rcases Int.le_total ay by_ with h | h
    · rw [Int.min_eq_left h, Int.max_eq_right h]; exact tou_row ht h
    · rw [Int.min_eq_right h, Int.max_eq_left h]; exact tou_row ((tou_swap ax ay bx by_ x k).2 ht) h
  have hlen : (rowsL ax ay bx by_).length = rowsN ay by_ := by unfold rowsL; rw [if_pos hl, List.length_map, List.length_range]
  have hi : (k - (cdiv (min ay by_) 256 - 1)).toNat < rowsN ay by_ := by unfold rowsN; omega
  refine ⟨(k - (cdiv (min ay by_) 256 - 1)).toNat, by omega, ?_⟩
  unfold rowsL
  rw [if_pos hl, List.getD_eq_getElem?_getD, List.getElem?_map, List.getElem?_range hi]
  show (rowAt37 ax ay bx by_ _).1 = k
  unfold rowAt37
  simp only
  omega
theorem box_in {W H : Nat} {ax ay bx by_ : Int} (hl : Line37 ax ay bx by_) (hW : 2 ≤ W) (hH : 2 ≤ H) (ha : onP37 W H ax ay) (hb : onP37 W H bx by_) (i : Nat) (hi : i < (rowsL ax ay bx by_).length) : InF W H (boxS W H ((rowsL ax ay bx by_).getD i default)) := by
  obtain ⟨h1, h2, h3⟩ := row_fact hl i hi
  generalize (rowsL ax ay bx by_).getD i default = s at *
  have t1 := (h3 s.2.1).2 ⟨Int.le_refl _, h1⟩
  have t2 := (h3 s.2.2).2 ⟨h1, Int.le_refl _⟩
  obtain ⟨⟨t1a, t1b⟩, ⟨t1c, t1d⟩, -⟩ := t1
  obtain ⟨⟨t2a, t2b⟩, -, -⟩ := t2
  obtain ⟨a1, a2, a3, a4⟩ := ha
  obtain ⟨b1, b2, b3, b4⟩ := hb
  constructor
  · show 0 ≤ max s.2.1 0 ∧ max s.2.1 0 ≤ min (s.2.2 + 1) ((W : Int) - 1) ∧ min (s.2.2 + 1) ((W : Int) - 1) ≤ (W : Int) - 1
    omega
  · show 0 ≤ max s.1 0 ∧ max s.1 0 ≤ min (s.1 + 1) ((H : Int) - 1) ∧ min (s.1 + 1) ((H : Int) - 1) ≤ (H : Int) - 1
    omega
/-- A corner of a cell that is touched. -/
def corP (ax ay bx by_ x y : Int) : Prop := touP ax ay bx by_ x y ∨ touP ax ay bx by_ (x - 1) y ∨ touP ax ay bx by_ x (y - 1) ∨ touP ax ay bx by_ (x - 1) (y - 1)
theorem cor_iff {W H : Nat} {ax ay bx by_ : Int} (hl : Line37 ax ay bx by_) (x y : Nat) (hx : x < W) (hy : y < H) :
    corP ax ay bx by_ x y ↔ ∃ i, i < (rowsL ax ay bx by_).length ∧ (boxS W H ((rowsL ax ay bx by_).getD i default)).x0 ≤ x ∧ (x : Int) ≤ (boxS W H ((rowsL ax ay bx by_).getD i default)).x1 ∧ (boxS W H ((rowsL ax ay bx by_).getD i default)).y0 ≤ y ∧ (y : Int) ≤ (boxS W H ((rowsL ax ay bx by_).getD i default)).y1 := by
  have key : corP ax ay bx by_ x y ↔ ∃ a k : Int, touP ax ay bx by_ a k ∧ a ≤ x ∧ (x : Int) ≤ a + 1 ∧ k ≤ y ∧ (y : Int) ≤ k + 1 := by
    constructor
    · rintro (h | h | h | h)
      · exact ⟨_, _, h, by omega, by omega, by omega, by omega⟩
      · exact ⟨_, _, h, by omega, by omega, by omega, by omega⟩
      · exact ⟨_, _, h, by omega, by omega, by omega, by omega⟩
      · exact ⟨_, _, h, by omega, by omega, by omega, by omega⟩
    · rintro ⟨a, k, h, h1, h2, h3, h4⟩
      have ea : a = x ∨ a = x - 1 := by omega
      have ek : k = y ∨ k = y - 1 := by omega
      unfold corP
      rcases ea with rfl | rfl <;> rcases ek with rfl | rfl <;> simp [h]
  rw [key]
  constructor
  · rintro ⟨a, k, h, h1, h2, h3, h4⟩
    obtain ⟨i, hi, hk⟩ := row_ex hl h
    obtain ⟨g1, g2, g3⟩ := row_fact hl i hi
    refine ⟨i, hi, ?_⟩
    generalize (rowsL ax ay bx by_).getD i default = s at *
    subst hk
    have g4 := (g3 a).1 h
    show max s.2.1 0 ≤ (x : Int) ∧ (x : Int) ≤ min (s.2.2 + 1) ((W : Int) - 1) ∧ max s.1 0 ≤ (y : Int) ∧ (y : Int) ≤ min (s.1 + 1) ((H : Int) - 1)
    omega
  · rintro ⟨i, hi, h⟩
    obtain ⟨g1, g2, g3⟩ := row_fact hl i hi
    generalize (rowsL ax ay bx by_).getD i default = s at *
    have h' : max s.2.1 0 ≤ (x : Int) ∧ (x : Int) ≤ min (s.2.2 + 1) ((W : Int) - 1) ∧ max s.1 0 ≤ (y : Int) ∧ (y : Int) ≤ min (s.1 + 1) ((H : Int) - 1) := h
    exact ⟨min (x : Int) s.2.2, s.1, (g3 _).2 (by omega), by omega, by omega, by omega, by omega⟩
theorem upTo_hgt {W H : Nat} {z : List Int} {top : Nat} (hF : Fld W H z top) (L : List (Int × Int × Int)) : ∀ n, Hgt (fun v => ∃ i, i < n ∧ SB W H z (boxS W H (L.getD i default)) v) (upTo W H (cellsN z z.length) top L n)
  | 0 => Hgt.none.cong fun v => ⟨fun h => h.elim, fun ⟨i, h, _⟩ => by omega⟩
  | n + 1 => by
    refine ((upTo_hgt hF L n).join (over_hgt hF (boxS W H (L.getD n default)))).cong fun v => ?_
    constructor
    · rintro (⟨i, h1, h2⟩ | h)
      · exact ⟨i, by omega, h2⟩
      · exact ⟨n, by omega, h⟩
    · rintro ⟨i, h1, h2⟩
      rcases Nat.lt_or_ge i n with h | h
      · exact .inl ⟨i, h, h2⟩
      · obtain rfl : i = n := by omega
        exact .inr h2
/-- Is a height one at a corner of a cell that is touched? -/
def corI (W : Nat) (ax ay bx by_ : Int) (i : Nat) : Prop := corP ax ay bx by_ ((i % W : Nat) : Int) ((i / W : Nat) : Int)
theorem idx_xy {W H i : Nat} (hW : 0 < W) (h : i < W * H) : i % W < W ∧ i / W < H ∧ (i / W) * W + i % W = i := by
  refine ⟨Nat.mod_lt _ hW, Nat.div_lt_of_lt_mul h, ?_⟩
  rw [Nat.mul_comm]
  exact Nat.div_add_mod i W
theorem xy_idx {W H x y : Nat} (hx : x < W) (hy : y < H) : y * W + x < W * H ∧ (y * W + x) % W = x ∧ (y * W + x) / W = y := by
  have h1 : (y + 1) * W ≤ H * W := Nat.mul_le_mul_right _ hy
  rw [Nat.add_mul, Nat.one_mul, Nat.mul_comm H] at h1
  refine ⟨by omega, ?_, ?_⟩
  · rw [Nat.mul_comm, Nat.mul_add_mod, Nat.mod_eq_of_lt hx]
  · rw [Nat.mul_comm, Nat.mul_add_div (by omega), Nat.div_eq_of_lt hx]; omega
/-- Where a height at a corner is missing, a strip has too few, and where none is missing, none has. -/
theorem void_iff {W H : Nat} {z : List Int} {top : Nat} (hF : Fld W H z top) {ax ay bx by_ : Int} (hl : Line37 ax ay bx by_) (ha : onP37 W H ax ay) (hb : onP37 W H bx by_) :
    (∃ i, i < (rowsL ax ay bx by_).length ∧ voidS W H (cellsN z z.length) top ((rowsL ax ay bx by_).getD i default)) ↔ ∃ i, i < z.length ∧ corI W ax ay bx by_ i ∧ z.getD i 0 = -32768 := by
  have hw := hF.w2.1
  have hh := hF.h2.1
  constructor
  · rintro ⟨i, hi, hv⟩
    obtain ⟨x, y, h1, h2, h3, h4⟩ := (over_few hF (box_in hl hw hh ha hb i hi)).1 hv
    obtain ⟨q1, q2, q3⟩ := xy_idx h1 h2
    refine ⟨y * W + x, by rw [hF.len]; exact q1, ?_, h4⟩
    unfold corI
    rw [q2, q3]
    exact (cor_iff hl x y h1 h2).2 ⟨i, hi, h3⟩
  · rintro ⟨i, hi, hc, hv⟩
    rw [hF.len] at hi
    obtain ⟨q1, q2, q3⟩ := idx_xy (by omega) hi
    obtain ⟨j, hj, hbx⟩ := (cor_iff (W := W) (H := H) hl _ _ q1 q2).1 hc
    exact ⟨j, hj, (over_few hF (box_in hl hw hh ha hb j hj)).2 ⟨_, _, q1, q2, hbx, by unfold hat; rw [q3]; exact hv⟩⟩
/-- The least, and the greatest, of the heights at corners, one by one. -/
def loTo (W : Nat) (z : List Int) (ax ay bx by_ : Int) [∀ i, Decidable (corI W ax ay bx by_ i)] : Nat → Int
  | 0 => 32767
  | i + 1 => if corI W ax ay bx by_ i then min (loTo W z ax ay bx by_ i) (z.getD i 0) else loTo W z ax ay bx by_ i
def hiTo (W : Nat) (z : List Int) (ax ay bx by_ : Int) [∀ i, Decidable (corI W ax ay bx by_ i)] : Nat → Int
  | 0 => -32768
  | i + 1 => if corI W ax ay bx by_ i then max (hiTo W z ax ay bx by_ i) (z.getD i 0) else hiTo W z ax ay bx by_ i
instance (W : Nat) (ax ay bx by_ : Int) (i : Nat) : Decidable (corI W ax ay bx by_ i) := by unfold corI corP; infer_instance
section
variable {W : Nat} {z : List Int} {ax ay bx by_ : Int}
theorem loTo_le : ∀ n i, i < n → corI W ax ay bx by_ i → loTo W z ax ay bx by_ n ≤ z.getD i 0
  | 0, i, h, _ => by omega
  | n + 1, i, h, hc => by
    rw [loTo]
    rcases Nat.lt_or_ge i n with h1 | h1
    · have := loTo_le n i h1 hc
      split <;> omega
    · obtain rfl : i = n := by omega
      rw [if_pos hc]; omega
theorem hiTo_ge : ∀ n i, i < n → corI W ax ay bx by_ i → z.getD i 0 ≤ hiTo W z ax ay bx by_ n
  | 0, i, h, _ => by omega
  | n + 1, i, h, hc => by
    rw [hiTo]
    rcases Nat.lt_or_ge i n with h1 | h1
    · have := hiTo_ge n i h1 hc
      split <;> omega
    · obtain rfl : i = n := by omega
      rw [if_pos hc]; omega
theorem loTo_ex : ∀ n, loTo W z ax ay bx by_ n = 32767 ∨ ∃ i, i < n ∧ corI W ax ay bx by_ i ∧ loTo W z ax ay bx by_ n = z.getD i 0
  | 0 => .inl rfl
  | n + 1 => by
    rw [loTo]
    have ih := loTo_ex n
    split
    · rename_i hc
      rcases Int.le_total (loTo W z ax ay bx by_ n) (z.getD n 0) with h | h
      · rw [Int.min_eq_left h]
        rcases ih with e | ⟨i, h1, h2⟩
        · exact .inl e
        · exact .inr ⟨i, by omega, h2⟩
      · rw [Int.min_eq_right h]
        exact .inr ⟨n, by omega, hc, rfl⟩
    · rcases ih with e | ⟨i, h1, h2⟩
      · exact .inl e
      · exact .inr ⟨i, by omega, h2⟩
theorem hiTo_ex : ∀ n, hiTo W z ax ay bx by_ n = -32768 ∨ ∃ i, i < n ∧ corI W ax ay bx by_ i ∧ hiTo W z ax ay bx by_ n = z.getD i 0
  | 0 => .inl rfl
  | n + 1 => by
    rw [hiTo]
    have ih := hiTo_ex n
    split
    · rename_i hc
      rcases Int.le_total (z.getD n 0) (hiTo W z ax ay bx by_ n) with h | h
      · rw [Int.max_eq_left h]
        rcases ih with e | ⟨i, h1, h2⟩
        · exact .inl e
        · exact .inr ⟨i, by omega, h2⟩
      · rw [Int.max_eq_right h]
        exact .inr ⟨n, by omega, hc, rfl⟩
    · rcases ih with e | ⟨i, h1, h2⟩
      · exact .inl e
      · exact .inr ⟨i, by omega, h2⟩
end
/-- By strips it is what it is by corners. -/
theorem under_same {W H : Nat} {z : List Int} {top : Nat} (hF : Fld W H z top) (hz : ∀ v ∈ z, InR .i16 v) {ax ay bx by_ : Int} (hl : Line37 ax ay bx by_) (ha : onP37 W H ax ay) (hb : onP37 W H bx by_)
    (hv : ¬ ∃ i, i < z.length ∧ corI W ax ay bx by_ i ∧ z.getD i 0 = -32768) :
    (upTo W H (cellsN z z.length) top (rowsL ax ay bx by_) (rowsL ax ay bx by_).length).lo = loTo W z ax ay bx by_ z.length ∧ (upTo W H (cellsN z z.length) top (rowsL ax ay bx by_) (rowsL ax ay bx by_).length).hi = hiTo W z ax ay bx by_ z.length := by
  have hw := hF.w2.1
  have hh := hF.h2.1
  have hS : ∀ v, (∃ i, i < (rowsL ax ay bx by_).length ∧ SB W H z (boxS W H ((rowsL ax ay bx by_).getD i default)) v) ↔ ∃ i, i < z.length ∧ corI W ax ay bx by_ i ∧ v = z.getD i 0 := by
    intro v
    constructor
    · rintro ⟨i, hi, x, y, h1, h2, h3, h4, -⟩
      obtain ⟨q1, q2, q3⟩ := xy_idx h1 h2
      refine ⟨y * W + x, by rw [hF.len]; exact q1, ?_, h4⟩
      unfold corI
      rw [q2, q3]
      exact (cor_iff hl x y h1 h2).2 ⟨i, hi, h3⟩
    · rintro ⟨i, hi, hc, rfl⟩
      have hi' := hi
      rw [hF.len] at hi
      obtain ⟨q1, q2, q3⟩ := idx_xy (by omega) hi
      obtain ⟨j, hj, hbx⟩ := (cor_iff (W := W) (H := H) hl _ _ q1 q2).1 hc
      exact ⟨j, hj, _, _, q1, q2, hbx, by unfold hat; rw [q3], fun h => hv ⟨i, hi', hc, h⟩⟩
  have hg := (upTo_hgt hF (rowsL ax ay bx by_) (rowsL ax ay bx by_).length).cong hS
  generalize upTo W H (cellsN z z.length) top (rowsL ax ay bx by_) (rowsL ax ay bx by_).length = c at hg ⊢
  have hne : ∃ v, ∃ i, i < z.length ∧ corI W ax ay bx by_ i ∧ v = z.getD i 0 := by
    have hge := nonneg_rows (a := min ay by_) (b := max ay by_) (by omega)
    have hlen : (rowsL ax ay bx by_).length = rowsN ay by_ := by unfold rowsL; rw [if_pos hl, List.length_map, List.length_range]
    have h0 : 0 < (rowsL ax ay bx by_).length := by rw [hlen]; unfold rowsN; omega
    have hbx := box_in hl hw hh ha hb 0 h0
    have gx := hbx.x
    have gy := hbx.y
    obtain ⟨x, hx⟩ := Int.eq_ofNat_of_zero_le gx.1
    obtain ⟨y, hy⟩ := Int.eq_ofNat_of_zero_le gy.1
    have h1 : x < W := by omega
    have h2 : y < H := by omega
    obtain ⟨q1, q2, q3⟩ := xy_idx h1 h2
    refine ⟨_, y * W + x, by rw [hF.len]; exact q1, ?_, rfl⟩
    unfold corI
    rw [q2, q3]
    exact (cor_iff hl x y h1 h2).2 ⟨0, h0, by omega, by omega, by omega, by omega⟩
  obtain ⟨hp, hg0, hg1⟩ := hg
  have hn : 0 < c.n := by
    have := hp.1
    by_cases h : c.n = 0
    · obtain ⟨v, hv⟩ := hne
      exact (hg0 h v hv).elim
    · omega
  obtain ⟨⟨il, il1, il2, il3⟩, ⟨ih, ih1, ih2, ih3⟩, hall⟩ := hg1 hn
  have hzr : ∀ i, i < z.length → -32768 ≤ z.getD i 0 ∧ z.getD i 0 ≤ 32767 := fun i hi => by
    rw [List.getD_eq_getElem?_getD, List.getElem?_eq_getElem hi]
    exact hz _ (List.getElem_mem ..)
  constructor
  · have h1 := loTo_le (z := z) z.length il il1 il2
    rcases loTo_ex (W := W) (z := z) (ax := ax) (ay := ay) (bx := bx) (by_ := by_) z.length with e | ⟨i, i1, i2, i3⟩
    · have := hzr il il1; omega
    · have := (hall _ ⟨i, i1, i2, rfl⟩).1
      omega
  · have h1 := hiTo_ge (z := z) z.length ih ih1 ih2
    rcases hiTo_ex (W := W) (z := z) (ax := ax) (ay := ay) (bx := bx) (by_ := by_) z.length with e | ⟨i, i1, i2, i3⟩
    · have := hzr ih ih1; omega
    · have := (hall _ ⟨i, i1, i2, rfl⟩).2
      omega
end Go.Proofs.YtpmomimaihjmjaaGreat
/- Lines, the plain law: rows one behind the other; there and back. -/
namespace Go.Proofs.YtpmomimaihjmjaaGreat
open Go.RowKit
theorem rows_len {ax ay bx by_ : Int} (hl : Line37 ax ay bx by_) : (rowsL ax ay bx by_).length = rowsN ay by_ ∧ 0 < rowsN ay by_ ∧ (rowsN ay by_ : Int) = max ay by_ / 256 - (cdiv (min ay by_) 256 - 1) + 1 := by
  have hge := nonneg_rows (a := min ay by_) (b := max ay by_) (by omega)
  exact ⟨by unfold rowsL; rw [if_pos hl, List.length_map, List.length_range], by unfold rowsN; omega, by unfold rowsN; omega⟩
theorem rows_y {ax ay bx by_ : Int} (hl : Line37 ax ay bx by_) (i : Nat) (hi : i < (rowsL ax ay bx by_).length) : ((rowsL ax ay bx by_).getD i default).1 = cdiv (min ay by_) 256 - 1 + i := by
  rw [(rows_len hl).1] at hi
  unfold rowsL
  rw [if_pos hl, List.getD_eq_getElem?_getD, List.getElem?_map, List.getElem?_range hi]
  rfl
theorem line_sym {ax ay bx by_ : Int} : Line37 bx by_ ax ay ↔ Line37 ax ay bx by_ := by unfold Line37; omega
theorem chk_sym (ax ay bx by_ : Int) : chk37 bx by_ ax ay = chk37 ax ay bx by_ := by
  unfold chk37
  by_cases h : Line37 ax ay bx by_
  · rw [if_pos h, if_pos (line_sym.2 h)]
  · rw [if_neg h, if_neg (fun q => h (line_sym.1 q))]
theorem len_sym (ax ay bx by_ : Int) : lenF bx by_ ax ay = lenF ax ay bx by_ := by
  unfold lenF
  have e1 : (ax - bx) * (ax - bx) = (bx - ax) * (bx - ax) := by grind
  have e2 : (ay - by_) * (ay - by_) = (by_ - ay) * (by_ - ay) := by grind
  by_cases h : Line37 ax ay bx by_
  · rw [if_pos h, if_pos (line_sym.2 h), e1, e2]
  · rw [if_neg h, if_neg (fun q => h (line_sym.1 q))]
theorem rows_sym (ax ay bx by_ : Int) : rowsL bx by_ ax ay = rowsL ax ay bx by_ := by
  unfold rowsL
  by_cases h : Line37 ax ay bx by_
  · rw [if_pos h, if_pos (line_sym.2 h)]
    have en : rowsN by_ ay = rowsN ay by_ := by unfold rowsN; rw [Int.max_comm, Int.min_comm]
    rw [en]
    refine List.map_congr_left fun i _ => ?_
    unfold rowAt37
    rw [Int.min_comm by_ ay]
    congr 1
    rcases Int.lt_trichotomy ay by_ with h1 | h1 | h1
    · rw [if_neg (by omega), if_pos (by omega)]
    · subst h1
      rw [if_pos (Int.le_refl _), if_pos (Int.le_refl _)]
      unfold stripF
      rw [if_pos (by omega), if_pos (by omega), Int.min_comm, Int.max_comm]
    · rw [if_pos (by omega), if_neg (by omega)]
  · rw [if_neg h, if_neg (fun q => h (line_sym.1 q))]
theorem tou_bnd {ax ay bx by_ x y : Int} (hl : Line37 ax ay bx by_) (h : touP ax ay bx by_ x y) : (-600 ≤ x ∧ x ≤ 600) ∧ (-600 ≤ y ∧ y ≤ 600) := by
  obtain ⟨⟨a, b⟩, ⟨c, d⟩, -⟩ := h
  unfold Line37 at hl
  omega
theorem strip_bnd {ax ay bx by_ : Int} (hl : Line37 ax ay bx by_) (i : Nat) (hi : i < (rowsL ax ay bx by_).length) :
    (-600 ≤ ((rowsL ax ay bx by_).getD i default).1 ∧ ((rowsL ax ay bx by_).getD i default).1 ≤ 600) ∧ (-600 ≤ ((rowsL ax ay bx by_).getD i default).2.1 ∧ ((rowsL ax ay bx by_).getD i default).2.1 ≤ 600) ∧ (-600 ≤ ((rowsL ax ay bx by_).getD i default).2.2 ∧ ((rowsL ax ay bx by_).getD i default).2.2 ≤ 600) := by
  obtain ⟨h1, h2, h3⟩ := row_fact hl i hi
  have t1 := tou_bnd hl ((h3 _).2 ⟨Int.le_refl _, h1⟩)
  have t2 := tou_bnd hl ((h3 _).2 ⟨h1, Int.le_refl _⟩)
  exact ⟨t1.2, t1.1, t2.1⟩
theorem tell_tou {ax ay bx by_ : Int} (hl : Line37 ax ay bx by_) (x y : Int) : rowTell (rowsL ax ay bx by_) x y = touB ax ay bx by_ x y := by
  by_cases he : ∃ i, i < (rowsL ax ay bx by_).length ∧ ((rowsL ax ay bx by_).getD i default).1 = y
  · obtain ⟨i, hi, hy⟩ := he
    rw [tell_some hi hy (fun j hj => by have := rows_y hl i hi; have := rows_y hl j (by omega); omega)]
    have h3 := (row_fact hl i hi).2.2 x
    rw [hy] at h3
    unfold touB
    rw [Bool.eq_iff_iff, decide_eq_true_iff, h3]
    simp
  · rw [tell_none (fun i hi hy => he ⟨i, hi, hy⟩)]
    unfold touB
    rw [eq_comm, decide_eq_false_iff_not]
    exact fun h => he (row_ex hl h)
theorem tell_off {ax ay bx by_ : Int} (hl : ¬ Line37 ax ay bx by_) (x y : Int) : rowTell (rowsL ax ay bx by_) x y = false := by
  have : rowsL ax ay bx by_ = [] := if_neg hl
  rw [this]
  rfl
/-- What is told of a place by its strip, and by the line. -/
def wantB (ax ay bx by_ x y : Int) : Bool := decide (Line37 ax ay bx by_ ∧ touP ax ay bx by_ x y)
theorem tell_want (ax ay bx by_ x y : Int) : rowTell (rowsL ax ay bx by_) x y = wantB ax ay bx by_ x y := by
  unfold wantB
  by_cases hl : Line37 ax ay bx by_
  · rw [tell_tou hl]; unfold touB; simp [hl]
  · rw [tell_off hl]; simp [hl]
end Go.Proofs.YtpmomimaihjmjaaGreat
/- Package ray: Under. -/
namespace Go.Proofs.YtpmomimaihjmjaaGreat
open Go.RowKit
theorem onB_iff (W H : Nat) (x y : Int) : onB W H x y = true ↔ onP37 W H x y := by unfold onB onP37; simp
def vdB (W : Nat) (z : List Int) (ax ay bx by_ : Int) : Bool := (List.range z.length).any fun i => decide (corI W ax ay bx by_ i) && z.getD i 0 == -32768
theorem vdB_iff (W : Nat) (z : List Int) (ax ay bx by_ : Int) : vdB W z ax ay bx by_ = true ↔ ∃ i, i < z.length ∧ corI W ax ay bx by_ i ∧ z.getD i 0 = -32768 := by
  unfold vdB
  simp [List.any_eq_true]
/-- What Under tells. -/
def unF (W H : Nat) (z : List Int) (ax ay bx by_ : Int) : Int × Int × Int :=
  if ¬ Line37 ax ay bx by_ then (0, 0, 2) else if (onB W H ax ay && onB W H bx by_) = false then (0, 0, 9) else if vdB W z ax ay bx by_ = true then (0, 0, 8) else
    (loTo W z ax ay bx by_ z.length, hiTo W z ax ay bx by_ z.length, 0)
section
variable {P : Program} {N : Nat} {w0 : World} {σ : List (Nat × Value)} {H : List HE} {n : Nat}
/-- Out, with marks ahead of what else there is. -/
theorem j_outMT {fn : Func} {rs : List ResultVar} {Ds : List Nat} {S' S S2 : List HE} {Rl : Value → List HE → Prop} [hres : FRes fn rs] (hs : Sub (marksH Ds ++ S2) H) (hs2 : Sub S' S2) (h : ResK P w0 (blocks S) S2 σ rs fun vs => Rl (retV vs) S') : J N (marks Ds) w0 (blocks S) σ H (bodyPostM Fence.wide n P fn (Post S w0 Rl) .ret) := fun a w ha hw =>
  j_outMS (H := S2 ++ marksH Ds) (Sub.refl _) hs2 h a w ha ((hw.sub hs).perm List.perm_append_comm)
end
theorem Sub.in3 {a b c : HE} {S R : List HE} (h : Sub S R) : Sub (a :: b :: c :: S) (a :: b :: c :: R) := .cons (.here _ _) (.cons (.here _ _) (.cons (.here _ _) h))
theorem Sub.skip3 (a b c : HE) {S R : List HE} (h : Sub S R) : Sub S (a :: b :: c :: R) := ((h.skip c).skip b).skip a
/-- A box on the field has no more heights than places. -/
theorem over_le {W H : Nat} {z : List Int} {top : Nat} (hF : Fld W H z top) {b : Bx} (hb : InF W H b) : Prp (ovC W H (cellsN z z.length) top b) ∧ (ovC W H (cellsN z z.length) top b).n ≤ (b.x1 - b.x0 + 1) * (b.y1 - b.y0 + 1) := by
  have hx := hb.x
  have hy := hb.y
  have hu := hF.up
  have hu1 : (W : Int) ≤ ((2 ^ top : Nat) : Int) := Int.ofNat_le.2 hu.1
  have hu2 : (H : Int) ≤ ((2 ^ top : Nat) : Int) := Int.ofNat_le.2 hu.2
  have e : (b.x1 - b.x0 + 1) * (b.y1 - b.y0 + 1) = sumI (inN b) (sqL top 0 0) := by
    rw [sq_cnt]
    have e1 : ovl b.x0 b.x1 ((0 * 2 ^ top : Nat) : Int) ((2 ^ top : Nat) : Int) = b.x1 - b.x0 + 1 := by rw [Nat.zero_mul]; unfold ovl; generalize ((2 ^ top : Nat) : Int) = t at *; omega
    have e2 : ovl b.y0 b.y1 ((0 * 2 ^ top : Nat) : Int) ((2 ^ top : Nat) : Int) = b.y1 - b.y0 + 1 := by rw [Nat.zero_mul]; unfold ovl; generalize ((2 ^ top : Nat) : Int) = t at *; omega
    rw [e1, e2]
  have hpr := bcB_prp (w := W) (h := H) (cellsN_prp z z.length) b
  refine ⟨agg_prp hpr _, ?_⟩
  unfold ovC
  rw [e, agg_n hpr]
  refine sumI_le fun p _ => ?_
  unfold inN bcB
  by_cases hp : b.x0 ≤ p.1 ∧ p.1 ≤ b.x1 ∧ b.y0 ≤ p.2 ∧ p.2 ≤ b.y1
  · rw [if_pos hp, if_pos hp, bcF_at hF.len p (by omega) (by omega)]
    unfold cellOf
    split
    · show (0 : Int) ≤ 1; omega
    · exact Int.le_refl _
  · rw [if_neg hp, if_neg hp]; exact Int.le_refl _
/-- What a strip of a line on the field is. -/
theorem strip_ok {W H : Nat} {z : List Int} {top : Nat} (hF : Fld W H z top) {ax ay bx by_ : Int} (hl : Line37 ax ay bx by_) (ha : onP37 W H ax ay) (hb : onP37 W H bx by_) (i : Nat) (hi : i < (rowsL ax ay bx by_).length) :
    ((0 ≤ (boxS W H ((rowsL ax ay bx by_).getD i default)).x0 ∧ (boxS W H ((rowsL ax ay bx by_).getD i default)).x0 ≤ 255) ∧ (0 ≤ (boxS W H ((rowsL ax ay bx by_).getD i default)).x1 ∧ (boxS W H ((rowsL ax ay bx by_).getD i default)).x1 ≤ 255) ∧ (0 ≤ (boxS W H ((rowsL ax ay bx by_).getD i default)).y0 ∧ (boxS W H ((rowsL ax ay bx by_).getD i default)).y0 ≤ 255) ∧ (0 ≤ (boxS W H ((rowsL ax ay bx by_).getD i default)).y1 ∧ (boxS W H ((rowsL ax ay bx by_).getD i default)).y1 ≤ 255)) ∧
    Prp (ovC W H (cellsN z z.length) top (boxS W H ((rowsL ax ay bx by_).getD i default))) ∧ (ovC W H (cellsN z z.length) top (boxS W H ((rowsL ax ay bx by_).getD i default))).n ≤ 512 := by
  have hw := hF.w2
  have hh := hF.h2
  have hbx := box_in hl hw.1 hh.1 ha hb i hi
  have h1 := over_le hF hbx
  have gx := hbx.x
  have gy := hbx.y
  have g3 : (boxS W H ((rowsL ax ay bx by_).getD i default)).y1 - (boxS W H ((rowsL ax ay bx by_).getD i default)).y0 ≤ 1 := by
    show min (((rowsL ax ay bx by_).getD i default).1 + 1) ((H : Int) - 1) - max ((rowsL ax ay bx by_).getD i default).1 0 ≤ 1
    omega
  generalize boxS W H ((rowsL ax ay bx by_).getD i default) = b at *
  have g4 := mulB 256 2 (a := b.x1 - b.x0 + 1) (b := b.y1 - b.y0 + 1) (by omega) (by omega)
  exact ⟨by omega, h1.1, by omega⟩
theorem upTo_ok {W H : Nat} {z : List Int} {top : Nat} (hF : Fld W H z top) {ax ay bx by_ : Int} (hl : Line37 ax ay bx by_) (ha : onP37 W H ax ay) (hb : onP37 W H bx by_) : ∀ i, i ≤ (rowsL ax ay bx by_).length → Prp (upTo W H (cellsN z z.length) top (rowsL ax ay bx by_) i) ∧ (upTo W H (cellsN z z.length) top (rowsL ax ay bx by_) i).n ≤ 512 * (i : Int)
  | 0, _ => ⟨prp_zero, by simp [upTo]⟩
  | i + 1, h => by
    have h1 := upTo_ok hF hl ha hb i (by omega)
    have h2 := strip_ok hF hl ha hb i (by omega)
    rw [upTo]
    refine ⟨prp_join h1.1 h2.2.1, ?_⟩
    rw [join_n h1.1 h2.2.1]
    have := h1.2
    have := h2.2.2
    push_cast
    omega
theorem rows_few {ax ay bx by_ : Int} (hl : Line37 ax ay bx by_) : (rowsL ax ay bx by_).length ≤ 1202 := by
  have h0 := rows_len hl
  have h1 := rows_y hl ((rowsL ax ay bx by_).length - 1) (by omega)
  have h2 := rows_y hl 0 (by omega)
  have h3 := strip_bnd hl ((rowsL ax ay bx by_).length - 1) (by omega)
  have h4 := strip_bnd hl 0 (by omega)
  omega
instance {p : Nat} {A : Option Addr} {c : Nat} {st : List Lv} {s : Int} : SubC (pyrH p A c st s) (pyrH p A c st s) := ⟨Sub.refl _⟩
instance {p : Nat} {A : Option Addr} {c : Nat} {st : List Lv} {s : Int} (x : HE) (H : List HE) [h : SubC (pyrH p A c st s) H] : SubC (pyrH p A c st s) (x :: H) := ⟨h.h.skip x⟩
instance {p : Nat} {A : Option Addr} {c : Nat} {st : List Lv} {s : Int} (l : List HE) : SubC (pyrH p A c st s ++ l) (pyrH p A c st s ++ l) := ⟨Sub.refl _⟩
instance {p : Nat} {A : Option Addr} {c : Nat} {st : List Lv} {s : Int} (l : List HE) (x : HE) (H : List HE) [h : SubC (pyrH p A c st s ++ l) H] : SubC (pyrH p A c st s ++ l) (x :: H) := ⟨h.h.skip x⟩
structure Pyr37 (W H : Nat) (z : List Int) (st : List Lv) : Prop where
  fld : Fld W H z (st.reverse.length - 1)
  pyr : PyrL W H (cellsN z z.length) st.reverse
  i16 : ∀ v ∈ z, InR .i16 v
attribute [local irreducible] OJ J HdJ Code.wpIn wpListIn Oper.wpIn bodyPost CallsIn Does
set_option maxRecDepth 4000
set_option maxHeartbeats 16000000 in
theorem under_any (p : Nat) (A : Option Addr) (c : Nat) (st : List Lv) (seen : Int) (W H : Nat) (z : List Int) (hP : Pyr37 W H z st) (ax ay bx by_ : Int) (w : World) (ho : Own (pyrH p A c st seen) w) :
    Does Tryz.prog 11 [.pointer (some ⟨p, 0, none⟩), .agg #[.int .i64 ax, .int .i64 ay], .agg #[.int .i64 bx, .int .i64 by_]] (pyrH p A c st seen) w
      (fun v S' => v = .tuple #[.int .i16 (unF W H z ax ay bx by_).1, .int .i16 (unF W H z ax ay bx by_).2.1, .int .i64 (unF W H z ax ay bx by_).2.2] ∧ ∃ s2, S' = pyrH p A c st s2) := by
  refine does_ofM Tryz.func11 rfl Tryz.ntmps11 rfl ho (fun n => ?_)
  simp only [slots]
  have hL := hP.pyr
  have hF := hP.fld
  by_cases hl : Line37 ax ay bx by_
  · have hc : chk37 ax ay bx by_ = 0 := if_pos hl
    repeat' (first | (refine z_ta) | fail)
    rw [hc]
    repeat' (first | (refine z_ta) | fail)
    rename_i b3 b4 b5 b6 b7 b8 _
    refine lfn rfl rfl (Split.pre (pyrH p A c st seen) [_, _, _, _, _, _]) rfl (fun w hw ho => onP ho W H _ hL ax ay) ?_
    rintro v S' ⟨rfl, rfl⟩
    refine j_swap ?_
    cases hon : onB W H ax ay
    · have hu : unF W H z ax ay bx by_ = (0, 0, 9) := by unfold unF; rw [if_neg (not_not_intro hl), if_pos (by rw [hon]; rfl)]
      rw [hu]
      repeat' (first | (refine z_ta) | fail)
      refine j_outMT (Ds := []) (S2 := .blk b8 34 [.int .i64 9] :: .blk b7 25 [.int .i16 0] :: .blk b6 25 [.int .i16 0] :: pyrH p A c st seen) (Sub.in3 (Sub.skip3 _ _ _ (Sub.refl _))) (Sub.skip3 _ _ _ (Sub.refl _)) ?_
      refine z_rk
      exact ⟨rfl, _, rfl⟩
    · repeat' (first | (refine z_ta) | fail)
      refine lfn rfl rfl (Split.pre (pyrH p A c st seen) [_, _, _, _, _, _]) rfl (fun w hw ho => onP ho W H _ hL bx by_) ?_
      rintro v S' ⟨rfl, rfl⟩
      refine j_swap ?_
      cases hob : onB W H bx by_
      · have hu : unF W H z ax ay bx by_ = (0, 0, 9) := by unfold unF; rw [if_neg (not_not_intro hl), if_pos (by rw [hob]; simp)]
        rw [hu]
        repeat' (first | (refine z_ta) | fail)
        refine j_outMT (Ds := []) (S2 := .blk b8 34 [.int .i64 9] :: .blk b7 25 [.int .i16 0] :: .blk b6 25 [.int .i16 0] :: pyrH p A c st seen) (Sub.in3 (Sub.skip3 _ _ _ (Sub.refl _))) (Sub.skip3 _ _ _ (Sub.refl _)) ?_
        refine z_rk
        exact ⟨rfl, _, rfl⟩
      · repeat' (first | (refine z_ta) | fail)
        refine lfn rfl rfl (Split.pre (pyrH p A c st seen) [_, _, _, _, _, _]) rfl (fun w hw ho => sideP ho W H _ hL) ?_
        rintro v S' ⟨rfl, rfl⟩
        refine j_swap ?_
        repeat' (first | (refine z_ta) | fail)
        refine lf rfl rfl rfl (S := []) (fun w hw ho => strips_any ax ay bx by_ w) ?_
        rintro v S' ⟨g2, g3, rfl, rfl⟩
        repeat' (first | (refine z_ta) | fail)
        rename_i c10 c11 c12
        have hpa := (onB_iff W H ax ay).1 hon
        have hpb := (onB_iff W H bx by_).1 hob
        have hvd := void_iff hF hl hpa hpb
        have hlen := rows_few hl
        have hu0 : unF W H z ax ay bx by_ = if vdB W z ax ay bx by_ = true then (0, 0, 8) else (loTo W z ax ay bx by_ z.length, hiTo W z ax ay bx by_ z.length, 0) := by
          unfold unF; rw [if_neg (not_not_intro hl), if_neg (by rw [hon, hob]; simp)]
        refine c_strips (ax := ax) (ay := ay) (bx := bx) (by_ := by_) (R := []) (S := .blk c12 65 (celE ⟨0, 0, 0⟩) :: .blk c11 3 [.int .i64 H] :: .blk c10 3 [.int .i64 W] :: .blk b8 34 [.int .i64 0] :: .blk b7 25 [.int .i16 0] :: .blk b6 25 [.int .i16 0] :: .blk b5 24 [.int .i64 bx, .int .i64 by_] :: .blk b4 24 [.int .i64 ax, .int .i64 ay] :: .blk b3 33 [.pointer (some ⟨p, 0, none⟩)] :: pyrH p A c st seen)
          (fun i S => (∀ j, j < i → ¬ voidS W H (cellsN z z.length) (st.reverse.length - 1) ((rowsL ax ay bx by_).getD j default)) ∧ ∃ s2, S = .blk c12 65 (celE (upTo W H (cellsN z z.length) (st.reverse.length - 1) (rowsL ax ay bx by_) i)) :: .blk c11 3 [.int .i64 H] :: .blk c10 3 [.int .i64 W] :: .blk b8 34 [.int .i64 0] :: .blk b7 25 [.int .i16 0] :: .blk b6 25 [.int .i16 0] :: .blk b5 24 [.int .i64 bx, .int .i64 by_] :: .blk b4 24 [.int .i64 ax, .int .i64 ay] :: .blk b3 33 [.pointer (some ⟨p, 0, none⟩)] :: pyrH p A c st s2)
          (fun c' S => c' = .ret ∧ (∃ j, j < (rowsL ax ay bx by_).length ∧ voidS W H (cellsN z z.length) (st.reverse.length - 1) ((rowsL ax ay bx by_).getD j default)) ∧ ∃ s2, S = .blk b8 34 [.int .i64 8] :: .blk b7 25 [.int .i16 0] :: .blk b6 25 [.int .i16 0] :: pyrH p A c st s2)
          rfl (Split.whole _) ⟨fun j hj => by omega, seen, rfl⟩ ?_ ?_ ?_
        · rintro l i S1 hi ⟨hno, s1, rfl⟩ w1 ho1
          have hok := strip_ok hF hl hpa hpb i hi
          have hup := upTo_ok hF hl hpa hpb i (by omega)
          have hrb := strip_bnd hl i hi
          have hvo : voidS W H (cellsN z z.length) (st.reverse.length - 1) ((rowsL ax ay bx by_).getD i default) ↔ (ovC W H (cellsN z z.length) (st.reverse.length - 1) (boxS W H ((rowsL ax ay bx by_).getD i default))).n < ((boxS W H ((rowsL ax ay bx by_).getD i default)).x1 - (boxS W H ((rowsL ax ay bx by_).getD i default)).x0 + 1) * ((boxS W H ((rowsL ax ay bx by_).getD i default)).y1 - (boxS W H ((rowsL ax ay bx by_).getD i default)).y0 + 1) := Iff.rfl
          have hst : upTo W H (cellsN z z.length) (st.reverse.length - 1) (rowsL ax ay bx by_) (i + 1) = joinC (upTo W H (cellsN z z.length) (st.reverse.length - 1) (rowsL ax ay bx by_) i) (ovC W H (cellsN z z.length) (st.reverse.length - 1) (boxS W H ((rowsL ax ay bx by_).getD i default))) := rfl
          have hov : ∀ (s2 : Int) (w2 : World), Own (pyrH p A c st s2) w2 → _ := fun s2 w2 ho2 => overP ho2 W H _ hL (boxS W H ((rowsL ax ay bx by_).getD i default))
          have hnoS : ¬ voidS W H (cellsN z z.length) (st.reverse.length - 1) ((rowsL ax ay bx by_).getD i default) → ∀ j, j < i + 1 → ¬ voidS W H (cellsN z z.length) (st.reverse.length - 1) ((rowsL ax ay bx by_).getD j default) := fun h j hj => by
            rcases Nat.lt_or_ge j i with h1 | h1
            · exact hno j h1
            · rw [show j = i by omega]; exact h
          have hW2 := hF.w2
          have hH2 := hF.h2
          have hbe : boxS W H ((rowsL ax ay bx by_).getD i default) = ⟨max ((rowsL ax ay bx by_).getD i default).2.1 0, max ((rowsL ax ay bx by_).getD i default).1 0, min (((rowsL ax ay bx by_).getD i default).2.2 + 1) ((W : Int) - 1), min (((rowsL ax ay bx by_).getD i default).1 + 1) ((H : Int) - 1)⟩ := rfl
          refine yields_of (N := 87) ho1 rfl (by simp) (fun n => ?_)
          simp only [over]
          repeat' (first | (refine z_ta) | fail)
          refine c_beg ?_
          repeat' (first | (refine z_ta) | fail)
          rename_i e13 e14
          refine lfn rfl rfl (Split.pre (pyrH p A c st s1) [_, _, _, _, _, _, _, _, _, _, _, _]) rfl (fun w2 hw2 ho2 => hov s1 w2 ho2) ?_
          rintro v S' ⟨s2, rfl, rfl⟩
          refine j_swap ?_
          rw [show agg (bcB W H (cellsN z z.length) (boxS W H ((rowsL ax ay bx by_).getD i default))) (sqL (st.reverse.length - 1) 0 0) = ovC W H (cellsN z z.length) (st.reverse.length - 1) (boxS W H ((rowsL ax ay bx by_).getD i default)) from rfl]
          have hmm := mulB 256 256 (a := (boxS W H ((rowsL ax ay bx by_).getD i default)).x1 - (boxS W H ((rowsL ax ay bx by_).getD i default)).x0 + 1) (b := (boxS W H ((rowsL ax ay bx by_).getD i default)).y1 - (boxS W H ((rowsL ax ay bx by_).getD i default)).y0 + 1) (by omega) (by omega)
          generalize hoc : ovC W H (cellsN z z.length) (st.reverse.length - 1) (boxS W H ((rowsL ax ay bx by_).getD i default)) = oc at *
          rw [hbe] at hmm hvo
          dsimp only at hmm hvo
          generalize hupc : upTo W H (cellsN z z.length) (st.reverse.length - 1) (rowsL ax ay bx by_) i = uc at *
          repeat' (first | (refine z_ta) | fail)
          · refine c_rrH (S' := _ :: .blk b8 34 [.int .i64 8] :: .blk b7 25 [.int .i16 0] :: .blk b6 25 [.int .i16 0] :: pyrH p A c st s2) Sub.au (.inr ⟨rfl, .ret, _, rfl, rfl, ⟨i, hi, hvo.2 (by assumption)⟩, s2, rfl⟩)
          · refine lfv (v := .agg (celE (jTo [uc, oc] 2)).toArray) rfl rfl rfl (fun w hw => join_any _ _ [uc, oc] w ⟨Ro.row hw (Split.nil _) (by refine z_hasf)⟩ (by simp) (fun c hc => (by
              simp only [List.mem_cons, List.not_mem_nil, or_false] at hc
              have p1 := hup.1.1
              have p2 := hok.2.1.1
              have p3 := hup.2
              have p4 := hok.2.2
              rcases hc with rfl | rfl
              · exact ⟨p1, by omega⟩
              · exact ⟨p2, by omega⟩))) ?_
            have hjj : jTo [uc, oc] 2 = joinC uc oc := by
              simp only [jTo, List.getD, List.getElem?_cons_zero, List.getElem?_cons_succ, Option.getD_some]
              rw [zero_join hup.1]
            rw [hjj]
            generalize joinC uc oc = jc at *
            repeat' (first | (refine z_ta) | fail)
            exact c_rnH (S' := _ :: .blk c12 65 [.int .i16 jc.lo, .int .i16 jc.hi, .int .i64 jc.n] :: .blk c11 3 [.int .i64 H] :: .blk c10 3 [.int .i64 W] :: .blk b8 34 [.int .i64 0] :: .blk b7 25 [.int .i16 0] :: .blk b6 25 [.int .i16 0] :: .blk b5 24 [.int .i64 bx, .int .i64 by_] :: .blk b4 24 [.int .i64 ax, .int .i64 ay] :: .blk b3 33 [.pointer (some ⟨p, 0, none⟩)] :: pyrH p A c st s2) Sub.au (.inl ⟨rfl, _, rfl, hnoS (fun h => absurd (hvo.1 h) (by assumption)), s2, by rw [hst]⟩)
        · rintro d S1 ⟨hno, s1, rfl⟩
          have hnv : ¬ vdB W z ax ay bx by_ = true := fun h => by
            obtain ⟨i, hi, hv⟩ := hvd.2 ((vdB_iff W z ax ay bx by_).1 h)
            exact hno i hi hv
          have hsm := under_same hF hP.i16 hl hpa hpb (fun h => hnv ((vdB_iff W z ax ay bx by_).2 h))
          rw [hu0, if_neg hnv, ← hsm.1, ← hsm.2]
          generalize upTo W H (cellsN z z.length) (st.reverse.length - 1) (rowsL ax ay bx by_) (rowsL ax ay bx by_).length = uc at *
          simp only [List.cons_append]
          refine z_gob
          refine c_drx [.blk c12 65 (celE uc)] [true, true, true, true, false, false, false] [4, 5, 6] Sub.au rfl (by decide) (by decide +kernel) ?_
          refine z_gob
          refine j_outMS (Ds := [d]) (S2 := .blk b8 34 [.int .i64 0] :: .blk b7 25 [.int .i16 uc.hi] :: .blk b6 25 [.int .i16 uc.lo] :: pyrH p A c st s1) ?_ (Sub.skip3 _ _ _ (Sub.refl _)) ?_
          · show Sub (.blk b8 34 [.int .i64 0] :: .blk b7 25 [.int .i16 uc.hi] :: .blk b6 25 [.int .i16 uc.lo] :: (pyrH p A c st s1 ++ [.obj d (.deferred (some []))])) _
            exact Sub.au
          · refine z_rk
            exact ⟨rfl, s1, rfl⟩
        · rintro d c' S1 ⟨rfl, hex, s1, rfl⟩
          have hv : vdB W z ax ay bx by_ = true := (vdB_iff W z ax ay bx by_).2 (hvd.1 hex)
          rw [hu0, if_pos hv]
          simp only [List.cons_append]
          refine z_gob
          refine j_outMS (Ds := [d]) (S2 := .blk b8 34 [.int .i64 8] :: .blk b7 25 [.int .i16 0] :: .blk b6 25 [.int .i16 0] :: pyrH p A c st s1) ?_ (Sub.skip3 _ _ _ (Sub.refl _)) ?_
          · exact Sub.refl _
          · refine z_rk
            exact ⟨rfl, s1, rfl⟩
  · have hc : chk37 ax ay bx by_ = 2 := if_neg hl
    have hu : unF W H z ax ay bx by_ = (0, 0, 2) := if_pos hl
    rw [hu]
    repeat' (first | (refine z_ta) | fail)
    rw [hc]
    rename_i b3 b4 b5 b6 b7 b8 _
    refine j_outMT (Ds := []) (S2 := .blk b8 34 [.int .i64 2] :: .blk b7 25 [.int .i16 0] :: .blk b6 25 [.int .i16 0] :: pyrH p A c st seen) (Sub.in3 (Sub.skip3 _ _ _ (Sub.refl _))) (Sub.skip3 _ _ _ (Sub.refl _)) ?_
    refine z_rk
    exact ⟨rfl, _, rfl⟩
end Go.Proofs.YtpmomimaihjmjaaGreat
/- The reference's Under and Clear. -/
namespace Go.Proofs.YtpmomimaihjmjaaGreat
open Go.RowKit
theorem have_ {p q : Prop} (h : p) (k : p → q) : q := k h
/-- What Clear tells. -/
def clF (W H : Nat) (z : List Int) (ax ay bx by_ high : Int) : Int × Int :=
  if ¬ (-1099511627776 ≤ high ∧ high ≤ 1099511627776) then (0, 1) else if (unF W H z ax ay bx by_).2.2 ≠ 0 then (0, (unF W H z ax ay bx by_).2.2) else (high - 16 * (unF W H z ax ay bx by_).2.1, 0)
theorem hiTo_bnd {W : Nat} {z : List Int} {ax ay bx by_ : Int} (hz : ∀ v ∈ z, InR .i16 v) : ∀ n, n ≤ z.length → -32768 ≤ hiTo W z ax ay bx by_ n ∧ hiTo W z ax ay bx by_ n ≤ 32767
  | 0, _ => by simp [hiTo]
  | n + 1, h => by
    have h1 := hiTo_bnd (W := W) (ax := ax) (ay := ay) (bx := bx) (by_ := by_) hz n (by omega)
    have h2 : -32768 ≤ z.getD n 0 ∧ z.getD n 0 ≤ 32767 := by
      rw [List.getD_eq_getElem?_getD, List.getElem?_eq_getElem (by omega)]
      exact hz _ (List.getElem_mem ..)
    rw [hiTo]
    split <;> omega
theorem unF_bnd {W H : Nat} {z : List Int} {ax ay bx by_ : Int} (hz : ∀ v ∈ z, InR .i16 v) : -32768 ≤ (unF W H z ax ay bx by_).2.1 ∧ (unF W H z ax ay bx by_).2.1 ≤ 32767 := by
  unfold unF
  split
  · simp
  split
  · simp
  split
  · simp
  · exact hiTo_bnd hz _ (Nat.le_refl _)
attribute [local irreducible] OJ J HdJ Code.wpIn wpListIn Oper.wpIn bodyPost CallsIn Does
set_option maxRecDepth 4000
theorem corI_iff (W : Nat) (ax ay bx by_ : Int) (i : Nat) : corI W ax ay bx by_ i ↔ touP ax ay bx by_ ((i : Int) % (W : Int)) ((i : Int) / (W : Int)) ∨ touP ax ay bx by_ ((i : Int) % (W : Int) - 1) ((i : Int) / (W : Int)) ∨ touP ax ay bx by_ ((i : Int) % (W : Int)) ((i : Int) / (W : Int) - 1) ∨ touP ax ay bx by_ ((i : Int) % (W : Int) - 1) ((i : Int) / (W : Int) - 1) := by
  unfold corI corP
  push_cast
  exact Iff.rfl
set_option maxHeartbeats 16000000 in
theorem clear_any (p : Nat) (A : Option Addr) (c : Nat) (st : List Lv) (seen : Int) (W H : Nat) (z : List Int) (hP : Pyr37 W H z st) (ax ay bx by_ high : Int) (w : World) (ho : Own (pyrH p A c st seen) w) :
    Does Tryz.prog 9 [.pointer (some ⟨p, 0, none⟩), .agg #[.int .i64 ax, .int .i64 ay], .agg #[.int .i64 bx, .int .i64 by_], .int .i64 high] (pyrH p A c st seen) w
      (fun v S' => v = .tuple #[.int .i64 (clF W H z ax ay bx by_ high).1, .int .i64 (clF W H z ax ay bx by_ high).2] ∧ ∃ s2, S' = pyrH p A c st s2) := by
  refine does_of Tryz.func9 rfl Tryz.ntmps9 rfl ho (fun n => ?_)
  simp only [slots]
  have hb := unF_bnd (W := W) (H := H) (ax := ax) (ay := ay) (bx := bx) (by_ := by_) hP.i16
  unfold clF
  repeat' (first | (refine z_ta) | fail)
  · rw [if_pos (by omega)]
    exact j_out2 (S' := pyrH p A c st seen) rfl rfl rfl Sub.au ⟨rfl, _, rfl⟩
  · rw [if_pos (by omega)]
    exact j_out2 (S' := pyrH p A c st seen) rfl rfl rfl Sub.au ⟨rfl, _, rfl⟩
  · rw [if_neg (by omega)]
    refine lfn rfl rfl (Split.pre (pyrH p A c st seen) [_, _]) rfl (fun w hw ho => under_any p A c st seen W H z hP ax ay bx by_ w ho) ?_
    rintro v S' ⟨rfl, s2, rfl⟩
    refine j_swap ?_
    generalize unF W H z ax ay bx by_ = u at *
    repeat' (first | (refine z_ta) | fail)
    · rw [if_pos (by assumption)]
      exact j_out2 (S' := pyrH p A c st s2) rfl rfl rfl Sub.au ⟨rfl, _, rfl⟩
    · rw [if_neg (by assumption)]
      exact j_out2 (S' := pyrH p A c st s2) rfl rfl rfl Sub.au ⟨rfl, _, rfl⟩
end Go.Proofs.YtpmomimaihjmjaaGreat
/- Package ray: Way. -/
namespace Go.Proofs.YtpmomimaihjmjaaGreat
open Go.RowKit
/-- How far one is above the ground between two places of several. -/
def clP (W H : Nat) (z : List Int) (L : List (Int × Int)) (high : Int) (i : Nat) : Int × Int := clF W H z (L.getD i default).1 (L.getD i default).2 (L.getD (i + 1) default).1 (L.getD (i + 1) default).2 high
/-- The least of so many, and where. -/
def wayTo (W H : Nat) (z : List Int) (L : List (Int × Int)) (high : Int) : Nat → Int × Int
  | 0 => (0, -1)
  | i + 1 => if (wayTo W H z L high i).2 < 0 ∨ (clP W H z L high i).1 < (wayTo W H z L high i).1 then ((clP W H z L high i).1, i) else wayTo W H z L high i
/-- What Way tells. -/
def WayR (W H : Nat) (z : List Int) (L : List (Int × Int)) (high k at_ e : Int) : Prop :=
  (L.length < 2 ∧ k = 0 ∧ at_ = 0 ∧ e = 5) ∨ (2 ≤ L.length ∧ ((∃ i, i + 1 < L.length ∧ (∀ j, j < i → (clP W H z L high j).2 = 0) ∧ (clP W H z L high i).2 ≠ 0 ∧ k = 0 ∧ at_ = 0 ∧ e = (clP W H z L high i).2) ∨
    ((∀ j, j + 1 < L.length → (clP W H z L high j).2 = 0) ∧ k = (wayTo W H z L high (L.length - 1)).1 ∧ at_ = (wayTo W H z L high (L.length - 1)).2 ∧ e = 0)))
instance (priority := 3000) {P : Program} {w0 : World} {W : Nat → Prop} {H : List HE} (x y : Operand) (t e b q m c sz bs j r r' : Nat) (z : Value) (k : IntKind) [hu : Und P t (.slice e)] [hI : Inf P e sz bs z] [hm : NMul (j + 1) sz r] [hr : NAdd q r r'] : LV P w0 W H (.indexAddr t x y) [.slice (some ⟨b, q, none⟩) m c, .int k ((j : Int) + 1)] (.pointer (some ⟨b, r', none⟩)) (j + 1 < m) := ⟨fun h => by
  have := LV.h (P := P) (w0 := w0) (W := W) (H := H) (op := .indexAddr t x y) (vs := [.slice (some ⟨b, q, none⟩) m c, .int k ((j + 1 : Nat) : Int)]) (v := .pointer (some ⟨b, r', none⟩)) h
  rw [Int.natCast_add] at this
  exact this⟩
attribute [local irreducible] OJ J HdJ Code.wpIn wpListIn Oper.wpIn bodyPost CallsIn Does
set_option maxRecDepth 4000
set_option maxHeartbeats 16000000 in
theorem way_any (p : Nat) (A : Option Addr) (c : Nat) (st : List Lv) (seen : Int) (W H : Nat) (z : List Int) (hP : Pyr37 W H z st) (B : Option Addr) (cb : Nat) (L : List (Int × Int)) (high : Int) (w : World) (ho : Own (pyrH p A c st seen) w) (hr : RoA w (blocks (pyrH p A c st seen)) B L.length cb 2 (flat spotE L)) (hm : L.length ≤ 1000000) :
    Does Tryz.prog 13 [.pointer (some ⟨p, 0, none⟩), .slice B L.length cb, .int .i64 high] (pyrH p A c st seen) w
      (fun v S' => ∃ k at_ e, v = .tuple #[.int .i64 k, .int .i64 at_, .int .i64 e] ∧ WayR W H z L high k at_ e ∧ ∃ s2, S' = pyrH p A c st s2) := by
  refine does_of Tryz.func13 rfl Tryz.ntmps13 rfl ho (fun n => ?_)
  simp only [slots]
  repeat' (first | (refine z_ta) | fail)
  · exact j_out3 (S' := pyrH p A c st seen) rfl rfl rfl rfl Sub.au ⟨_, _, _, rfl, .inl ⟨by omega, rfl, rfl, rfl⟩, _, rfl⟩
  · obtain ⟨bb, off, rfl, hat⟩ := hr.at_ (show 0 < L.length by omega)
    refine c_loop (X := Nat × Int) (fun x => x.1 + 1 ≤ L.length ∧ ∀ j, j < x.1 → (clP W H z L high j).2 = 0) (fun x => [(0, .pointer (some ⟨p, 0, none⟩)), (1, .slice (some ⟨bb, off, none⟩) L.length cb), (2, .int .i64 high), (9, .int .i64 (wayTo W H z L high x.1).1), (10, .int .i64 (wayTo W H z L high x.1).2), (19, .int .i64 ((L.length : Int) - 1)), (20, .int .i64 x.1)])
      (fun x => pyrH p A c st x.2) (fun x => L.length - x.1) (0, seen) ⟨by show 0 + 1 ≤ _; omega, fun j hj => by omega⟩ ⟨rfl, rfl, rfl, rfl, rfl, rfl, rfl, trivial⟩ (Sub.refl _) ?_
    rintro ⟨i, sn⟩ ⟨hi, hno⟩
    dsimp only at hi hno ⊢
    repeat' (first | (refine z_ta) | fail)
    · refine c_drx [] [true, true, true, true, true, true, true, true, true, true, true, false, false, false, false, false, false] [11, 12, 13, 14, 15, 16] (.nil _) rfl (by decide) (by decide +kernel) ?_
      refine z_gob
      refine lfn rfl rfl (Split.pre (pyrH p A c st sn) []) rfl (fun w hw ho => clear_any p A c st sn W H z hP (L.getD i default).1 (L.getD i default).2 (L.getD (i + 1) default).1 (L.getD (i + 1) default).2 high w ho) ?_
      rintro v S' ⟨rfl, s2, rfl⟩
      refine j_swap ?_
      have hcl : clF W H z (L.getD i default).1 (L.getD i default).2 (L.getD (i + 1) default).1 (L.getD (i + 1) default).2 high = clP W H z L high i := rfl
      rw [hcl]
      have hwt : wayTo W H z L high (i + 1) = if (wayTo W H z L high i).2 < 0 ∨ (clP W H z L high i).1 < (wayTo W H z L high i).1 then ((clP W H z L high i).1, (i : Int)) else wayTo W H z L high i := rfl
      have hno2 : (clP W H z L high i).2 = 0 → ∀ j, j < i + 1 → (clP W H z L high j).2 = 0 := fun h j hj => by
        rcases Nat.lt_or_ge j i with h1 | h1
        · exact hno j h1
        · rw [show j = i by omega]; exact h
      have hbad : (clP W H z L high i).2 ≠ 0 → WayR W H z L high 0 0 (clP W H z L high i).2 := fun h => .inr ⟨by omega, .inl ⟨i, by omega, hno, h, rfl, rfl, rfl⟩⟩
      generalize clP W H z L high i = q at *
      repeat (first | refine j_app ?_ | refine l_nil ?_ | refine cc ?_)
      refine t_next (.nil _) ?_
      refine t_weak 20 rfl ?_
      refine t_pick 12 rfl ?_ rfl rfl rfl ?_ rfl (.nil _) ?_
      next => (simp only [pickOk, Bool.and_eq_true]; refine ⟨?_, ?_⟩ <;> decide +kernel)
      next => trivial
      refine t_pick 13 rfl ?_ rfl rfl rfl ?_ rfl (.nil _) ?_
      next => (simp only [pickOk, Bool.and_eq_true]; refine ⟨?_, ?_⟩ <;> decide +kernel)
      next => trivial
      refine t_pick 14 rfl ?_ rfl rfl rfl ?_ rfl (.nil _) ?_
      next => (simp only [pickOk, Bool.and_eq_true]; refine ⟨?_, ?_⟩ <;> decide +kernel)
      next => trivial
      refine t_pick 15 rfl ?_ rfl rfl rfl ?_ rfl (.nil _) ?_
      next => (simp only [pickOk, Bool.and_eq_true]; refine ⟨?_, ?_⟩ <;> decide +kernel)
      next => trivial
      refine t_pick 16 rfl ?_ rfl rfl rfl ?_ rfl (.nil _) ?_
      next => (simp only [pickOk, Bool.and_eq_true]; refine ⟨?_, ?_⟩ <;> decide +kernel)
      next => trivial
      repeat' (first | (refine z_ta) | (refine z_tx) | fail)
      · exact j_out3 (S' := pyrH p A c st s2) rfl rfl rfl rfl Sub.au ⟨_, _, _, rfl, hbad (by assumption), _, rfl⟩
      · exact c_round (i + 1, s2) ⟨by show i + 1 + 1 ≤ _; omega, hno2 (by omega)⟩ (by show _ - (i + 1) < _ - i; omega) ⟨rfl, rfl, rfl, by rw [hwt, if_pos (.inl (by assumption))]; rfl, by rw [hwt, if_pos (.inl (by assumption))]; rfl, rfl, by simp [look], trivial⟩ (Sub.refl _)
      · exact c_round (i + 1, s2) ⟨by show i + 1 + 1 ≤ _; omega, hno2 (by omega)⟩ (by show _ - (i + 1) < _ - i; omega) ⟨rfl, rfl, rfl, by rw [hwt, if_pos (.inr (by assumption))]; rfl, by rw [hwt, if_pos (.inr (by assumption))]; rfl, rfl, by simp [look], trivial⟩ (Sub.refl _)
      · exact c_round (i + 1, s2) ⟨by show i + 1 + 1 ≤ _; omega, hno2 (by omega)⟩ (by show _ - (i + 1) < _ - i; omega) ⟨rfl, rfl, rfl, by rw [hwt, if_neg (by omega)]; rfl, by rw [hwt, if_neg (by omega)]; rfl, rfl, by simp [look], trivial⟩ (Sub.refl _)
    · obtain rfl : i = L.length - 1 := by omega
      exact j_out3 (S' := pyrH p A c st sn) rfl rfl rfl rfl Sub.au ⟨_, _, _, rfl, .inr ⟨by omega, .inr ⟨fun j hj => hno j (by omega), rfl, rfl, rfl⟩⟩, _, rfl⟩
end Go.Proofs.YtpmomimaihjmjaaGreat
/- Layer 37's works. -/
namespace Go.Proofs.YtpmomimaihjmjaaGreat
open Go.RowKit
theorem run_equalF {P : Program} (w : World) (d : Nat) {t : TypeId} {a b : Array TypeId} {c : Bool} (f : Fn) (xs ys : Array Value) (ht : P.underlying t = some (.func a b c)) : (Op.equalIn (d + 1) t (.func f xs ys) .nilFunc).run P w = .ok false w := by
  simp [Op.equalIn, run_underlying ht]
theorem run_eqlF {P : Program} (w : World) {t : TypeId} {a b : Array TypeId} {c : Bool} (f : Fn) (xs ys : Array Value) (ht : P.underlying t = some (.func a b c)) : (binOp .eql t (.func f xs ys) .nilFunc).run P w = .ok (.bool false) w := by
  simp only [binOp]
  simp [Op.equal, Op.maxDepth, run_equalF w 9999 f xs ys ht]
/-- A function is not nil. -/
theorem l_fnil {n : Nat} {P : Program} {N : Nat} {ds : List Deferred} {w0 : World} {W : Nat → Prop} {σ : List (Nat × Value)} {H : List HE} {Q : Exit → Act → World → Prop} {ops : Array Oper} {rest : List Oper} {d : Nat} {ty : TypeId} {pos : String} {aft : Array Edge} {gd : Option (Nat × Bool)} {F : Fence} [Wide F] {t u : TypeId} {x y : Operand} {f : Fn} {xs ys : Array Value} {dd : TypeDesc} [hu : Und P t dd] (hf : ∃ a b c, dd = .func a b c)
    (hw : wantd ops σ ⟨some d, .binOp .eql t x y u, ty, pos, aft, gd⟩ = some true) (hx : ev σ x = some (.func f xs ys)) (hy : ev σ y = some .nilFunc) (hdN : Nat.blt d N = true)
    (h : J N ds w0 W ((d, .bool false) :: σ) H (wpListIn F n P ops Q rest)) : J N ds w0 W σ H (wpListIn F n P ops Q (⟨some d, .binOp .eql t x y u, ty, pos, aft, gd⟩ :: rest)) :=
  l_run hw (o_val (by simp) rfl hdN (fun a w ha _ => by
    obtain ⟨a1, b1, c1, rfl⟩ := hf
    have := run_eqlF w f xs ys (Und.h (P := P) (t := t))
    have hg : (eqGuard .eql t x y (.func f xs ys) .nilFunc).run P w = .ok () w := rfl
    simp only [execOp, ha.eval hx, ha.eval hy, Sem.run_bind, hg, Result.andThen_ok, this, Sem.run_pure]) h)
attribute [local irreducible] OJ J HdJ Code.wpIn wpListIn Oper.wpIn bodyPost CallsIn Does
set_option maxRecDepth 4000
theorem newP (W H : Nat) (A : Option Addr) (c : Nat) (z : List Int) (w : World) (hr : RoA w (blocks []) A z.length c 1 (ints .i16 z)) (hz : ∀ v ∈ z, InR .i16 v) (hok : chkF W H z = 0) (hW : 2 ≤ W ∧ W ≤ 256 ∧ 2 ≤ H ∧ H ≤ 256) (hl : z.length = W * H) :
    Does Tryz.prog 6 [.agg #[.int .i64 W, .int .i64 H, .slice A z.length c]] [] w (fun v S' => ∃ p AL cL st, Pyr37 W H z st ∧ v = .tuple #[.pointer (some ⟨p, 0, none⟩), .int .i64 0] ∧ S' = pyrH p AL cL st 0) := by
  refine (new_any W H A c z w hr hz hok).mono ?_
  rintro v S' ⟨p, AL, cL, t, r, hs, h1, h2, rfl, rfl⟩
  have hL := pyr_of hs (by simp) ⟨by omega, by omega⟩ ⟨by omega, by omega⟩ hl
  have hd := hL.dim ((t :: r).reverse.length - 1) (by simp)
  have ht : (t :: r).reverse.getD ((t :: r).reverse.length - 1) default = t := by
    rw [List.getD_eq_getElem?_getD, List.getElem?_eq_getElem (by simp)]
    simp
  rw [ht] at hd
  have m1 := Nat.mul_le_mul_right (2 ^ ((t :: r).reverse.length - 1)) h1
  have m2 := Nat.mul_le_mul_right (2 ^ ((t :: r).reverse.length - 1)) h2
  exact ⟨p, AL, cL, t :: r, ⟨⟨hl, ⟨by omega, by omega⟩, ⟨by omega, by omega⟩, ⟨by omega, by omega⟩⟩, hL, hz⟩, rfl, rfl⟩
def wZ37 : List Int := [1, 2, 3, 4, 5, 60, 7, 8, 9, 10, 11, 12]
theorem w37_un : (unF 4 3 wZ37 100 100 700 100).1 = 1 ∧ (unF 4 3 wZ37 100 100 700 100).2.1 = 60 ∧ (unF 4 3 wZ37 100 100 700 100).2.2 = 0 := by decide +kernel
theorem w37_c1 : (clF 4 3 wZ37 100 100 700 100 2000).1 = 1040 ∧ (clF 4 3 wZ37 100 100 700 100 2000).2 = 0 := by decide +kernel
theorem w37_c2 : (clF 4 3 wZ37 100 100 769 0 2000).1 = 0 ∧ (clF 4 3 wZ37 100 100 769 0 2000).2 = 9 := by decide +kernel
theorem w37_len : lenF 0 0 300 (-400) = 500 ∧ chk37 0 0 300 (-400) = 0 := by decide +kernel
theorem w37_w : clP 4 3 wZ37 [(600, 10), (700, 10), (300, 10)] 1000 0 = (872, 0) ∧ clP 4 3 wZ37 [(600, 10), (700, 10), (300, 10)] 1000 1 = (40, 0) ∧ wayTo 4 3 wZ37 [(600, 10), (700, 10), (300, 10)] 1000 2 = (40, 1) := by decide +kernel
theorem w37_way {k a e : Int} (h : WayR 4 3 wZ37 [(600, 10), (700, 10), (300, 10)] 1000 k a e) : k = 40 ∧ a = 1 ∧ e = 0 := by
  obtain ⟨w1, w2, w3⟩ := w37_w
  rcases h with ⟨h, -⟩ | ⟨-, ⟨i, hi, -, hne, -⟩ | ⟨-, rfl, rfl, rfl⟩⟩
  · simp at h
  · simp at hi
    obtain rfl | rfl : i = 0 ∨ i = 1 := by omega
    · rw [w1] at hne; exact absurd rfl hne
    · rw [w2] at hne; exact absurd rfl hne
  · show (wayTo _ _ _ _ _ 2).1 = 40 ∧ (wayTo _ _ _ _ _ 2).2 = 1 ∧ _
    rw [w3]
    exact ⟨rfl, rfl, rfl⟩
theorem w37_nil {k a e : Int} {W H : Nat} {z : List Int} {high : Int} (h : WayR W H z [] high k a e) : k = 0 ∧ a = 0 ∧ e = 5 := by
  rcases h with ⟨-, h⟩ | ⟨h, -⟩
  · exact h
  · simp at h
theorem w37_cells : cellsTo (rowsL 100 100 700 100) (rowsL 100 100 700 100).length = 3 ∧ cellsTo (rowsL 256 256 256 256) (rowsL 256 256 256 256).length = 4 := by decide +kernel
theorem w37_tell : rowTell (rowsL 100 100 700 100) 1 0 = true ∧ rowTell (rowsL 100 100 700 100) 3 0 = false ∧ chk37 100 100 131073 0 = 2 := by decide +kernel
set_option maxHeartbeats 64000000 in
theorem works37 (w : World) : Does Tryz.prog 4 [] [] w (fun v S' => v = .bool true ∧ S' = []) := by
  refine does_ofM Tryz.func4 rfl Tryz.ntmps4 rfl ⟨by simp, .nil⟩ (fun n => ?_)
  simp only [slots]
  repeat' (first | (refine z_ta) | fail)
  rename_i bz b1
  refine lf rfl rfl rfl (S := []) (fun w hw ho => newP 4 3 (some ⟨bz, 0, none⟩) 12 wZ37 w ⟨Ro.row hw (Split.nil _) (by refine z_hasf)⟩ (by decide) (by decide) (by omega) (by decide)) ?_
  rintro v S' ⟨p, A, c, st, hP, rfl, rfl⟩
  refine j_swap (S := pyrH p A c st 0) ?_
  repeat' (first | (refine z_ta) | fail)
  refine lfn rfl rfl (Split.pre (pyrH p A c st 0) [_, _, _, _]) rfl (fun w hw ho => under_any p A c st 0 4 3 wZ37 hP 100 100 700 100 w ho) ?_
  rintro v S' ⟨rfl, s1, rfl⟩
  rw [w37_un.1, w37_un.2.1, w37_un.2.2]
  refine j_swap ?_
  repeat' (first | (refine z_ta) | fail)
  refine lfn rfl rfl (Split.pre (pyrH p A c st s1) [_, _, _, _]) rfl (fun w hw ho => clear_any p A c st s1 4 3 wZ37 hP 100 100 700 100 2000 w ho) ?_
  rintro v S' ⟨rfl, s2, rfl⟩
  rw [w37_c1.1, w37_c1.2]
  refine j_swap ?_
  repeat' (first | (refine z_ta) | fail)
  refine lfn rfl rfl (Split.pre (pyrH p A c st s2) [_, _, _, _]) rfl (fun w hw ho => clear_any p A c st s2 4 3 wZ37 hP 100 100 769 0 2000 w ho) ?_
  rintro v S' ⟨rfl, s3, rfl⟩
  rw [w37_c2.1, w37_c2.2]
  refine j_swap ?_
  repeat' (first | (refine z_ta) | fail)
  rw [w37_len.1, w37_len.2]
  rename_i bs
  refine lfn rfl rfl (Split.pre (pyrH p A c st s3) [_, _, _, _, _]) rfl (fun w hw ho => way_any p A c st s3 4 3 wZ37 hP (some ⟨bs, 0, none⟩) 3 [(600, 10), (700, 10), (300, 10)] 1000 w ho ⟨Ro.row hw (Split.pre (pyrH p A c st s3) [_, _, _, _, _]) (by refine z_hasf)⟩ (by decide)) ?_
  rintro v S' ⟨k, a, e, rfl, hw, s4, rfl⟩
  obtain ⟨rfl, rfl, rfl⟩ := w37_way hw
  refine j_swap ?_
  repeat' (first | (refine z_ta) | fail)
  refine lfn rfl rfl (Split.pre (pyrH p A c st s4) [_, _, _, _, _]) rfl (fun w hw ho => way_any p A c st s4 4 3 wZ37 hP none 0 [] 0 w ho ⟨Ro.nil _ _ _⟩ (by decide)) ?_
  rintro v S' ⟨k, a, e, rfl, hw, s5, rfl⟩
  obtain ⟨rfl, rfl, rfl⟩ := w37_nil hw
  refine j_swap ?_
  repeat' (first | (refine z_ta) | fail)
  refine lf rfl rfl rfl (S := []) (fun w hw ho => strips_any 100 100 700 100 w) ?_
  rintro v S' ⟨g2, g3, rfl, rfl⟩
  repeat' (first | (refine z_ta) | fail)
  refine l_fnil ⟨_, _, _, rfl⟩ rfl rfl rfl rfl ?_
  repeat' (first | (refine z_ta) | fail)
  rename_i b22
  have hc3 := w37_cells
  refine c_strips (ax := 100) (ay := 100) (bx := 700) (by_ := 100) (S := [.blk b22 3 [.int .i64 0]]) (fun i S => S = [.blk b22 3 [.int .i64 (cellsTo (rowsL 100 100 700 100) i)]]) (fun _ _ => False) rfl Split.au rfl ?_ ?_ ?_
  · rintro l i S1 hi rfl w1 ho
    have h1 := cellsTo_bnd 100 100 700 100 i (by omega)
    have h2 := rowsL_bnd 100 100 700 100
    have h3 := h2.2 i hi
    have h4 := h2.1
    have e := cellsTo.eq_2 (rowsL 100 100 700 100) i
    generalize (rowsL 100 100 700 100).getD i default = row at *
    refine yields_of (N := 173) ho rfl (by simp) (fun n => ?_)
    simp only [over]
    repeat' (first | (refine z_ta) | fail)
    refine c_beg ?_
    repeat' (first | (refine z_ta) | fail)
    refine c_rnH (S' := [_, .blk b22 3 [.int .i64 (cellsTo (rowsL 100 100 700 100) (i + 1))]]) ?_ (.inl ⟨rfl, _, rfl, rfl⟩)
    rw [e, show cellsTo (rowsL 100 100 700 100) i + (row.2.2 - row.2.1 + 1) = cellsTo (rowsL 100 100 700 100) i + 1 + row.2.2 - row.2.1 by omega]
    exact Sub.au
  · rintro d S1 rfl
    rw [hc3.1]
    have ht := w37_tell
    repeat' (first | (refine z_ta) | fail)
    refine j_outMK (Ds := [d]) (S' := []) ?_ ?_
    · show Sub [.obj d (.deferred (some []))] _
      exact Sub.au
    · refine z_rk
      exact ⟨by rw [ht.2.2]; rfl, rfl⟩
  · rintro d c S1 h
    exact h.elim
instance works37_cv : CV Tryz.prog 4 [] (.bool true) True := ⟨fun _ w => works37 w⟩
end Go.Proofs.YtpmomimaihjmjaaGreat
/- Along a line that is told to be clear no ground is nearer: the plain law. -/
namespace Go.Proofs.YtpmomimaihjmjaaGreat
open Go.RowKit
theorem side_mix {p q x x0 y y0 ax ay : Int} (hx : x0 ≤ x ∧ x ≤ x0 + 256) (hy : y0 ≤ y ∧ y ≤ y0 + 256) (h : p * (y - ay) - q * (x - ax) = 0) :
    (0 ≤ p * (y0 - ay) - q * (x0 - ax) ∨ 0 ≤ p * (y0 - ay) - q * (x0 + 256 - ax) ∨ 0 ≤ p * (y0 + 256 - ay) - q * (x0 - ax) ∨ 0 ≤ p * (y0 + 256 - ay) - q * (x0 + 256 - ax)) ∧
    (p * (y0 - ay) - q * (x0 - ax) ≤ 0 ∨ p * (y0 - ay) - q * (x0 + 256 - ax) ≤ 0 ∨ p * (y0 + 256 - ay) - q * (x0 - ax) ≤ 0 ∨ p * (y0 + 256 - ay) - q * (x0 + 256 - ax) ≤ 0) := by
  have m : ∀ {p a b : Int}, a ≤ b → (0 ≤ p → p * a ≤ p * b) ∧ (p ≤ 0 → p * b ≤ p * a) := fun {p a b} h => ⟨fun hp => Int.mul_le_mul_of_nonneg_left h hp, fun hp => Int.mul_le_mul_of_nonpos_left hp h⟩
  have a1 := m (p := p) (show y0 - ay ≤ y - ay by omega)
  have a2 := m (p := p) (show y - ay ≤ y0 + 256 - ay by omega)
  have b1 := m (p := q) (show x0 - ax ≤ x - ax by omega)
  have b2 := m (p := q) (show x - ax ≤ x0 + 256 - ax by omega)
  generalize p * (y0 - ay) = P0 at *
  generalize p * (y0 + 256 - ay) = P1 at *
  generalize p * (y - ay) = PP at *
  generalize q * (x0 - ax) = Q0 at *
  generalize q * (x0 + 256 - ax) = Q1 at *
  generalize q * (x - ax) = QQ at *
  rcases Int.le_total 0 p with hp | hp <;> rcases Int.le_total 0 q with hq | hq <;> simp only [hp, hq, true_implies] at a1 a2 b1 b2 <;> omega
/-- A place on a line lies in a cell that the line touches. -/
theorem tou_pt {ax ay bx by_ X Y i k : Int} (hs : sideF ax ay bx by_ X Y = 0) (hx : min ax bx ≤ X ∧ X ≤ max ax bx) (hy : min ay by_ ≤ Y ∧ Y ≤ max ay by_) (hi : 256 * i ≤ X ∧ X ≤ 256 * i + 256) (hk : 256 * k ≤ Y ∧ Y ≤ 256 * k + 256) : touP ax ay bx by_ i k := by
  have h := side_mix (p := bx - ax) (q := by_ - ay) (ax := ax) (ay := ay) hi hk hs
  exact ⟨by omega, by omega, h.1, h.2⟩
theorem hi_cor {W H : Nat} {f : List Int} {X Y : Int} {M : Int} (hM : ∀ i, i < 4 → (corR W H f X Y (i % 2) (i / 2)).1 ≤ M) (h0 : -1048576 ≤ M) : hiN W H f X Y 4 ≤ M := by
  have h := fun i hi => hM i hi
  have h1 := h 0 (by omega)
  have h2 := h 1 (by omega)
  have h3 := h 2 (by omega)
  have h4 := h 3 (by omega)
  simp only [hiN]
  omega
/-- A place between two others. -/
structure OnL (ax ay bx by_ X Y : Int) : Prop where
  s : sideF ax ay bx by_ X Y = 0
  x : min ax bx ≤ X ∧ X ≤ max ax bx
  y : min ay by_ ≤ Y ∧ Y ≤ max ay by_
theorem onL_of {ax ay dx dy : Int} {i m : Int} (h0 : 0 ≤ i) (h1 : i ≤ m) : OnL ax ay (ax + dx * m) (ay + dy * m) (ax + dx * i) (ay + dy * i) := by
  have m : ∀ d : Int, (0 ≤ d → 0 ≤ d * i ∧ d * i ≤ d * m) ∧ (d ≤ 0 → d * m ≤ d * i ∧ d * i ≤ 0) := fun d => ⟨fun hd => ⟨Int.mul_nonneg hd h0, Int.mul_le_mul_of_nonneg_left h1 hd⟩, fun hd => ⟨Int.mul_le_mul_of_nonpos_left hd h1, Int.mul_nonpos_of_nonpos_of_nonneg hd h0⟩⟩
  refine ⟨by unfold sideF; grind, ?_, ?_⟩
  · have := m dx
    rcases Int.le_total 0 dx with hd | hd <;> simp only [hd, true_implies] at this <;> omega
  · have := m dy
    rcases Int.le_total 0 dy with hd | hd <;> simp only [hd, true_implies] at this <;> omega
theorem corH_ok {W H : Nat} {f : List Int} {ax ay bx by_ X Y : Int} (hz : f.length = W * H) (hI : InsP W H X Y) (ho : OnL ax ay bx by_ X Y) (hv : vdB W f ax ay bx by_ = false) (i : Nat) (hi : i < 4) :
    (corH W H f X Y i).2 = 0 ∧ (corH W H f X Y i).1 ≤ hiTo W f ax ay bx by_ f.length := by
  obtain ⟨i1, i2, i3, i4⟩ := hI
  unfold corH
  have key : ∀ (Z : Int) (j : Nat), j ≤ 1 → 0 ≤ Z → (corX Z j = Z / 256 ∨ (corX Z j = Z / 256 + 1 ∧ Z % 256 ≠ 0)) := fun Z j hj _ => by
    unfold corX
    split
    · exact .inl (by omega)
    · rename_i h
      rcases Nat.lt_or_ge 0 j with h1 | h1
      · exact .inr ⟨by omega, h⟩
      · exact .inl (by omega)
  have kx := key X (i % 2) (by omega) i1
  have ky := key Y (i / 2) (by omega) i2
  generalize corX X (i % 2) = cx at *
  generalize corX Y (i / 2) = cy at *
  have ht : touP ax ay bx by_ (X / 256) (Y / 256) := tou_pt ho.s ho.x ho.y (by omega) (by omega)
  have hc : corP ax ay bx by_ cx cy := by
    unfold corP
    rcases kx with rfl | ⟨rfl, _⟩ <;> rcases ky with rfl | ⟨rfl, _⟩
    · exact .inl ht
    · exact .inr (.inr (.inl (by rw [Int.add_sub_cancel]; exact ht)))
    · exact .inr (.inl (by rw [Int.add_sub_cancel]; exact ht))
    · exact .inr (.inr (.inr (by rw [Int.add_sub_cancel, Int.add_sub_cancel]; exact ht)))
  obtain ⟨x, rfl⟩ : ∃ x : Nat, cx = x := ⟨cx.toNat, by omega⟩
  obtain ⟨y, rfl⟩ : ∃ y : Nat, cy = y := ⟨cy.toNat, by omega⟩
  have hx : x < W := by omega
  have hy : y < H := by omega
  obtain ⟨q1, q2, q3⟩ := xy_idx hx hy
  have hcI : corI W ax ay bx by_ (y * W + x) := by unfold corI; rw [q2, q3]; exact hc
  have hnv : f.getD (y * W + x) 0 ≠ -32768 := fun e => by
    have := (vdB_iff W f ax ay bx by_).2 ⟨_, by omega, hcI, e⟩
    rw [hv] at this
    exact absurd this (by decide)
  have e : heightF W H f x y = (f.getD (y * W + x) 0, 0) := by
    unfold heightF
    rw [if_neg (by omega), show ((y : Int) * W + x).toNat = y * W + x by rw [← Int.natCast_mul, ← Int.natCast_add, Int.toNat_natCast], if_neg hnv]
  rw [e]
  exact ⟨rfl, hiTo_ge _ _ (by omega) hcI⟩
theorem safe_plain {W H : Nat} {f : List Int} {ax ay bx by_ X Y : Int} (hz : f.length = W * H) (hf : In16 f) (hI : InsP W H X Y) (ho : OnL ax ay bx by_ X Y) (hv : vdB W f ax ay bx by_ = false) :
    codeF W H f X Y = 0 ∧ heightT W H f X Y ≤ 16 * hiTo W f ax ay bx by_ f.length := by
  have h := corH_ok hz hI ho hv
  have hc : codeF W H f X Y = 0 := by
    unfold codeF
    rw [if_pos hI]
    simp only [codeT, (h 0 (by omega)).1, (h 1 (by omega)).1, (h 2 (by omega)).1, (h 3 (by omega)).1, ne_eq, not_true_eq_false, if_false]
  refine ⟨hc, ?_⟩
  have h0 := (near_law hc).2.2
  have h1 : hiN W H f X Y 4 ≤ hiTo W f ax ay bx by_ f.length := hi_cor (fun i hi => by
    have hk := corR_in hI (f := f) i
    rw [show corR W H f X Y (i % 2) (i / 2) = _ from hk]
    exact (h i hi).2) (by
    have h2 := heightF_in (W := W) (H := H) hf (corX X (0 % 2)) (corX Y (0 / 2))
    have h3 := (h 0 (by omega)).2
    unfold corH at h3
    omega)
  omega
/-- Where two places lie on the field, all between do. -/
theorem insP_mid {W H : Nat} {ax ay bx by_ X Y : Int} (ho : OnL ax ay bx by_ X Y) (ha : onP37 W H ax ay) (hb : onP37 W H bx by_) : InsP W H X Y := by
  obtain ⟨a1, a2, a3, a4⟩ := ha
  obtain ⟨b1, b2, b3, b4⟩ := hb
  have := ho.x
  have := ho.y
  exact ⟨by omega, by omega, by omega, by omega⟩
end Go.Proofs.YtpmomimaihjmjaaGreat
/- Layer 37: the walk of RayUnder. -/
namespace Go.Proofs.YtpmomimaihjmjaaGreat
open Go.RowKit
theorem wrap16 (x : Int) : InR .i16 (IntKind.i16.wrap x) := by
  have h : IntKind.i16.wrap x = if 32768 ≤ x % 65536 then x % 65536 - 65536 else x % 65536 := by simp [IntKind.wrap, IntKind.bits, IntKind.signed]
  rw [h]
  show -32768 ≤ _ ∧ _ ≤ 32767
  split <;> omega
theorem fieldF_in {z : List Int} (hz : ∀ v ∈ z, InR .i16 v) (m : Nat) : ∀ v ∈ fieldF z m, InR .i16 v := by
  intro v hv
  unfold fieldF at hv
  obtain ⟨i, -, rfl⟩ := List.mem_map.1 hv
  unfold fieldV
  split
  · rename_i h
    rw [List.getD_eq_getElem?_getD, List.getElem?_eq_getElem h]
    exact hz _ (List.getElem_mem ..)
  split
  · exact wrap16 _
  · show -32768 ≤ ((i % 7 : Nat) : Int) ∧ ((i % 7 : Nat) : Int) ≤ 32767
    omega
/-- A field's pyramid. -/
theorem newF (W H : Nat) (z : List Int) (m : Nat) (hm : m = W * H) (hW : 2 ≤ W ∧ W ≤ 40) (hH : 2 ≤ H ∧ H ≤ 40) (hz : ∀ v ∈ z, InR .i16 v) (A : Option Addr) (c : Nat) (w : World) (hr : RoA w (blocks []) A (fieldF z m).length c 1 (ints .i16 (fieldF z m))) :
    Does Tryz.prog 6 [.agg #[.int .i64 W, .int .i64 H, .slice A (fieldF z m).length c]] [] w (fun v S' => ∃ p AL cL st, Pyr37 W H (fieldF z m) st ∧ v = .tuple #[.pointer (some ⟨p, 0, none⟩), .int .i64 0] ∧ S' = pyrH p AL cL st 0) :=
  newP W H A c (fieldF z m) w hr (fieldF_in hz m) (by unfold chkF; rw [if_neg (by omega), if_pos (by rw [fieldF_len, hm]; push_cast; rfl)]) ⟨by omega, by omega, by omega, by omega⟩ (by rw [fieldF_len, hm])
attribute [local irreducible] OJ J HdJ Code.wpIn wpListIn Oper.wpIn bodyPost CallsIn Does
set_option maxRecDepth 4000
end Go.Proofs.YtpmomimaihjmjaaGreat
/- The ground's height, its bounds. -/
namespace Go.Proofs.YtpmomimaihjmjaaGreat
open Go.RowKit
theorem heightT_in {W H : Nat} {f : List Int} (hf : In16 f) (X Y : Int) : -1048576 ≤ heightT W H f X Y ∧ heightT W H f X Y ≤ 1048576 := by
  unfold heightT
  split
  · obtain ⟨a, b, c, d, e, ha, hb, hc, hd⟩ := fourF_in hf (W := W) (H := H) X Y
    rw [e]
    simp only [exL]
    obtain ⟨h1, h2, h3, h4, h5, h6⟩ := exF_in (fx := X % 256) (fy := Y % 256) ⟨ha, hb, hc, hd⟩ (by omega) (by omega)
    have g1 := Int.mul_le_mul_of_nonneg_right (show a * (256 - X % 256) + b * (X % 256) ≤ 8388608 from by
      have := Int.mul_le_mul_of_nonneg_right ha.2 (show 0 ≤ 256 - X % 256 by omega)
      have := Int.mul_le_mul_of_nonneg_right hb.2 (show 0 ≤ X % 256 by omega)
      omega) (show 0 ≤ 256 - Y % 256 by omega)
    have g2 := Int.mul_le_mul_of_nonneg_right (show c * (256 - X % 256) + d * (X % 256) ≤ 8388608 from by
      have := Int.mul_le_mul_of_nonneg_right hc.2 (show 0 ≤ 256 - X % 256 by omega)
      have := Int.mul_le_mul_of_nonneg_right hd.2 (show 0 ≤ X % 256 by omega)
      omega) (show 0 ≤ Y % 256 by omega)
    have g3 := Int.mul_le_mul_of_nonneg_right (show -8388608 ≤ a * (256 - X % 256) + b * (X % 256) from by
      have := Int.mul_le_mul_of_nonneg_right ha.1 (show 0 ≤ 256 - X % 256 by omega)
      have := Int.mul_le_mul_of_nonneg_right hb.1 (show 0 ≤ X % 256 by omega)
      omega) (show 0 ≤ 256 - Y % 256 by omega)
    have g4 := Int.mul_le_mul_of_nonneg_right (show -8388608 ≤ c * (256 - X % 256) + d * (X % 256) from by
      have := Int.mul_le_mul_of_nonneg_right hc.1 (show 0 ≤ 256 - X % 256 by omega)
      have := Int.mul_le_mul_of_nonneg_right hd.1 (show 0 ≤ X % 256 by omega)
      omega) (show 0 ≤ Y % 256 by omega)
    unfold exF
    omega
  · omega
end Go.Proofs.YtpmomimaihjmjaaGreat
/- Layer 37: the walk of RaySafe. -/
namespace Go.Proofs.YtpmomimaihjmjaaGreat
open Go.RowKit
theorem clF_ok {W H : Nat} {z : List Int} {ax ay bx by_ high : Int} (h : (clF W H z ax ay bx by_ high).2 = 0) :
    (-1099511627776 ≤ high ∧ high ≤ 1099511627776) ∧ onP37 W H ax ay ∧ onP37 W H bx by_ ∧ vdB W z ax ay bx by_ = false ∧ (clF W H z ax ay bx by_ high).1 = high - 16 * hiTo W z ax ay bx by_ z.length := by
  unfold clF at h ⊢
  by_cases h1 : -1099511627776 ≤ high ∧ high ≤ 1099511627776
  · rw [if_neg (Decidable.not_not.2 h1)] at h ⊢
    by_cases h2 : (unF W H z ax ay bx by_).2.2 = 0
    · rw [if_neg (by omega)]
      unfold unF at h2
      by_cases g1 : Line37 ax ay bx by_
      · rw [if_neg (Decidable.not_not.2 g1)] at h2
        by_cases g2 : (onB W H ax ay && onB W H bx by_) = false
        · rw [if_pos g2] at h2; exact absurd h2 (by decide)
        · rw [if_neg g2] at h2
          by_cases g3 : vdB W z ax ay bx by_ = true
          · rw [if_pos g3] at h2; exact absurd h2 (by decide)
          · have g2' : onB W H ax ay = true ∧ onB W H bx by_ = true := by simpa using g2
            refine ⟨h1, (onB_iff _ _ _ _).1 g2'.1, (onB_iff _ _ _ _).1 g2'.2, by simpa using g3, ?_⟩
            show high - 16 * (unF W H z ax ay bx by_).2.1 = _
            unfold unF
            rw [if_neg (Decidable.not_not.2 g1), if_neg g2, if_neg g3]
      · rw [if_pos g1] at h2; exact absurd h2 (by decide)
    · rw [if_pos h2] at h; exact absurd h h2
  · rw [if_pos h1] at h; exact absurd h (by decide)
attribute [local irreducible] OJ J HdJ Code.wpIn wpListIn Oper.wpIn bodyPost CallsIn Does
set_option maxRecDepth 4000
set_option maxHeartbeats 64000000 in
theorem raysafe_law (a : Int) (ha : InR .u8 a) (b : Int) (hb : InR .u8 b) (A : Option Addr) (c : Nat) (z : List Int) {w : World} (hr : RoA w (blocks []) A z.length c 1 (ints .i16 z)) (hz : ∀ x ∈ z, InR .i16 x) (ax : Int) (hax : InR .i64 ax) (ay : Int) (hay : InR .i64 ay) (dx : Int) (hdx : InR .i16 dx) (dy : Int) (hdy : InR .i16 dy) (nn : Int) (hnn : InR .u8 nn) (high : Int) (hhigh : InR .i64 high) :
    Does Tryz.prog 3 [.int .u8 a, .int .u8 b, .slice A z.length c, .agg #[.int .i64 ax, .int .i64 ay], .int .i16 dx, .int .i16 dy, .int .u8 nn, .int .i64 high] [] w (fun v _ => v = .bool true) := by
  have ha1 : 0 ≤ a ∧ a ≤ 255 := ha
  have hb1 : 0 ≤ b ∧ b ≤ 255 := hb
  have hn1 : 0 ≤ nn ∧ nn ≤ 255 := hnn
  have hx1 : -32768 ≤ dx ∧ dx ≤ 32767 := hdx
  have hy1 : -32768 ≤ dy ∧ dy ≤ 32767 := hdy
  obtain ⟨W, hW, hW1⟩ : ∃ x : Nat, 2 + a % 39 = (x : Int) ∧ 2 ≤ x ∧ x ≤ 40 := ⟨(2 + a % 39).toNat, by omega, by omega⟩
  obtain ⟨H, hH, hH1⟩ : ∃ x : Nat, 2 + b % 39 = (x : Int) ∧ 2 ≤ x ∧ x ≤ 40 := ⟨(2 + b % 39).toNat, by omega, by omega⟩
  obtain ⟨M, hM, hM1⟩ : ∃ x : Nat, nn % 60 + 1 = (x : Int) ∧ 1 ≤ x ∧ x ≤ 60 := ⟨(nn % 60 + 1).toNat, by omega, by omega⟩
  have mx := mulB 32768 60 (a := dx) (b := nn % 60 + 1) (by omega) (by omega)
  have my := mulB 32768 60 (a := dy) (b := nn % 60 + 1) (by omega) (by omega)
  refine does_of Tryz.func3 rfl Tryz.ntmps3 rfl ⟨by simp, .nil⟩ (fun n => ?_)
  simp only [slots]
  refine z_tas
  · exact j_out1 rfl rfl (.nil _) rfl
  refine lf rfl rfl rfl (S := []) (fun w hw ho => made_any a b ha hb W H hW hH A c z 30 (by decide) 0 0 w ⟨hr.h.go hw (Split.nil _)⟩ (by omega)) ?_
  rintro v S' ⟨Af, cf, rfl, rfl⟩
  have hN := fun c A w hr => newF W H z (W * H) rfl hW1 hH1 hz A c w hr
  have hfl := fieldF_len z (W * H)
  have hfi := field_in16 hz (W * H)
  generalize fieldF z (W * H) = f at *
  rw [show (1 + 30 % 1000 : Int) = ((31 : Nat) : Int) by decide]
  have hcb : 2 ≤ W ∧ W ≤ 256 ∧ 2 ≤ H ∧ H ≤ 256 ∧ 1 ≤ 31 ∧ 31 ≤ 1000 := by omega
  obtain ⟨-, h2, h3, -, -, -⟩ := chart_hdr (ox := 0) (oy := 0) (z := f) (W := W) (H := H) (cell := 31) (by omega)
  refine z_tas
  refine lf rfl rfl rfl (S := []) (fun w hw ho => hN cf Af w ⟨Ro.row hw (Split.nil _) (by refine z_hs)⟩) ?_
  rintro v S' ⟨p, AL, cL, st, hP, rfl, rfl⟩
  refine j_swap (S := pyrH p AL cL st 0) ?_
  refine z_tas
  refine lf rfl rfl rfl (S := []) (fun w hw ho => open10 W H 31 Af cf f 0 0 4 w ⟨Ro.row hw (Split.nil _) (by refine z_hs)⟩ hcb hfl hfi (by decide) (by decide) (by omega)) ?_
  rintro v S' ⟨K, hys, hrm, rfl, rfl⟩
  have hF : CaF K.ys f K.room := by rw [hys, hrm]; exact caF_of hcb hfl hfi (by omega)
  rw [← hys] at h2 h3
  by_cases hl : Line37 ax ay ax ay
  · have hc0 : chk37 ax ay ax ay = 0 := if_pos hl
    have hax1 := hl.1
    have hay1 := hl.2.1
    have iC : CV Tryz.prog 8 [.agg #[.int .i64 ax, .int .i64 ay], .agg #[.int .i64 ax, .int .i64 ay]] (.int .i64 0) True := ⟨fun q w => hc0 ▸ (chk37_any ax ay ax ay).h q w⟩
    refine z_tas
    all_goals try (exfalso; omega)
    rename_i b11 hlen b17 b22
    rw [hM]
    rw [hM] at mx my
    refine lfn rfl rfl (Split.pre (pyrH p AL cL st 0) [_, _, _, _, _, _, _, _]) rfl (fun w hw ho => clear_any p AL cL st 0 W H f hP ax ay (ax + dx * (M : Int)) (ay + dy * (M : Int)) high w ho) ?_
    rintro v S' ⟨rfl, s2, rfl⟩
    have hck := clF_ok (W := W) (H := H) (z := f) (ax := ax) (ay := ay) (bx := ax + dx * (M : Int)) (by_ := ay + dy * (M : Int)) (high := high)
    generalize clF W H f ax ay (ax + dx * (M : Int)) (ay + dy * (M : Int)) high = u at *
    refine j_swap ?_
    rcases Decidable.em (u.2 = 0) with hu | hu
    · obtain ⟨hh, hoa, hob, hvd, hk⟩ := hck hu
      rw [hu, hk]
      have hib := hiTo_bnd (W := W) (z := f) (ax := ax) (ay := ay) (bx := ax + dx * (M : Int)) (by_ := ay + dy * (M : Int)) hP.i16 f.length (Nat.le_refl _)
      have hsp := fun X Y hI ho => safe_plain (X := X) (Y := Y) hfl hfi hI ho hvd
      generalize hiTo W f ax ay (ax + dx * (M : Int)) (ay + dy * (M : Int)) f.length = hi at *
      refine z_tas
      refine c_loop (X := Nat × CaV) (fun q => q.1 ≤ M + 1 ∧ CaOk K.ys f K.room q.2 (4 * (q.1 : Int))) (fun q => [(4, .int .i16 dx), (5, .int .i16 dy), (7, .int .i64 high), (11, .pointer (some ⟨b11, 0, none⟩)), (20, .pointer (some ⟨K.g, 0, none⟩)), (21, .int .i64 M), (23, .int .i64 (high - 16 * hi)), (25, .int .i64 q.1)])
        (fun q => K.HC q.2 [.blk b11 24 [.int .i64 ax, .int .i64 ay]]) (fun q => M + 1 - q.1) (0, newV 4) ⟨by omega, by rw [hrm]; exact newV_ok (by omega)⟩ ⟨rfl, rfl, rfl, rfl, rfl, rfl, rfl, rfl, trivial⟩ Sub.au ?_
      rintro ⟨i, s⟩ ⟨hi1, hs⟩
      dsimp only at hi1 hs ⊢
      rcases Nat.lt_or_ge M i with h | h
      · obtain rfl : i = M + 1 := by omega
        refine z_tas
        all_goals first
          | exact j_out1 rfl rfl (.nil _) rfl
          | (exfalso; omega)
      · have nx := mulB 32768 60 (a := dx) (b := (i : Int)) (by omega) (by omega)
        have ny := mulB 32768 60 (a := dy) (b := (i : Int)) (by omega) (by omega)
        have ho : OnL ax ay (ax + dx * (M : Int)) (ay + dy * (M : Int)) (ax + dx * (i : Int)) (ay + dy * (i : Int)) := onL_of (by omega) (by omega)
        obtain ⟨e1, e2⟩ := hsp _ _ (insP_mid ho hoa hob) ho
        have e3 := heightT_in hfi (W := W) (H := H) (ax + dx * (i : Int)) (ay + dy * (i : Int))
        refine z_tas
        refine lf rfl rfl rfl (S := K.H s) (fun w hw ho => height_t K s f (ax + dx * (i : Int)) (ay + dy * (i : Int)) (4 * (i : Int)) w ho hF hs (by omega)) ?_
        rintro v S' ⟨s', rfl, k1, rfl⟩
        rw [show 4 * (i : Int) + 4 = 4 * ((i + 1 : Nat) : Int) by omega] at k1
        rw [h2, h3, e1]
        generalize heightT W H f (ax + dx * (i : Int)) (ay + dy * (i : Int)) = tt at *
        refine z_tas
        all_goals try (exfalso; omega)
        exact c_round (i + 1, s') ⟨by omega, k1⟩ (by show M + 1 - (i + 1) < M + 1 - i; omega) ⟨rfl, rfl, rfl, rfl, rfl, rfl, rfl, by simp [look], trivial⟩ Sub.au
    · refine z_tas
      all_goals first
        | exact j_out1 rfl rfl (.nil _) rfl
        | (exfalso; omega)
  · have hc0 : chk37 ax ay ax ay = 2 := if_neg hl
    have iC : CV Tryz.prog 8 [.agg #[.int .i64 ax, .int .i64 ay], .agg #[.int .i64 ax, .int .i64 ay]] (.int .i64 2) True := ⟨fun q w => hc0 ▸ (chk37_any ax ay ax ay).h q w⟩
    refine z_tas
    exact j_out1 rfl rfl (.nil _) rfl
end Go.Proofs.YtpmomimaihjmjaaGreat
/- The way from a contract of a law's function to the given statement: what the arguments are, and what is left of them. -/
namespace Go.Proofs.YtpmomimaihjmjaaGreat
open Go.ChangeShapes Go.WideShapes Go.ChangeAt Go.RowKit Go.Deep Go.Joins

theorem below_of {P : Program} {f : FuncId} {args : List Value} {w : World} {v0 : Value} (h : Does P f args [] w (fun v _ => v = v0)) : Calls P f args.toArray w fun e w' => e = .returned v0 ∧ Below w.heap.size w w' := by
  refine h.calls.mono ?_
  rintro e w' ⟨v, S', rfl, rfl, hst⟩
  exact ⟨rfl, hst.os, hst.tape, hst.output, hst.size, fun k hk => hst.old k hk (by rintro ⟨x, hx, _⟩; cases hx)⟩

section
variable {H : Type} {enc : TypeId × Value → H} {P : Program} {w : World} {base : Nat} {spare : Nat → Bool} {held : Bool}
theorem post_below {f : Func} {s : ChangeSpec} {apart fresh handsOn again : Bool} {W W' : World} {args : Array Value} {v : Value} {ds gs : List (DataW H)} {before pa pv : List MemPlace}
    (hW : DataW.Whole enc P f.params.toList s.vars apart W args.toList ds gs before)
    (hres : ∀ (b : Nat) (sp : Nat → Bool) (hd : Bool), DataW.TrodAll enc P W' b sp hd f.resultTypes.toList (v.resultList f.resultTypes.size) (s.fn H (ds ++ gs)).results [])
    (hargs : ∀ sp : Nat → Bool, (∀ p ∈ before, sp p.block = true) → DataW.TrodAll enc P W' 0 sp true f.params.toList args.toList (s.fn H (ds ++ gs)).args pa)
    (hvars : ∀ sp : Nat → Bool, (∀ p ∈ before, sp p.block = true) → DataW.TrodVars enc P W' sp s.vars (s.fn H (ds ++ gs)).vars pv)
    (hps : before = pa ++ pv) (hb : Below W.heap.size W W')
    (hok : ∀ (j : Nat) (t : TypeId) (r : Value), f.resultTypes[j]? = some t → (v.resultList f.resultTypes.size)[j]? = some r → Value.okWide P W' .any 0 t r) :
    s.post enc P f apart fresh handsOn again W args v W' := by
  have hlt : ∀ p ∈ before, p.block < W.heap.size := fun p hp => hW.lt p hp
  have hold : ∀ p ∈ before, (fun b => decide (b < W.heap.size)) p.block = true := fun p hp => by simpa using hlt p hp
  refine ⟨ds, gs, before, [], pa, pv, hW, hres _ _ _, hargs _ hold, hvars _ hold, World.keptBut_mono (fun p hp => ⟨hp, ?_⟩) (hb.frame (· ∈ before)), fun _ => ?_⟩
  · rw [hps, List.mem_append] at hp
    exact Or.inr hp
  · obtain ⟨_, _, _, _, _, hz, hn⟩ := hW
    refine ⟨hok, _, _, ([] ++ pa) ++ pv, ⟨[] ++ pa, pv, trodAll_append (hargs _ (fun _ _ => rfl)) (hres _ _ _), hvars _ (fun _ _ => rfl), rfl, ?_, ?_⟩, ?_⟩
    · intro b off hp
      have hin : MemPlace.cell b off ∈ before := by rw [hps]; simpa using hp
      rw [hb.frozen (hlt _ hin)]
      exact hz b off hin
    · intro ha
      have := hn ha
      rw [hps] at this
      simpa using this
    · intro p hp _
      rw [hps]
      simpa using hp
theorem trodAll_stays (hl : laidOutB P = true) {W W' : World} {sp' : Nat → Bool} : ∀ (ts : List TypeId) (vs : List Value) (ds : List (DataW H)) (ps : List MemPlace), (∀ t ∈ ts, P.readableRec t = true ∧ t < P.types.size) →
    DataW.TrodAll enc P W base (fun _ => true) true ts vs ds ps → (∀ p ∈ ps, W.sameAt W' p) → (∀ p ∈ ps, sp' p.block = true) → DataW.TrodAll enc P W' base sp' true ts vs ds ps
  | [], [], [], ps, _, h, _, _ => h
  | t :: ts, v :: vs, d :: ds, ps, hr, h, hs, hsp => by
    obtain ⟨p, q, h1, h2, rfl⟩ := h
    have ht := hr t (by simp)
    exact ⟨p, q, Go.WideElems.Trod_stays hl ht.1 ht.2 h1 (fun x hx => hs x (by simp [hx])) (fun x hx => hsp x (by simp [hx])), trodAll_stays hl ts vs ds q (fun t ht => hr t (by simp [ht])) h2 (fun x hx => hs x (by simp [hx])) (fun x hx => hsp x (by simp [hx])), rfl⟩
  | [], _ :: _, _, _, _, h, _, _ => h.elim
  | [], [], _ :: _, _, _, h, _, _ => h.elim
  | _ :: _, [], _, _, _, h, _, _ => h.elim
  | _ :: _, _ :: _, [], _, _, h, _, _ => h.elim
theorem trodAll_len : ∀ (ts : List TypeId) (vs : List Value) (ds : List (DataW H)) (ps : List MemPlace), DataW.TrodAll enc P w base spare held ts vs ds ps → ds.length = ts.length
  | [], [], [], _, _ => rfl
  | t :: ts, v :: vs, d :: ds, ps, h => by
    obtain ⟨p, q, h1, h2, rfl⟩ := h
    rw [List.length_cons, List.length_cons, trodAll_len ts vs ds q h2]
  | [], _ :: _, _, _, h => h.elim
  | [], [], _ :: _, _, h => h.elim
  | _ :: _, [], _, _, h => h.elim
  | _ :: _, _ :: _, [], _, h => h.elim
/-- A law that returned true, and left all below as it was. -/
theorem gate_post {f : Func} {s : ChangeSpec} {W W' : World} {args : Array Value} {ds gs : List (DataW H)} {before : List MemPlace} {tb : TypeId} (hl : laidOutB P = true) (hub : P.underlying tb = some .bool)
    (hW : DataW.Whole enc P f.params.toList s.vars false W args.toList ds gs before) (hvars : s.vars = []) (hrt : f.resultTypes = #[tb])
    (hsp : ∀ es : List (DataW H), es.length = f.params.size → s.fn H es = { results := [.lit (.bool true)], args := es })
    (hread : ∀ t ∈ f.params.toList, P.readableRec t = true ∧ t < P.types.size) (hb : Below W.heap.size W W') : s.post enc P f false true false false W args (.bool true) W' := by
  have hW' := hW
  obtain ⟨p, q, hA, hV, hbe, hfz, hnd⟩ := hW
  rw [hvars] at hV
  obtain ⟨rfl, rfl⟩ := trodVars_none hV
  have hlen := trodAll_len _ _ _ _ hA
  have hfn := hsp ds (by rw [hlen]; simp)
  have hlt : ∀ x ∈ p, x.block < W.heap.size := fun x hx => hW'.lt x (by rw [hbe]; simp [hx])
  refine post_below (pa := p) (pv := []) hW' (fun _ _ _ => ?_) (fun sp hs => ?_) (fun _ _ => ?_) (by simpa using hbe) hb ?_
  · rw [List.append_nil, hfn, hrt]
    exact trodAll_mk1 (shut_bool hub true)
  · rw [List.append_nil, hfn]
    exact trodAll_stays hl _ _ _ _ hread hA (fun x hx => hb.same (hlt x hx)) (fun x hx => hs x (by rw [hbe]; simp [hx]))
  · rw [List.append_nil, hfn, hvars]
    rfl
  · exact ok_one hrt rfl (okWide_bool_mk hub true)

theorem wf_in {k : IntKind} {n : Int} (h : (Lit.int k n).wf = true) : InR k n := by
  cases k <;> simp [Lit.wf, IntKind.min, IntKind.max, IntKind.signed, IntKind.bits] at h <;> simp only [InR] <;> omega
theorem gate_int {r : Reach} {b0 : Nat} {t : TypeId} {k : IntKind} {v : Value} {d : DataW H} {ps : List MemPlace} (ht : P.underlying t = some (.int k)) (hval : Value.okWide P w r b0 t v) (hd : DataW.Trod enc P w base spare held t v d ps) : ∃ n, v = .int k n ∧ InR k n := by
  obtain ⟨n, h1, -, -, h4⟩ := open_int ht hval hd
  exact ⟨n, h1, wf_in h4⟩
theorem gate_bool {r : Reach} {b0 : Nat} {t : TypeId} {v : Value} {d : DataW H} {ps : List MemPlace} (ht : P.underlying t = some .bool) (hval : Value.okWide P w r b0 t v) (hd : DataW.Trod enc P w base spare held t v d ps) : ∃ b, v = .bool b := by
  obtain ⟨n, h1, -, -⟩ := open_bool ht hval hd
  exact ⟨n, h1⟩
theorem gate_ints {r : Reach} {b0 : Nat} {t e : TypeId} {k : IntKind} {v : Value} {d : DataW H} {ps : List MemPlace} (ht : P.underlying t = some (.slice e)) (he : P.underlying e = some (.int k)) (hC : P.cellsOf e = 1) (hv : Value.okWide P w r b0 t v) (h : DataW.Trod enc P w 0 (fun _ => true) true t v d ps) :
    ∃ (A : Option Addr) (c : Nat) (xs : List Int), v = .slice A xs.length c ∧ RoA w (blocks []) A xs.length c 1 (ints k xs) ∧ ∀ x ∈ xs, InR k x := by
  obtain ⟨a0, len, cap, rfl⟩ := okWide_slice ht hv
  obtain ⟨fuel, hf⟩ := h
  have hf' : DataW.trod enc P w 0 (fun _ => true) true fuel t [.slice a0 len cap] = some (d, ps) := by simpa [Value.cells] using hf
  rcases open_ints ht he hC hf' with ⟨hcs, -⟩ | ⟨a, len', cap', zs, hcs, -, hl, hm, hmm, -, hcell, hwf⟩
  · simp at hcs
    obtain ⟨rfl, rfl, rfl⟩ := hcs
    exact ⟨none, 0, [], rfl, ⟨Ro.nil _ _ _⟩, by simp⟩
  · simp at hcs hmm
    obtain ⟨rfl, rfl, rfl⟩ := hcs
    have hlen : (zs.take len).length = len := by rw [List.length_take]; omega
    refine ⟨some a, cap, zs.take len, by rw [hlen], ⟨some a, cap, rfl, by omega, hm, by simp, fun hpos => ?_⟩, fun x hx => wf_in (hwf x (List.mem_of_mem_take hx))⟩
    rw [hlen] at hpos
    have hc0 := hcell 0 (by omega)
    obtain ⟨b, off, spot⟩ := a
    have hspot : spot = none := by simpa [Addr.add] using World.cell?_spot hc0
    subst hspot
    have hblt : b < w.heap.size := by
      rcases Nat.lt_or_ge b w.heap.size with hlt | hge
      · exact hlt
      · rw [add_none] at hc0; simp [World.cell?, Array.getElem?_eq_none hge] at hc0
    refine ⟨b, off, rfl, hblt, (by rintro ⟨x, hx, _⟩; cases hx), fun j u hu => ?_⟩
    have hj : j < len := by
      have := (List.getElem?_eq_some_iff.1 hu).1
      simpa [hlen] using this
    have := hcell j (by omega)
    rw [add_none] at this
    rw [this]
    simp only [ints, List.getElem?_map, List.getElem?_take, if_pos hj] at hu
    rw [List.getElem?_eq_getElem (by omega)] at hu
    simp at hu
    rw [← hu, List.getD_eq_getElem?_getD, List.getElem?_eq_getElem (by omega)]
    rfl
end
theorem own : ownKnob Tryz.prog.godebug = none := by kernel_rfl
theorem laidOut : laidOutB Tryz.prog = true := by kernel_rfl
end Go.Proofs.YtpmomimaihjmjaaGreat
/- The way from a contract to the given statement: arguments that are structs, and rows of structs; up to eight arguments. -/
namespace Go.Proofs.YtpmomimaihjmjaaGreat
open Go.ChangeShapes Go.WideShapes Go.ChangeAt Go.RowKit Go.Deep Go.Joins
section
variable {H : Type} {enc : TypeId × Value → H} {P : Program} {w : World} {base : Nat} {spare : Nat → Bool} {held : Bool}
theorem trodAll_five {t0 t1 t2 t3 t4 : TypeId} {args : Array Value} {ds : List (DataW H)} {ps : List MemPlace} (h : DataW.TrodAll enc P w base spare held [t0, t1, t2, t3, t4] args.toList ds ps) :
    ∃ v0 v1 v2 v3 v4 d0 d1 d2 d3 d4 p0 p1 p2 p3 p4, args = #[v0, v1, v2, v3, v4] ∧ ds = [d0, d1, d2, d3, d4] ∧ ps = p0 ++ p1 ++ p2 ++ p3 ++ p4 ∧ DataW.Trod enc P w base spare held t0 v0 d0 p0 ∧ DataW.Trod enc P w base spare held t1 v1 d1 p1 ∧ DataW.Trod enc P w base spare held t2 v2 d2 p2 ∧ DataW.Trod enc P w base spare held t3 v3 d3 p3 ∧ DataW.Trod enc P w base spare held t4 v4 d4 p4 := by
  obtain ⟨v0, vs0, d0, ds0, p0, q0, hargs, rfl, rfl, k0, h0⟩ := trodAll_cons h
  obtain ⟨v1, vs1, d1, ds1, p1, q1, rfl, rfl, rfl, k1, h1⟩ := trodAll_cons h0
  obtain ⟨v2, vs2, d2, ds2, p2, q2, rfl, rfl, rfl, k2, h2⟩ := trodAll_cons h1
  obtain ⟨v3, vs3, d3, ds3, p3, q3, rfl, rfl, rfl, k3, h3⟩ := trodAll_cons h2
  obtain ⟨v4, vs4, d4, ds4, p4, q4, rfl, rfl, rfl, k4, h4⟩ := trodAll_cons h3
  obtain ⟨rfl, rfl, rfl⟩ := trodAll_nil h4
  exact ⟨v0, v1, v2, v3, v4, d0, d1, d2, d3, d4, p0, p1, p2, p3, p4, by cases args; simp_all, rfl, by simp, k0, k1, k2, k3, k4⟩
theorem trodAll_six {t0 t1 t2 t3 t4 t5 : TypeId} {args : Array Value} {ds : List (DataW H)} {ps : List MemPlace} (h : DataW.TrodAll enc P w base spare held [t0, t1, t2, t3, t4, t5] args.toList ds ps) :
    ∃ v0 v1 v2 v3 v4 v5 d0 d1 d2 d3 d4 d5 p0 p1 p2 p3 p4 p5, args = #[v0, v1, v2, v3, v4, v5] ∧ ds = [d0, d1, d2, d3, d4, d5] ∧ ps = p0 ++ p1 ++ p2 ++ p3 ++ p4 ++ p5 ∧ DataW.Trod enc P w base spare held t0 v0 d0 p0 ∧ DataW.Trod enc P w base spare held t1 v1 d1 p1 ∧ DataW.Trod enc P w base spare held t2 v2 d2 p2 ∧ DataW.Trod enc P w base spare held t3 v3 d3 p3 ∧ DataW.Trod enc P w base spare held t4 v4 d4 p4 ∧ DataW.Trod enc P w base spare held t5 v5 d5 p5 := by
  obtain ⟨v0, vs0, d0, ds0, p0, q0, hargs, rfl, rfl, k0, h0⟩ := trodAll_cons h
  obtain ⟨v1, vs1, d1, ds1, p1, q1, rfl, rfl, rfl, k1, h1⟩ := trodAll_cons h0
  obtain ⟨v2, vs2, d2, ds2, p2, q2, rfl, rfl, rfl, k2, h2⟩ := trodAll_cons h1
  obtain ⟨v3, vs3, d3, ds3, p3, q3, rfl, rfl, rfl, k3, h3⟩ := trodAll_cons h2
  obtain ⟨v4, vs4, d4, ds4, p4, q4, rfl, rfl, rfl, k4, h4⟩ := trodAll_cons h3
  obtain ⟨v5, vs5, d5, ds5, p5, q5, rfl, rfl, rfl, k5, h5⟩ := trodAll_cons h4
  obtain ⟨rfl, rfl, rfl⟩ := trodAll_nil h5
  exact ⟨v0, v1, v2, v3, v4, v5, d0, d1, d2, d3, d4, d5, p0, p1, p2, p3, p4, p5, by cases args; simp_all, rfl, by simp, k0, k1, k2, k3, k4, k5⟩
theorem trodAll_seven {t0 t1 t2 t3 t4 t5 t6 : TypeId} {args : Array Value} {ds : List (DataW H)} {ps : List MemPlace} (h : DataW.TrodAll enc P w base spare held [t0, t1, t2, t3, t4, t5, t6] args.toList ds ps) :
    ∃ v0 v1 v2 v3 v4 v5 v6 d0 d1 d2 d3 d4 d5 d6 p0 p1 p2 p3 p4 p5 p6, args = #[v0, v1, v2, v3, v4, v5, v6] ∧ ds = [d0, d1, d2, d3, d4, d5, d6] ∧ ps = p0 ++ p1 ++ p2 ++ p3 ++ p4 ++ p5 ++ p6 ∧ DataW.Trod enc P w base spare held t0 v0 d0 p0 ∧ DataW.Trod enc P w base spare held t1 v1 d1 p1 ∧ DataW.Trod enc P w base spare held t2 v2 d2 p2 ∧ DataW.Trod enc P w base spare held t3 v3 d3 p3 ∧ DataW.Trod enc P w base spare held t4 v4 d4 p4 ∧ DataW.Trod enc P w base spare held t5 v5 d5 p5 ∧ DataW.Trod enc P w base spare held t6 v6 d6 p6 := by
  obtain ⟨v0, vs0, d0, ds0, p0, q0, hargs, rfl, rfl, k0, h0⟩ := trodAll_cons h
  obtain ⟨v1, vs1, d1, ds1, p1, q1, rfl, rfl, rfl, k1, h1⟩ := trodAll_cons h0
  obtain ⟨v2, vs2, d2, ds2, p2, q2, rfl, rfl, rfl, k2, h2⟩ := trodAll_cons h1
  obtain ⟨v3, vs3, d3, ds3, p3, q3, rfl, rfl, rfl, k3, h3⟩ := trodAll_cons h2
  obtain ⟨v4, vs4, d4, ds4, p4, q4, rfl, rfl, rfl, k4, h4⟩ := trodAll_cons h3
  obtain ⟨v5, vs5, d5, ds5, p5, q5, rfl, rfl, rfl, k5, h5⟩ := trodAll_cons h4
  obtain ⟨v6, vs6, d6, ds6, p6, q6, rfl, rfl, rfl, k6, h6⟩ := trodAll_cons h5
  obtain ⟨rfl, rfl, rfl⟩ := trodAll_nil h6
  exact ⟨v0, v1, v2, v3, v4, v5, v6, d0, d1, d2, d3, d4, d5, d6, p0, p1, p2, p3, p4, p5, p6, by cases args; simp_all, rfl, by simp, k0, k1, k2, k3, k4, k5, k6⟩
theorem trodAll_eight {t0 t1 t2 t3 t4 t5 t6 t7 : TypeId} {args : Array Value} {ds : List (DataW H)} {ps : List MemPlace} (h : DataW.TrodAll enc P w base spare held [t0, t1, t2, t3, t4, t5, t6, t7] args.toList ds ps) :
    ∃ v0 v1 v2 v3 v4 v5 v6 v7 d0 d1 d2 d3 d4 d5 d6 d7 p0 p1 p2 p3 p4 p5 p6 p7, args = #[v0, v1, v2, v3, v4, v5, v6, v7] ∧ ds = [d0, d1, d2, d3, d4, d5, d6, d7] ∧ ps = p0 ++ p1 ++ p2 ++ p3 ++ p4 ++ p5 ++ p6 ++ p7 ∧ DataW.Trod enc P w base spare held t0 v0 d0 p0 ∧ DataW.Trod enc P w base spare held t1 v1 d1 p1 ∧ DataW.Trod enc P w base spare held t2 v2 d2 p2 ∧ DataW.Trod enc P w base spare held t3 v3 d3 p3 ∧ DataW.Trod enc P w base spare held t4 v4 d4 p4 ∧ DataW.Trod enc P w base spare held t5 v5 d5 p5 ∧ DataW.Trod enc P w base spare held t6 v6 d6 p6 ∧ DataW.Trod enc P w base spare held t7 v7 d7 p7 := by
  obtain ⟨v0, vs0, d0, ds0, p0, q0, hargs, rfl, rfl, k0, h0⟩ := trodAll_cons h
  obtain ⟨v1, vs1, d1, ds1, p1, q1, rfl, rfl, rfl, k1, h1⟩ := trodAll_cons h0
  obtain ⟨v2, vs2, d2, ds2, p2, q2, rfl, rfl, rfl, k2, h2⟩ := trodAll_cons h1
  obtain ⟨v3, vs3, d3, ds3, p3, q3, rfl, rfl, rfl, k3, h3⟩ := trodAll_cons h2
  obtain ⟨v4, vs4, d4, ds4, p4, q4, rfl, rfl, rfl, k4, h4⟩ := trodAll_cons h3
  obtain ⟨v5, vs5, d5, ds5, p5, q5, rfl, rfl, rfl, k5, h5⟩ := trodAll_cons h4
  obtain ⟨v6, vs6, d6, ds6, p6, q6, rfl, rfl, rfl, k6, h6⟩ := trodAll_cons h5
  obtain ⟨v7, vs7, d7, ds7, p7, q7, rfl, rfl, rfl, k7, h7⟩ := trodAll_cons h6
  obtain ⟨rfl, rfl, rfl⟩ := trodAll_nil h7
  exact ⟨v0, v1, v2, v3, v4, v5, v6, v7, d0, d1, d2, d3, d4, d5, d6, d7, p0, p1, p2, p3, p4, p5, p6, p7, by cases args; simp_all, rfl, by simp, k0, k1, k2, k3, k4, k5, k6, k7⟩
/-- Cells of numbers of these kinds. -/
def IsRow : List IntKind → List Value → Prop
  | [], cs => cs = []
  | k :: ks, cs => ∃ n r, cs = .int k n :: r ∧ InR k n ∧ IsRow ks r
theorem IsRow.len : ∀ {ks : List IntKind} {cs : List Value}, IsRow ks cs → cs.length = ks.length
  | [], _, h => by rw [show _ = [] from h]; rfl
  | k :: ks, _, ⟨n, r, e, _, h⟩ => by rw [e]; simp [h.len]
theorem IsRow.app : ∀ {ks ls : List IntKind} {cs ds : List Value}, IsRow ks cs → IsRow ls ds → IsRow (ks ++ ls) (cs ++ ds)
  | [], _, _, _, h, g => by rw [show _ = [] from h]; simpa using g
  | k :: ks, _, _, _, ⟨n, r, e, hn, h⟩, g => ⟨n, r ++ _, by rw [e]; rfl, hn, h.app g⟩
/-- A type whose cells are numbers of these kinds. -/
structure CellsT (P : Program) (t : TypeId) (ks : List IntKind) : Prop where
  len : P.cellsOf t = ks.length
  h : ∀ {H : Type} {enc : TypeId × Value → H} {w : World} {base : Nat} {spare : Nat → Bool} {held : Bool} {fuel : Nat} {cs : List Value} {x : DataW H × List MemPlace}, DataW.trod enc P w base spare held fuel t cs = some x → IsRow ks cs
theorem cells_int {t : TypeId} {k : IntKind} (ht : P.underlying t = some (.int k)) (hc : P.cellsOf t = 1) : CellsT P t [k] := ⟨hc, fun h => by
  obtain ⟨n, rfl, -, hwf⟩ := DataW.trod_int ht h
  exact ⟨n, [], rfl, wf_in hwf, rfl⟩⟩
def FieldsOk (P : Program) : List Field → Nat → List (List IntKind) → Prop
  | [], _, kss => kss = []
  | f :: fs, off, kss => ∃ ks r, kss = ks :: r ∧ f.offset = off ∧ CellsT P f.type ks ∧ FieldsOk P fs (off + ks.length) r
theorem fields_row {cs : List Value} : ∀ (fs : List Field) (off : Nat) (kss : List (List IntKind)), FieldsOk P fs off kss → off + kss.flatten.length ≤ cs.length →
    (∀ f ∈ fs, ∃ (n : Nat) (x : DataW H × List MemPlace), DataW.trod enc P w base spare held n f.type ((cs.drop f.offset).take (P.cellsOf f.type)) = some x) → IsRow kss.flatten ((cs.drop off).take kss.flatten.length)
  | [], off, kss, h, _, _ => by rw [show kss = [] from h]; simp [IsRow]
  | f :: fs, off, _, ⟨ks, r, rfl, ho, hk, hr⟩, hl, hf => by
    obtain ⟨n, x, hx⟩ := hf f (List.mem_cons_self ..)
    have h1 := hk.h hx
    rw [ho, hk.len] at h1
    rw [List.flatten_cons, List.length_append] at hl ⊢
    have h2 := fields_row fs (off + ks.length) r hr (by omega) (fun g hg => hf g (List.mem_cons_of_mem _ hg))
    have e : (cs.drop off).take (ks.length + r.flatten.length) = (cs.drop off).take ks.length ++ (cs.drop (off + ks.length)).take r.flatten.length := by
      rw [List.take_add, List.drop_drop]
    rw [e]
    exact h1.app h2
theorem cells_struct {t : TypeId} {fs : Array Field} (kss : List (List IntKind)) (ht : P.underlying t = some (.struct fs)) (hf : FieldsOk P fs.toList 0 kss) (hc : P.cellsOf t = kss.flatten.length) : CellsT P t kss.flatten := ⟨hc, fun {H enc w base spare held fuel cs x} h => by
  obtain ⟨xs, n, -, -, hl, hxl, hat⟩ := DataW.trod_struct ht h
  have := fields_row (enc := enc) (w := w) (base := base) (spare := spare) (held := held) (cs := cs) fs.toList 0 kss hf (by omega) (fun f hf => by
    obtain ⟨i, hi, rfl⟩ := List.getElem_of_mem hf
    have hi' : i < fs.size := by simpa using hi
    have h1 := hat i fs[i] (Array.getElem?_eq_getElem hi')
    rw [List.getElem?_eq_getElem (by omega : i < xs.length)] at h1
    exact ⟨n, _, by simpa using h1⟩)
  rw [List.drop_zero, List.take_of_length_le (by omega)] at this
  exact this⟩
theorem gate_row {r : Reach} {b0 : Nat} {t : TypeId} {fs : Array Field} {ks : List IntKind} {v : Value} {d : DataW H} {ps : List MemPlace} (ht : P.underlying t = some (.struct fs)) (hk : CellsT P t ks) (hv : Value.okWide P w r b0 t v) (h : DataW.Trod enc P w base spare held t v d ps) :
    ∃ cs : List Value, v = .agg cs.toArray ∧ IsRow ks cs := by
  obtain ⟨cs, rfl, hsz⟩ := okWide_struct ht hv
  obtain ⟨fuel, hf⟩ := h
  exact ⟨cs.toList, by simp, hk.h hf⟩
theorem list_ofP {α : Type} {Q : Nat → α → Prop} {n : Nat} (h : ∀ i, i < n → ∃ f, Q i f) : ∃ l : List α, l.length = n ∧ ∀ i f, l[i]? = some f → Q i f := by
  induction n with
  | zero => exact ⟨[], rfl, by simp⟩
  | succ n ih =>
    obtain ⟨l, hl, hp⟩ := ih (fun i hi => h i (by omega))
    obtain ⟨f, hf⟩ := h n (by omega)
    refine ⟨l ++ [f], by simp [hl], fun i g hg => ?_⟩
    by_cases hi : i < l.length
    · rw [List.getElem?_append_left hi] at hg; exact hp i g hg
    · have hb : i < (l ++ [f]).length := (List.getElem?_eq_some_iff.1 hg).1
      have : i = l.length := by simp at hb; omega
      subst this
      simp at hg; subst hg; rw [hl]; exact hf
theorem gate_rows {α : Type} [Inhabited α] {en : α → List Value} {s : Nat} [hR : RowE en s] {ok : α → Prop} {r : Reach} {b0 : Nat} {t e : TypeId} {ks : List IntKind} {v : Value} {d : DataW H} {ps : List MemPlace} (ht : P.underlying t = some (.slice e)) (hk : CellsT P e ks) (hs : ks.length = s)
    (hun : ∀ cs, IsRow ks cs → ∃ a, ok a ∧ en a = cs) (hv : Value.okWide P w r b0 t v) (h : DataW.Trod enc P w 0 (fun _ => true) true t v d ps) :
    ∃ (A : Option Addr) (c : Nat) (l : List α), v = .slice A l.length c ∧ RoA w (blocks []) A l.length c s (flat en l) ∧ ∀ x ∈ l, ok x := by
  obtain ⟨a0, len, cap, rfl⟩ := okWide_slice ht hv
  obtain ⟨fuel, hf⟩ := h
  have hf' : DataW.trod enc P w 0 (fun _ => true) true fuel t [.slice a0 len cap] = some (d, ps) := by simpa [Value.cells] using hf
  rcases open_slice ht hf' with ⟨hcs, -⟩ | ⟨a, len', cap', m, n, D, Pl, hcs, hb, hl, hm, hmm, hx, hi⟩
  · simp at hcs
    obtain ⟨rfl, rfl, rfl⟩ := hcs
    exact ⟨none, 0, [], rfl, ⟨Ro.nil _ _ _⟩, by simp⟩
  · simp at hcs hmm
    obtain ⟨rfl, rfl, rfl⟩ := hcs
    subst hmm
    have hel : ∀ i, i < len → ∃ f : α, ok f ∧ ∀ k u, (en f)[k]? = some u → w.cell? (a.add (i * s + k)) = some u := by
      intro i hil
      obtain ⟨cs', hc, ht'⟩ := hi i (by omega)
      obtain ⟨f, hok, he⟩ := hun cs' (hk.h ht')
      obtain ⟨-, hcl, hat⟩ := World.cells?_some hc
      rw [hk.len, hs] at hcl hat
      refine ⟨f, hok, fun k u hu => ?_⟩
      have hks : k < s := by rw [← hR.h.1 f]; exact (List.getElem?_eq_some_iff.1 hu).1
      rw [← Go.Deep.add_add, hat k hks, ← he]; exact hu
    obtain ⟨l, rfl, hp⟩ := list_ofP hel
    refine ⟨some a, _, l, rfl, ⟨some a, _, rfl, hl, hm, flat_len l, fun hn => ?_⟩, fun f hf => ?_⟩
    · obtain ⟨f0, hf0⟩ : ∃ f, l[0]? = some f := ⟨l[0], List.getElem?_eq_getElem hn⟩
      obtain ⟨u0, hu0⟩ : ∃ u, (en f0)[0]? = some u := ⟨(en f0)[0]'(by rw [hR.h.1]; exact hR.h.2), List.getElem?_eq_getElem _⟩
      have hc0 := (hp 0 f0 hf0).2 0 _ hu0
      obtain ⟨b, off, spot⟩ := a
      have hspot : spot = none := by simpa [Addr.add] using World.cell?_spot hc0
      subst hspot
      have hblt : b < w.heap.size := by
        rcases Nat.lt_or_ge b w.heap.size with hlt | hge
        · exact hlt
        · rw [add_none] at hc0; simp [World.cell?, Array.getElem?_eq_none hge] at hc0
      refine ⟨b, off, rfl, hblt, (by rintro ⟨x, hx, _⟩; cases hx), fun j u hu => ?_⟩
      have hjl : j < l.length * s := by rw [← flat_len (e := en) l]; exact (List.getElem?_eq_some_iff.1 hu).1
      have hpos := hR.h.2
      have hi2 : j / s < l.length := Nat.div_lt_of_lt_mul (by rw [Nat.mul_comm]; exact hjl)
      have hj : j / s * s + j % s = j := by rw [Nat.mul_comm]; exact Nat.div_add_mod j s
      have h1 := flat_at (e := en) l (j / s) (j % s) hi2 (Nat.mod_lt _ hpos)
      rw [hj, hu] at h1
      have hge : l[j / s]? = some (l.getD (j / s) default) := by rw [List.getD_eq_getElem?_getD, List.getElem?_eq_getElem hi2]; rfl
      have := (hp _ _ hge).2 _ u h1.symm
      rw [hj, add_none] at this
      exact this
    · obtain ⟨i, hi', rfl⟩ := List.getElem_of_mem hf
      exact (hp i _ (List.getElem?_eq_getElem hi')).1
end
theorem cells_i64 : CellsT Tryz.prog 2 [.i64] := cells_int Tryz.underlying2 (by kernel_rfl)
theorem cells_in : CellsT Tryz.prog 3 [.i64] := cells_int Tryz.underlying3 (by kernel_rfl)
theorem cells_u16 : CellsT Tryz.prog 32 [.u16] := cells_int Tryz.underlying32 (by kernel_rfl)
theorem cells_u32 : CellsT Tryz.prog 140 [.u32] := cells_int Tryz.underlying140 (by kernel_rfl)
theorem cells_i32 : CellsT Tryz.prog 21 [.i32] := cells_int Tryz.underlying21 (by kernel_rfl)
theorem cells_spot : CellsT Tryz.prog 24 [.i64, .i64] := cells_struct [[.i64], [.i64]] Tryz.underlying24 ⟨_, _, rfl, rfl, cells_i64, _, _, rfl, rfl, cells_i64, rfl⟩ (by kernel_rfl)
def Frm.ok (f : Frm) : Prop := InR .i64 f.kind ∧ InR .u16 f.seq ∧ InR .u32 f.time ∧ InR .i32 f.a ∧ InR .i32 f.b ∧ InR .i32 f.c
theorem un_spot : ∀ cs, IsRow [.i64, .i64] cs → ∃ a : Int × Int, (InR .i64 a.1 ∧ InR .i64 a.2) ∧ spotE a = cs := by
  rintro _ ⟨x, _, rfl, hx, y, _, rfl, hy, rfl⟩
  exact ⟨(x, y), ⟨hx, hy⟩, rfl⟩
theorem un_frame : ∀ cs, IsRow [.i64, .u16, .u32, .i32, .i32, .i32] cs → ∃ a : Frm, a.ok ∧ frmE a = cs := by
  rintro _ ⟨x0, _, rfl, h0, x1, _, rfl, h1, x2, _, rfl, h2, x3, _, rfl, h3, x4, _, rfl, h4, x5, _, rfl, h5, rfl⟩
  exact ⟨⟨x0, x1, x2, x3, x4, x5⟩, ⟨h0, h1, h2, h3, h4, h5⟩, rfl⟩
end Go.Proofs.YtpmomimaihjmjaaGreat
