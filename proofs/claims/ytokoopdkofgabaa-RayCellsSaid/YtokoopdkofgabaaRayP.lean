/- Under, the plain law: by strips and boxes it is what it is by the corners of cells that the line touches. -/
import Derived.Test.YtokoopdkofgabaaRay4
import Derived.Test.YtokoopdkofgabaaPyr7
namespace Go.Proofs.Ytokoopdkofgabaa
open Go.RowKit
/-- What a cell says of heights. -/
def Hgt (S : Int → Prop) (c : Cel) : Prop := Prp c ∧ (c.n = 0 → ∀ v, ¬ S v) ∧ (0 < c.n → S c.lo ∧ S c.hi ∧ ∀ v, S v → c.lo ≤ v ∧ v ≤ c.hi)
theorem Hgt.none : Hgt (fun _ => False) ⟨0, 0, 0⟩ := ⟨prp_zero, fun _ _ h => h, fun h => by simp at h⟩
theorem Hgt.cong {S T : Int → Prop} {c : Cel} (h : Hgt S c) (hST : ∀ v, S v ↔ T v) : Hgt T c := by
  have : S = T := funext fun v => propext (hST v)
  subst this
  exact h
theorem Hgt.join {S T : Int → Prop} {a b : Cel} (ha : Hgt S a) (hb : Hgt T b) : Hgt (fun v => S v ∨ T v) (joinC a b) := by
  obtain ⟨pa, ha0, ha1⟩ := ha
  obtain ⟨pb, hb0, hb1⟩ := hb
  by_cases h1 : b.n = 0
  · rw [pb.2 h1, join_zero pa]
    exact ⟨pa, fun h v hv => hv.elim (ha0 h v) (hb0 h1 v), fun h => ⟨.inl (ha1 h).1, .inl (ha1 h).2.1, fun v hv => hv.elim ((ha1 h).2.2 v) (fun q => (hb0 h1 v q).elim)⟩⟩
  by_cases h2 : a.n = 0
  · rw [pa.2 h2, zero_join pb]
    exact ⟨pb, fun h v hv => hv.elim (ha0 h2 v) (hb0 h v), fun h => ⟨.inr (hb1 h).1, .inr (hb1 h).2.1, fun v hv => hv.elim (fun q => (ha0 h2 v q).elim) ((hb1 h).2.2 v)⟩⟩
  have hn := join_n pa pb
  have na := pa.1
  have nb := pb.1
  obtain ⟨a1, a2, a3⟩ := ha1 (by omega)
  obtain ⟨b1, b2, b3⟩ := hb1 (by omega)
  refine ⟨prp_join pa pb, fun h => by omega, fun _ => ?_⟩
  have e : joinC a b = ⟨min a.lo b.lo, max a.hi b.hi, a.n + b.n⟩ := by unfold joinC; rw [if_neg (by omega), if_neg h2]
  rw [e]
  refine ⟨?_, ?_, fun v hv => ?_⟩
  · rcases Int.le_total a.lo b.lo with h | h
    · rw [Int.min_eq_left h]; exact .inl a1
    · rw [Int.min_eq_right h]; exact .inr b1
  · rcases Int.le_total a.hi b.hi with h | h
    · rw [Int.max_eq_right h]; exact .inr b2
    · rw [Int.max_eq_left h]; exact .inl a2
  · rcases hv with hv | hv
    · have := a3 v hv; simp only; omega
    · have := b3 v hv; simp only; omega
theorem Hgt.agg {α : Type} {f : α → Cel} {S : α → Int → Prop} (h : ∀ x, Hgt (S x) (f x)) : ∀ l : List α, Hgt (fun v => ∃ x ∈ l, S x v) (agg f l)
  | [] => Hgt.none.cong fun v => by simp
  | x :: r => by
    refine ((h x).join (Hgt.agg h r)).cong fun v => ?_
    simp
def sumI {α : Type} (g : α → Int) : List α → Int
  | [] => 0
  | x :: r => g x + sumI g r
theorem agg_n {α : Type} {f : α → Cel} (h : ∀ x, Prp (f x)) : ∀ l : List α, (agg f l).n = sumI (fun x => (f x).n) l
  | [] => rfl
  | x :: r => by rw [agg, join_n (h x) (agg_prp h r), sumI, agg_n h r]
theorem sumI_app {α : Type} (g : α → Int) : ∀ l r : List α, sumI g (l ++ r) = sumI g l + sumI g r
  | [], r => by simp [sumI]
  | x :: l, r => by rw [List.cons_append, sumI, sumI, sumI_app g l r]; omega
theorem sumI_le {α : Type} {f g : α → Int} : ∀ {l : List α}, (∀ x ∈ l, f x ≤ g x) → sumI f l ≤ sumI g l
  | [], _ => Int.le_refl _
  | x :: r, h => by
    have h1 := h x (List.mem_cons_self ..)
    have h2 := sumI_le (l := r) fun y hy => h y (List.mem_cons_of_mem _ hy)
    simp only [sumI]; omega
theorem sumI_lt {α : Type} {f g : α → Int} : ∀ {l : List α}, (∀ x ∈ l, f x ≤ g x) → (sumI f l < sumI g l ↔ ∃ x ∈ l, f x < g x)
  | [], _ => by simp [sumI]
  | x :: r, h => by
    have h1 := h x (List.mem_cons_self ..)
    have hr := fun y hy => h y (List.mem_cons_of_mem x hy)
    have h2 := sumI_le (l := r) hr
    have h3 := sumI_lt (l := r) hr
    simp only [sumI, List.mem_cons, exists_eq_or_imp]
    rw [← h3]
    omega
def inN (b : Bx) (p : Nat × Nat) : Int := if b.x0 ≤ p.1 ∧ p.1 ≤ b.x1 ∧ b.y0 ≤ p.2 ∧ p.2 ≤ b.y1 then 1 else 0
def ovl (lo hi a s : Int) : Int := max 0 (min hi (a + s - 1) - max lo a + 1)
theorem ovl_two (lo hi a s : Int) (hs : 0 ≤ s) : ovl lo hi a (s + s) = ovl lo hi a s + ovl lo hi (a + s) s := by unfold ovl; omega
theorem ovl_one (lo hi a : Int) : ovl lo hi a 1 = if lo ≤ a ∧ a ≤ hi then 1 else 0 := by unfold ovl; split <;> omega
theorem sq_cnt (b : Bx) : ∀ n x y : Nat, sumI (inN b) (sqL n x y) = ovl b.x0 b.x1 ((x * 2 ^ n : Nat) : Int) ((2 ^ n : Nat) : Int) * ovl b.y0 b.y1 ((y * 2 ^ n : Nat) : Int) ((2 ^ n : Nat) : Int)
  | 0, x, y => by
    have e : ((2 ^ 0 : Nat) : Int) = 1 := rfl
    rw [e, ovl_one, ovl_one, sqL, sumI, sumI, inN]
    simp only [Nat.pow_zero, Nat.mul_one]
    by_cases h1 : b.x0 ≤ (x : Int) ∧ (x : Int) ≤ b.x1
    · by_cases h2 : b.y0 ≤ (y : Int) ∧ (y : Int) ≤ b.y1
      · rw [if_pos ⟨h1.1, h1.2, h2.1, h2.2⟩, if_pos h1, if_pos h2]; rfl
      · rw [if_neg (fun h => h2 h.2.2), if_pos h1, if_neg h2]; rfl
    · rw [if_neg (fun h => h1 ⟨h.1, h.2.1⟩), if_neg h1, Int.zero_mul]; rfl
  | n + 1, x, y => by
    have e1 : ((2 ^ (n + 1) : Nat) : Int) = ((2 ^ n : Nat) : Int) + ((2 ^ n : Nat) : Int) := by rw [← Int.natCast_add, Nat.pow_succ]; congr 1; omega
    have e2 : ∀ z : Nat, ((z * 2 ^ (n + 1) : Nat) : Int) = ((2 * z * 2 ^ n : Nat) : Int) := fun z => by rw [Nat.pow_succ, Nat.mul_comm 2 z, Nat.mul_assoc z 2, Nat.mul_comm 2]
    have e3 : ∀ z : Nat, (((2 * z + 1) * 2 ^ n : Nat) : Int) = ((2 * z * 2 ^ n : Nat) : Int) + ((2 ^ n : Nat) : Int) := fun z => by rw [Nat.add_mul, Nat.one_mul, Int.natCast_add]
    rw [e1, e2, e2, ovl_two _ _ _ _ (Int.natCast_nonneg _), ovl_two _ _ _ _ (Int.natCast_nonneg _), sqL, sumI_app, sumI_app, sumI_app, sq_cnt b n, sq_cnt b n, sq_cnt b n, sq_cnt b n, e3, e3, Int.add_mul, Int.mul_add, Int.mul_add]
    omega
/-- All places below one, and no others. -/
theorem sqL_all : ∀ (n x y : Nat) (p : Nat × Nat), x * 2 ^ n ≤ p.1 → p.1 < x * 2 ^ n + 2 ^ n → y * 2 ^ n ≤ p.2 → p.2 < y * 2 ^ n + 2 ^ n → p ∈ sqL n x y
  | 0, x, y, p, h1, h2, h3, h4 => by
    have : p = (x, y) := by
      rw [Nat.pow_zero] at *
      exact Prod.ext (by simp only; omega) (by simp only; omega)
    simp [sqL, this]
  | n + 1, x, y, p, h1, h2, h3, h4 => by
    have e1 : 2 ^ (n + 1) = 2 ^ n + 2 ^ n := by rw [Nat.pow_succ]; omega
    have e2 : ∀ z, z * 2 ^ (n + 1) = 2 * z * 2 ^ n := fun z => by rw [Nat.pow_succ, Nat.mul_comm 2 z, Nat.mul_assoc z 2, Nat.mul_comm 2]
    have e3 : ∀ z, (2 * z + 1) * 2 ^ n = 2 * z * 2 ^ n + 2 ^ n := fun z => by rw [Nat.add_mul, Nat.one_mul]
    rw [e2] at h1 h2 h3 h4
    rw [e1] at h2 h4
    simp only [sqL, List.mem_append]
    have ih := fun x y => sqL_all n x y p
    rcases Nat.lt_or_ge p.1 (2 * x * 2 ^ n + 2 ^ n) with a | a <;> rcases Nat.lt_or_ge p.2 (2 * y * 2 ^ n + 2 ^ n) with b | b
    · exact .inl (ih _ _ (by omega) (by omega) (by omega) (by omega))
    · exact .inr (.inr (.inl (ih _ _ (by omega) (by omega) (by rw [e3]; omega) (by rw [e3]; omega))))
    · exact .inr (.inl (ih _ _ (by rw [e3]; omega) (by rw [e3]; omega) (by omega) (by omega)))
    · exact .inr (.inr (.inr (ih _ _ (by rw [e3]; omega) (by rw [e3]; omega) (by rw [e3]; omega) (by rw [e3]; omega))))
theorem cellsN_get (z : List Int) : ∀ m i, i < m → (cellsN z m)[i]? = some (cellOf (z.getD i 0))
  | 0, i, h => by omega
  | m + 1, i, h => by
    rw [cellsN]
    by_cases h1 : i < m
    · rw [List.getElem?_append_left (by rw [cellsN_len]; exact h1)]; exact cellsN_get z m i h1
    · obtain rfl : i = m := by omega
      rw [List.getElem?_append_right (by rw [cellsN_len]; omega), cellsN_len, Nat.sub_self]; rfl
/-- The height at a column and a row. -/
def hat (W : Nat) (z : List Int) (x y : Nat) : Int := z.getD (y * W + x) 0
theorem bcF_at {W H : Nat} {z : List Int} (hl : z.length = W * H) (p : Nat × Nat) (hx : p.1 < W) (hy : p.2 < H) : bcF W H (cellsN z z.length) p = cellOf (hat W z p.1 p.2) := by
  unfold bcF atL hat
  have h1 : (p.2 + 1) * W ≤ H * W := Nat.mul_le_mul_right _ hy
  rw [Nat.add_mul, Nat.one_mul, Nat.mul_comm H] at h1
  have h2 : p.2 * W + p.1 < z.length := by omega
  rw [if_pos (by omega), List.getD_eq_getElem?_getD, show ((p.2 : Int) * (W : Int) + (p.1 : Int)).toNat = p.2 * W + p.1 by rw [← Int.natCast_mul, ← Int.natCast_add, Int.toNat_natCast], cellsN_get z _ _ h2]
  rfl
/-- The heights in a box. -/
def SB (W H : Nat) (z : List Int) (b : Bx) (v : Int) : Prop := ∃ x y : Nat, x < W ∧ y < H ∧ (b.x0 ≤ x ∧ x ≤ b.x1 ∧ b.y0 ≤ y ∧ y ≤ b.y1) ∧ v = hat W z x y ∧ v ≠ -32768
theorem hgt_cell (v : Int) : Hgt (fun u => u = v ∧ u ≠ -32768) (cellOf v) := by
  refine ⟨prp_cell v, ?_, ?_⟩ <;> unfold cellOf <;> split <;> simp_all <;> intros <;> omega
structure Fld (W H : Nat) (z : List Int) (top : Nat) : Prop where
  len : z.length = W * H
  w2 : 2 ≤ W ∧ W ≤ 256
  h2 : 2 ≤ H ∧ H ≤ 256
  up : W ≤ 2 ^ top ∧ H ≤ 2 ^ top
theorem over_hgt {W H : Nat} {z : List Int} {top : Nat} (hF : Fld W H z top) (b : Bx) : Hgt (SB W H z b) (agg (bcB W H (cellsN z z.length) b) (sqL top 0 0)) := by
  have hb : ∀ p : Nat × Nat, Hgt (fun v => (b.x0 ≤ p.1 ∧ p.1 ≤ b.x1 ∧ b.y0 ≤ p.2 ∧ p.2 ≤ b.y1) ∧ p.1 < W ∧ p.2 < H ∧ v = hat W z p.1 p.2 ∧ v ≠ -32768) (bcB W H (cellsN z z.length) b p) := fun p => by
    unfold bcB
    split
    · rename_i hin
      by_cases ho : p.1 < W ∧ p.2 < H
      · rw [bcF_at hF.len p ho.1 ho.2]
        refine (hgt_cell _).cong fun v => ?_
        exact ⟨fun h => ⟨hin, ho.1, ho.2, h.1, h.2⟩, fun h => ⟨h.2.2.2.1, h.2.2.2.2⟩⟩
      · rw [bcF_out (by omega)]
        exact Hgt.none.cong fun v => ⟨fun h => h.elim, fun h => ho ⟨h.2.1, h.2.2.1⟩⟩
    · rename_i hin
      exact Hgt.none.cong fun v => ⟨fun h => h.elim, fun h => hin h.1⟩
  refine (Hgt.agg hb _).cong fun v => ?_
  constructor
  · rintro ⟨p, _, h1, h2, h3, h4, h5⟩
    exact ⟨p.1, p.2, h2, h3, h1, h4, h5⟩
  · rintro ⟨x, y, h1, h2, h3, h4, h5⟩
    have := hF.up
    exact ⟨(x, y), sqL_all top 0 0 (x, y) (by simp) (by simp; omega) (by simp) (by simp; omega), h3, h1, h2, h4, h5⟩
/-- A box that lies on the field. -/
structure InF (W H : Nat) (b : Bx) : Prop where
  x : 0 ≤ b.x0 ∧ b.x0 ≤ b.x1 ∧ b.x1 ≤ (W : Int) - 1
  y : 0 ≤ b.y0 ∧ b.y0 ≤ b.y1 ∧ b.y1 ≤ (H : Int) - 1
theorem over_few {W H : Nat} {z : List Int} {top : Nat} (hF : Fld W H z top) {b : Bx} (hb : InF W H b) :
    (agg (bcB W H (cellsN z z.length) b) (sqL top 0 0)).n < (b.x1 - b.x0 + 1) * (b.y1 - b.y0 + 1) ↔ ∃ x y : Nat, x < W ∧ y < H ∧ (b.x0 ≤ x ∧ x ≤ b.x1 ∧ b.y0 ≤ y ∧ y ≤ b.y1) ∧ hat W z x y = -32768 := by
  have hx := hb.x
  have hy := hb.y
  have hu := hF.up
  have hu1 : (W : Int) ≤ ((2 ^ top : Nat) : Int) := Int.ofNat_le.2 hu.1
  have hu2 : (H : Int) ≤ ((2 ^ top : Nat) : Int) := Int.ofNat_le.2 hu.2
  have e : (b.x1 - b.x0 + 1) * (b.y1 - b.y0 + 1) = sumI (inN b) (sqL top 0 0) := by
    rw [sq_cnt]
    have e1 : ovl b.x0 b.x1 ((0 * 2 ^ top : Nat) : Int) ((2 ^ top : Nat) : Int) = b.x1 - b.x0 + 1 := by rw [Nat.zero_mul]; unfold ovl; generalize ((2 ^ top : Nat) : Int) = t at *; omega
    have e2 : ovl b.y0 b.y1 ((0 * 2 ^ top : Nat) : Int) ((2 ^ top : Nat) : Int) = b.y1 - b.y0 + 1 := by rw [Nat.zero_mul]; unfold ovl; generalize ((2 ^ top : Nat) : Int) = t at *; omega
    rw [e1, e2]
  have hpr := bcB_prp (w := W) (h := H) (cellsN_prp z z.length) b
  have hval : ∀ p : Nat × Nat, (b.x0 ≤ p.1 ∧ p.1 ≤ b.x1 ∧ b.y0 ≤ p.2 ∧ p.2 ≤ b.y1) → inN b p = 1 ∧ (bcB W H (cellsN z z.length) b p).n = if hat W z p.1 p.2 = -32768 then 0 else 1 := fun p hp => by
    refine ⟨if_pos hp, ?_⟩
    unfold bcB
    rw [if_pos hp, bcF_at hF.len p (by omega) (by omega)]
    unfold cellOf
    split <;> rfl
  have hout : ∀ p : Nat × Nat, ¬ (b.x0 ≤ p.1 ∧ p.1 ≤ b.x1 ∧ b.y0 ≤ p.2 ∧ p.2 ≤ b.y1) → inN b p = 0 ∧ (bcB W H (cellsN z z.length) b p).n = 0 := fun p hp => by
    refine ⟨if_neg hp, ?_⟩
    unfold bcB
    rw [if_neg hp]
  rw [e, agg_n hpr, sumI_lt (fun p _ => by
    by_cases hp : b.x0 ≤ p.1 ∧ p.1 ≤ b.x1 ∧ b.y0 ≤ p.2 ∧ p.2 ≤ b.y1
    · rw [(hval p hp).1, (hval p hp).2]; split <;> omega
    · rw [(hout p hp).1, (hout p hp).2]; exact Int.le_refl _)]
  constructor
  · rintro ⟨p, hp, hlt⟩
    by_cases hpb : b.x0 ≤ p.1 ∧ p.1 ≤ b.x1 ∧ b.y0 ≤ p.2 ∧ p.2 ≤ b.y1
    · rw [(hval p hpb).1, (hval p hpb).2] at hlt
      refine ⟨p.1, p.2, by omega, by omega, hpb, ?_⟩
      by_cases hv : hat W z p.1 p.2 = -32768
      · exact hv
      · rw [if_neg hv] at hlt; omega
    · rw [(hout p hpb).1, (hout p hpb).2] at hlt; omega
  · rintro ⟨x, y, h1, h2, h3, h4⟩
    refine ⟨(x, y), sqL_all top 0 0 (x, y) (by simp) (by simp; omega) (by simp) (by simp; omega), ?_⟩
    rw [(hval (x, y) h3).1, (hval (x, y) h3).2, if_pos h4]
    omega
def boxS (W H : Nat) (s : Int × Int × Int) : Bx := ⟨max s.2.1 0, max s.1 0, min (s.2.2 + 1) ((W : Int) - 1), min (s.1 + 1) ((H : Int) - 1)⟩
def ovC (W H : Nat) (cs : List Cel) (top : Nat) (b : Bx) : Cel := agg (bcB W H cs b) (sqL top 0 0)
def voidS (W H : Nat) (cs : List Cel) (top : Nat) (s : Int × Int × Int) : Prop := (ovC W H cs top (boxS W H s)).n < ((boxS W H s).x1 - (boxS W H s).x0 + 1) * ((boxS W H s).y1 - (boxS W H s).y0 + 1)
def upTo (W H : Nat) (cs : List Cel) (top : Nat) (L : List (Int × Int × Int)) : Nat → Cel
  | 0 => ⟨0, 0, 0⟩
  | i + 1 => joinC (upTo W H cs top L i) (ovC W H cs top (boxS W H (L.getD i default)))
def onP37 (W H : Nat) (x y : Int) : Prop := 0 ≤ x ∧ 0 ≤ y ∧ x ≤ 256 * ((W : Int) - 1) ∧ y ≤ 256 * ((H : Int) - 1)
/-- Of a line on the field: what a strip is. -/
theorem row_fact {ax ay bx by_ : Int} (hl : Line37 ax ay bx by_) (i : Nat) (hi : i < (rowsL ax ay bx by_).length) :
    ((rowsL ax ay bx by_).getD i default).2.1 ≤ ((rowsL ax ay bx by_).getD i default).2.2 ∧ (cdiv (min ay by_) 256 - 1 ≤ ((rowsL ax ay bx by_).getD i default).1 ∧ ((rowsL ax ay bx by_).getD i default).1 ≤ max ay by_ / 256) ∧
    ∀ x : Int, touP ax ay bx by_ x ((rowsL ax ay bx by_).getD i default).1 ↔ ((rowsL ax ay bx by_).getD i default).2.1 ≤ x ∧ x ≤ ((rowsL ax ay bx by_).getD i default).2.2 := by
  have hge := nonneg_rows (a := min ay by_) (b := max ay by_) (by omega)
  have hlen : (rowsL ax ay bx by_).length = rowsN ay by_ := by unfold rowsL; rw [if_pos hl, List.length_map, List.length_range]
  have hg : (rowsL ax ay bx by_).getD i default = rowAt37 ax ay bx by_ i := by
    unfold rowsL
    rw [if_pos hl, List.getD_eq_getElem?_getD, List.getElem?_map, List.getElem?_range (by omega)]
    rfl
  rw [hg]
  have hk : i < rowsN ay by_ := by omega
  unfold rowsN at hk
  unfold rowAt37
  simp only
  split
  · rename_i h
    rw [Int.min_eq_left h, Int.max_eq_right h] at *
    exact ⟨strip_le _ _ _ _ _ h, by omega, fun x => strip_iff h (by omega) (by omega)⟩
  · rename_i h
    have h' : by_ ≤ ay := by omega
    rw [Int.min_eq_right h', Int.max_eq_left h'] at *
    exact ⟨strip_le _ _ _ _ _ h', by omega, fun x => (tou_swap bx by_ ax ay x _).symm.symm.trans (strip_iff h' (by omega) (by omega))⟩
theorem row_ex {ax ay bx by_ : Int} (hl : Line37 ax ay bx by_) {x k : Int} (ht : touP ax ay bx by_ x k) : ∃ i, i < (rowsL ax ay bx by_).length ∧ ((rowsL ax ay bx by_).getD i default).1 = k := by
  have hr : cdiv (min ay by_) 256 - 1 ≤ k ∧ k ≤ max ay by_ / 256 := by
    rcases Int.le_total ay by_ with h | h
    · rw [Int.min_eq_left h, Int.max_eq_right h]; exact tou_row ht h
    · rw [Int.min_eq_right h, Int.max_eq_left h]; exact tou_row ((tou_swap ax ay bx by_ x k).2 ht) h
  have hlen : (rowsL ax ay bx by_).length = rowsN ay by_ := by unfold rowsL; rw [if_pos hl, List.length_map, List.length_range]
  have hi : (k - (cdiv (min ay by_) 256 - 1)).toNat < rowsN ay by_ := by unfold rowsN; omega
  refine ⟨(k - (cdiv (min ay by_) 256 - 1)).toNat, by omega, ?_⟩
  unfold rowsL
  rw [if_pos hl, List.getD_eq_getElem?_getD, List.getElem?_map, List.getElem?_range hi]
  show (rowAt37 ax ay bx by_ _).1 = k
  unfold rowAt37
  simp only
  omega
theorem box_in {W H : Nat} {ax ay bx by_ : Int} (hl : Line37 ax ay bx by_) (hW : 2 ≤ W) (hH : 2 ≤ H) (ha : onP37 W H ax ay) (hb : onP37 W H bx by_) (i : Nat) (hi : i < (rowsL ax ay bx by_).length) : InF W H (boxS W H ((rowsL ax ay bx by_).getD i default)) := by
  obtain ⟨h1, h2, h3⟩ := row_fact hl i hi
  generalize (rowsL ax ay bx by_).getD i default = s at *
  have t1 := (h3 s.2.1).2 ⟨Int.le_refl _, h1⟩
  have t2 := (h3 s.2.2).2 ⟨h1, Int.le_refl _⟩
  obtain ⟨⟨t1a, t1b⟩, ⟨t1c, t1d⟩, -⟩ := t1
  obtain ⟨⟨t2a, t2b⟩, -, -⟩ := t2
  obtain ⟨a1, a2, a3, a4⟩ := ha
  obtain ⟨b1, b2, b3, b4⟩ := hb
  constructor
  · show 0 ≤ max s.2.1 0 ∧ max s.2.1 0 ≤ min (s.2.2 + 1) ((W : Int) - 1) ∧ min (s.2.2 + 1) ((W : Int) - 1) ≤ (W : Int) - 1
    omega
  · show 0 ≤ max s.1 0 ∧ max s.1 0 ≤ min (s.1 + 1) ((H : Int) - 1) ∧ min (s.1 + 1) ((H : Int) - 1) ≤ (H : Int) - 1
    omega
/-- A corner of a cell that is touched. -/
def corP (ax ay bx by_ x y : Int) : Prop := touP ax ay bx by_ x y ∨ touP ax ay bx by_ (x - 1) y ∨ touP ax ay bx by_ x (y - 1) ∨ touP ax ay bx by_ (x - 1) (y - 1)
theorem cor_iff {W H : Nat} {ax ay bx by_ : Int} (hl : Line37 ax ay bx by_) (x y : Nat) (hx : x < W) (hy : y < H) :
    corP ax ay bx by_ x y ↔ ∃ i, i < (rowsL ax ay bx by_).length ∧ (boxS W H ((rowsL ax ay bx by_).getD i default)).x0 ≤ x ∧ (x : Int) ≤ (boxS W H ((rowsL ax ay bx by_).getD i default)).x1 ∧ (boxS W H ((rowsL ax ay bx by_).getD i default)).y0 ≤ y ∧ (y : Int) ≤ (boxS W H ((rowsL ax ay bx by_).getD i default)).y1 := by
  have key : corP ax ay bx by_ x y ↔ ∃ a k : Int, touP ax ay bx by_ a k ∧ a ≤ x ∧ (x : Int) ≤ a + 1 ∧ k ≤ y ∧ (y : Int) ≤ k + 1 := by
    constructor
    · rintro (h | h | h | h)
      · exact ⟨_, _, h, by omega, by omega, by omega, by omega⟩
      · exact ⟨_, _, h, by omega, by omega, by omega, by omega⟩
      · exact ⟨_, _, h, by omega, by omega, by omega, by omega⟩
      · exact ⟨_, _, h, by omega, by omega, by omega, by omega⟩
    · rintro ⟨a, k, h, h1, h2, h3, h4⟩
      have ea : a = x ∨ a = x - 1 := by omega
      have ek : k = y ∨ k = y - 1 := by omega
      unfold corP
      rcases ea with rfl | rfl <;> rcases ek with rfl | rfl <;> simp [h]
  rw [key]
  constructor
  · rintro ⟨a, k, h, h1, h2, h3, h4⟩
    obtain ⟨i, hi, hk⟩ := row_ex hl h
    obtain ⟨g1, g2, g3⟩ := row_fact hl i hi
    refine ⟨i, hi, ?_⟩
    generalize (rowsL ax ay bx by_).getD i default = s at *
    subst hk
    have g4 := (g3 a).1 h
    show max s.2.1 0 ≤ (x : Int) ∧ (x : Int) ≤ min (s.2.2 + 1) ((W : Int) - 1) ∧ max s.1 0 ≤ (y : Int) ∧ (y : Int) ≤ min (s.1 + 1) ((H : Int) - 1)
    omega
  · rintro ⟨i, hi, h⟩
    obtain ⟨g1, g2, g3⟩ := row_fact hl i hi
    generalize (rowsL ax ay bx by_).getD i default = s at *
    have h' : max s.2.1 0 ≤ (x : Int) ∧ (x : Int) ≤ min (s.2.2 + 1) ((W : Int) - 1) ∧ max s.1 0 ≤ (y : Int) ∧ (y : Int) ≤ min (s.1 + 1) ((H : Int) - 1) := h
    exact ⟨min (x : Int) s.2.2, s.1, (g3 _).2 (by omega), by omega, by omega, by omega, by omega⟩
theorem upTo_hgt {W H : Nat} {z : List Int} {top : Nat} (hF : Fld W H z top) (L : List (Int × Int × Int)) : ∀ n, Hgt (fun v => ∃ i, i < n ∧ SB W H z (boxS W H (L.getD i default)) v) (upTo W H (cellsN z z.length) top L n)
  | 0 => Hgt.none.cong fun v => ⟨fun h => h.elim, fun ⟨i, h, _⟩ => by omega⟩
  | n + 1 => by
    refine ((upTo_hgt hF L n).join (over_hgt hF (boxS W H (L.getD n default)))).cong fun v => ?_
    constructor
    · rintro (⟨i, h1, h2⟩ | h)
      · exact ⟨i, by omega, h2⟩
      · exact ⟨n, by omega, h⟩
    · rintro ⟨i, h1, h2⟩
      rcases Nat.lt_or_ge i n with h | h
      · exact .inl ⟨i, h, h2⟩
      · obtain rfl : i = n := by omega
        exact .inr h2
/-- Is a height one at a corner of a cell that is touched? -/
def corI (W : Nat) (ax ay bx by_ : Int) (i : Nat) : Prop := corP ax ay bx by_ ((i % W : Nat) : Int) ((i / W : Nat) : Int)
theorem idx_xy {W H i : Nat} (hW : 0 < W) (h : i < W * H) : i % W < W ∧ i / W < H ∧ (i / W) * W + i % W = i := by
  refine ⟨Nat.mod_lt _ hW, Nat.div_lt_of_lt_mul h, ?_⟩
  rw [Nat.mul_comm]
  exact Nat.div_add_mod i W
theorem xy_idx {W H x y : Nat} (hx : x < W) (hy : y < H) : y * W + x < W * H ∧ (y * W + x) % W = x ∧ (y * W + x) / W = y := by
  have h1 : (y + 1) * W ≤ H * W := Nat.mul_le_mul_right _ hy
  rw [Nat.add_mul, Nat.one_mul, Nat.mul_comm H] at h1
  refine ⟨by omega, ?_, ?_⟩
  · rw [Nat.mul_comm, Nat.mul_add_mod, Nat.mod_eq_of_lt hx]
  · rw [Nat.mul_comm, Nat.mul_add_div (by omega), Nat.div_eq_of_lt hx]; omega
/-- Where a height at a corner is missing, a strip has too few, and where none is missing, none has. -/
theorem void_iff {W H : Nat} {z : List Int} {top : Nat} (hF : Fld W H z top) {ax ay bx by_ : Int} (hl : Line37 ax ay bx by_) (ha : onP37 W H ax ay) (hb : onP37 W H bx by_) :
    (∃ i, i < (rowsL ax ay bx by_).length ∧ voidS W H (cellsN z z.length) top ((rowsL ax ay bx by_).getD i default)) ↔ ∃ i, i < z.length ∧ corI W ax ay bx by_ i ∧ z.getD i 0 = -32768 := by
  have hw := hF.w2.1
  have hh := hF.h2.1
  constructor
  · rintro ⟨i, hi, hv⟩
    obtain ⟨x, y, h1, h2, h3, h4⟩ := (over_few hF (box_in hl hw hh ha hb i hi)).1 hv
    obtain ⟨q1, q2, q3⟩ := xy_idx h1 h2
    refine ⟨y * W + x, by rw [hF.len]; exact q1, ?_, h4⟩
    unfold corI
    rw [q2, q3]
    exact (cor_iff hl x y h1 h2).2 ⟨i, hi, h3⟩
  · rintro ⟨i, hi, hc, hv⟩
    rw [hF.len] at hi
    obtain ⟨q1, q2, q3⟩ := idx_xy (by omega) hi
    obtain ⟨j, hj, hbx⟩ := (cor_iff (W := W) (H := H) hl _ _ q1 q2).1 hc
    exact ⟨j, hj, (over_few hF (box_in hl hw hh ha hb j hj)).2 ⟨_, _, q1, q2, hbx, by unfold hat; rw [q3]; exact hv⟩⟩
/-- The least, and the greatest, of the heights at corners, one by one. -/
def loTo (W : Nat) (z : List Int) (ax ay bx by_ : Int) [∀ i, Decidable (corI W ax ay bx by_ i)] : Nat → Int
  | 0 => 32767
  | i + 1 => if corI W ax ay bx by_ i then min (loTo W z ax ay bx by_ i) (z.getD i 0) else loTo W z ax ay bx by_ i
def hiTo (W : Nat) (z : List Int) (ax ay bx by_ : Int) [∀ i, Decidable (corI W ax ay bx by_ i)] : Nat → Int
  | 0 => -32768
  | i + 1 => if corI W ax ay bx by_ i then max (hiTo W z ax ay bx by_ i) (z.getD i 0) else hiTo W z ax ay bx by_ i
instance (W : Nat) (ax ay bx by_ : Int) (i : Nat) : Decidable (corI W ax ay bx by_ i) := by unfold corI corP; infer_instance
section
variable {W : Nat} {z : List Int} {ax ay bx by_ : Int}
theorem loTo_le : ∀ n i, i < n → corI W ax ay bx by_ i → loTo W z ax ay bx by_ n ≤ z.getD i 0
  | 0, i, h, _ => by omega
  | n + 1, i, h, hc => by
    rw [loTo]
    rcases Nat.lt_or_ge i n with h1 | h1
    · have := loTo_le n i h1 hc
      split <;> omega
    · obtain rfl : i = n := by omega
      rw [if_pos hc]; omega
theorem hiTo_ge : ∀ n i, i < n → corI W ax ay bx by_ i → z.getD i 0 ≤ hiTo W z ax ay bx by_ n
  | 0, i, h, _ => by omega
  | n + 1, i, h, hc => by
    rw [hiTo]
    rcases Nat.lt_or_ge i n with h1 | h1
    · have := hiTo_ge n i h1 hc
      split <;> omega
    · obtain rfl : i = n := by omega
      rw [if_pos hc]; omega
theorem loTo_ex : ∀ n, loTo W z ax ay bx by_ n = 32767 ∨ ∃ i, i < n ∧ corI W ax ay bx by_ i ∧ loTo W z ax ay bx by_ n = z.getD i 0
  | 0 => .inl rfl
  | n + 1 => by
    rw [loTo]
    have ih := loTo_ex n
    split
    · rename_i hc
      rcases Int.le_total (loTo W z ax ay bx by_ n) (z.getD n 0) with h | h
      · rw [Int.min_eq_left h]
        rcases ih with e | ⟨i, h1, h2⟩
        · exact .inl e
        · exact .inr ⟨i, by omega, h2⟩
      · rw [Int.min_eq_right h]
        exact .inr ⟨n, by omega, hc, rfl⟩
    · rcases ih with e | ⟨i, h1, h2⟩
      · exact .inl e
      · exact .inr ⟨i, by omega, h2⟩
theorem hiTo_ex : ∀ n, hiTo W z ax ay bx by_ n = -32768 ∨ ∃ i, i < n ∧ corI W ax ay bx by_ i ∧ hiTo W z ax ay bx by_ n = z.getD i 0
  | 0 => .inl rfl
  | n + 1 => by
    rw [hiTo]
    have ih := hiTo_ex n
    split
    · rename_i hc
      rcases Int.le_total (z.getD n 0) (hiTo W z ax ay bx by_ n) with h | h
      · rw [Int.max_eq_left h]
        rcases ih with e | ⟨i, h1, h2⟩
        · exact .inl e
        · exact .inr ⟨i, by omega, h2⟩
      · rw [Int.max_eq_right h]
        exact .inr ⟨n, by omega, hc, rfl⟩
    · rcases ih with e | ⟨i, h1, h2⟩
      · exact .inl e
      · exact .inr ⟨i, by omega, h2⟩
end
/-- By strips it is what it is by corners. -/
theorem under_same {W H : Nat} {z : List Int} {top : Nat} (hF : Fld W H z top) (hz : ∀ v ∈ z, InR .i16 v) {ax ay bx by_ : Int} (hl : Line37 ax ay bx by_) (ha : onP37 W H ax ay) (hb : onP37 W H bx by_)
    (hv : ¬ ∃ i, i < z.length ∧ corI W ax ay bx by_ i ∧ z.getD i 0 = -32768) :
    (upTo W H (cellsN z z.length) top (rowsL ax ay bx by_) (rowsL ax ay bx by_).length).lo = loTo W z ax ay bx by_ z.length ∧ (upTo W H (cellsN z z.length) top (rowsL ax ay bx by_) (rowsL ax ay bx by_).length).hi = hiTo W z ax ay bx by_ z.length := by
  have hw := hF.w2.1
  have hh := hF.h2.1
  have hS : ∀ v, (∃ i, i < (rowsL ax ay bx by_).length ∧ SB W H z (boxS W H ((rowsL ax ay bx by_).getD i default)) v) ↔ ∃ i, i < z.length ∧ corI W ax ay bx by_ i ∧ v = z.getD i 0 := by
    intro v
    constructor
    · rintro ⟨i, hi, x, y, h1, h2, h3, h4, -⟩
      obtain ⟨q1, q2, q3⟩ := xy_idx h1 h2
      refine ⟨y * W + x, by rw [hF.len]; exact q1, ?_, h4⟩
      unfold corI
      rw [q2, q3]
      exact (cor_iff hl x y h1 h2).2 ⟨i, hi, h3⟩
    · rintro ⟨i, hi, hc, rfl⟩
      have hi' := hi
      rw [hF.len] at hi
      obtain ⟨q1, q2, q3⟩ := idx_xy (by omega) hi
      obtain ⟨j, hj, hbx⟩ := (cor_iff (W := W) (H := H) hl _ _ q1 q2).1 hc
      exact ⟨j, hj, _, _, q1, q2, hbx, by unfold hat; rw [q3], fun h => hv ⟨i, hi', hc, h⟩⟩
  have hg := (upTo_hgt hF (rowsL ax ay bx by_) (rowsL ax ay bx by_).length).cong hS
  generalize upTo W H (cellsN z z.length) top (rowsL ax ay bx by_) (rowsL ax ay bx by_).length = c at hg ⊢
  have hne : ∃ v, ∃ i, i < z.length ∧ corI W ax ay bx by_ i ∧ v = z.getD i 0 := by
    have hge := nonneg_rows (a := min ay by_) (b := max ay by_) (by omega)
    have hlen : (rowsL ax ay bx by_).length = rowsN ay by_ := by unfold rowsL; rw [if_pos hl, List.length_map, List.length_range]
    have h0 : 0 < (rowsL ax ay bx by_).length := by rw [hlen]; unfold rowsN; omega
    have hbx := box_in hl hw hh ha hb 0 h0
    have gx := hbx.x
    have gy := hbx.y
    obtain ⟨x, hx⟩ := Int.eq_ofNat_of_zero_le gx.1
    obtain ⟨y, hy⟩ := Int.eq_ofNat_of_zero_le gy.1
    have h1 : x < W := by omega
    have h2 : y < H := by omega
    obtain ⟨q1, q2, q3⟩ := xy_idx h1 h2
    refine ⟨_, y * W + x, by rw [hF.len]; exact q1, ?_, rfl⟩
    unfold corI
    rw [q2, q3]
    exact (cor_iff hl x y h1 h2).2 ⟨0, h0, by omega, by omega, by omega, by omega⟩
  obtain ⟨hp, hg0, hg1⟩ := hg
  have hn : 0 < c.n := by
    have := hp.1
    by_cases h : c.n = 0
    · obtain ⟨v, hv⟩ := hne
      exact (hg0 h v hv).elim
    · omega
  obtain ⟨⟨il, il1, il2, il3⟩, ⟨ih, ih1, ih2, ih3⟩, hall⟩ := hg1 hn
  have hzr : ∀ i, i < z.length → -32768 ≤ z.getD i 0 ∧ z.getD i 0 ≤ 32767 := fun i hi => by
    rw [List.getD_eq_getElem?_getD, List.getElem?_eq_getElem hi]
    exact hz _ (List.getElem_mem ..)
  constructor
  · have h1 := loTo_le (z := z) z.length il il1 il2
    rcases loTo_ex (W := W) (z := z) (ax := ax) (ay := ay) (bx := bx) (by_ := by_) z.length with e | ⟨i, i1, i2, i3⟩
    · have := hzr il il1; omega
    · have := (hall _ ⟨i, i1, i2, rfl⟩).1
      omega
  · have h1 := hiTo_ge (z := z) z.length ih ih1 ih2
    rcases hiTo_ex (W := W) (z := z) (ax := ax) (ay := ay) (bx := bx) (by_ := by_) z.length with e | ⟨i, i1, i2, i3⟩
    · have := hzr ih ih1; omega
    · have := (hall _ ⟨i, i1, i2, rfl⟩).2
      omega
end Go.Proofs.Ytokoopdkofgabaa
