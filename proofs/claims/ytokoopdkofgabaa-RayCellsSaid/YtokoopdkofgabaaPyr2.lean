/- Package pyramid: boxes. -/
import Derived.Test.YtokoopdkofgabaaPyr
import Derived.Test.YtokoopdkofgabaaEngW
namespace Go.Proofs.Ytokoopdkofgabaa
open Go.RowKit
structure Bx where
  x0 : Int
  y0 : Int
  x1 : Int
  y1 : Int
abbrev bxE : Bx → List Value := fun b => [.int .i64 b.x0, .int .i64 b.y0, .int .i64 b.x1, .int .i64 b.y1]
def apartB (a b : Bx) : Bool := decide (a.x0 > b.x1 ∨ a.x1 < b.x0 ∨ a.y0 > b.y1 ∨ a.y1 < b.y0)
def inB (a b : Bx) : Bool := decide (a.x0 ≥ b.x0 ∧ a.x1 ≤ b.x1 ∧ a.y0 ≥ b.y0 ∧ a.y1 ≤ b.y1)
attribute [local irreducible] OJ J HdJ Code.wpIn wpListIn Oper.wpIn bodyPost CallsIn Does
set_option maxHeartbeats 4000000 in
theorem apart_any (a b : Bx) (w : World) : Does Try.prog 119 [.agg (bxE a).toArray, .agg (bxE b).toArray] [] w (fun v S' => v = .bool (apartB a b) ∧ S' = []) := by
  refine does_of Try.func119 rfl Try.ntmps119 rfl ⟨by simp, .nil⟩ (fun n => ?_)
  simp only [slots]
  unfold apartB
  repeat' (first | (first | (first | refine j_app ?_ | refine cc ?_ | ((first | refine lms rfl rfl rfl ?_ ?_ | refine lss rfl rfl ?_ ?_ | refine lns rfl rfl rfl ?_ ?_ | refine lap rfl rfl rfl rfl rfl ?_ rfl ?_); (next => first | exact trivial | omega); intros) | refine c_true rfl ?_ | refine c_false rfl ?_ | refine c_in_other rfl ?_ | refine l_nil ?_ | refine l_skip rfl rfl rfl ?_ | refine l_skip0 rfl rfl ?_ | refine lbd rfl rfl (by kernel_rfl) rfl ?_ | (refine lsl rfl rfl rfl rfl (by kernel_rfl) rfl rfl ?_; intros) | (refine lsl0 rfl rfl ?_; intros) | (refine lix rfl (by omega) ?_; rintro _ rfl) | (refine lixr rfl (by assumption) (by omega) ?_; rintro _ _ rfl _) | (refine c_drw rfl (by decide) (by decide +kernel) ?_; (repeat (first | (refine hms rfl rfl rfl ?_ ?_; (next => first | exact trivial | omega)) | refine h_skip rfl rfl rfl ?_ | (refine hmw rfl rfl rfl ?_ ?_; (next => first | exact trivial | omega)))); refine h_nil ?_) | (refine c_drp rfl (by decide) (by decide +kernel) ?_; (repeat (first | (refine p_run rfl rfl rfl ?_ ?_; (next => first | exact trivial | omega)) | refine p_skip rfl rfl rfl ?_)); refine p_nil ?_)) | (refine lxv rfl rfl rfl ?_ ?_; (next => first | exact trivial | omega)) | refine lba rfl rfl (by kernel_rfl) rfl ?_ | (refine lcv rfl rfl rfl ?_ ?_; (next => first | exact trivial | omega)) | refine lpT rfl rfl rfl rfl ?_ | refine lpF rfl rfl rfl rfl ?_ | ((fail_if_success refine l_lit true rfl rfl rfl ?_); (fail_if_success refine l_lit false rfl rfl rfl ?_); refine l_gd rfl rfl rfl ?_ ?_ <;> intro _ <;> try (exfalso; first | contradiction | omega)) | (refine c_if rfl ?_ ?_ <;> intro _ <;> try (exfalso; first | contradiction | omega)) | (refine lmw rfl rfl rfl ?_ ?_; (next => first | exact trivial | omega))) | (first | (refine hms rfl rfl rfl ?_ ?_; (next => first | exact trivial | omega)) | refine hbd rfl rfl (by kernel_rfl) rfl ?_ | refine h_pT rfl rfl rfl rfl ?_ | refine h_pF rfl rfl rfl rfl ?_ | refine h_skip rfl rfl rfl ?_ | (refine hcv rfl rfl rfl ?_ ?_; (next => first | exact trivial | omega)) | ((fail_if_success refine h_lit true rfl rfl rfl ?_); (fail_if_success refine h_lit false rfl rfl rfl ?_); refine h_gd rfl rfl rfl ?_ ?_ <;> intro _ <;> try (exfalso; first | contradiction | omega)) | (refine hmw rfl rfl rfl ?_ ?_; (next => first | exact trivial | omega)) | refine h_nil ?_) | (first | (refine x_run rfl rfl rfl ?_ ?_; (next => first | exact trivial | omega)) | refine x_pT rfl rfl rfl rfl ?_ | refine x_pF rfl rfl rfl rfl ?_ | refine x_skip rfl rfl rfl ?_ | ((fail_if_success refine x_lit true rfl rfl rfl ?_); (fail_if_success refine x_lit false rfl rfl rfl ?_); refine x_gd rfl rfl rfl ?_ ?_ <;> intro _ <;> try (exfalso; first | contradiction | omega)) | refine x_nil ?_) | (first | refine t_done ?_ | refine t_all _ rfl rfl ?_ | refine allP_cons ?_ ?_ | exact allP_nil | refine t_last (by decide +kernel) ?_ | refine t_next Sub.au ?_) | refine c_drw rfl (by decide) (by decide +kernel) ?_ | refine c_dra rfl rfl (by decide) (by decide +kernel) ?_ | fail)
  all_goals (refine j_outK (.nil _) ?_; (repeat (first | refine k_tmp rfl ?_ | refine k_cell rfl ?_)); refine k_nil ?_; exact ⟨(congrArg Value.bool (by rw [Bool.eq_iff_iff]; simp only [decide_eq_true_eq, Bool.and_eq_true, Bool.or_eq_true, Bool.not_eq_true, beq_iff_eq, bne_iff_ne, true_iff, iff_true, false_iff, iff_false, Bool.false_eq_true, not_false_eq_true, ne_eq]; omega)), rfl⟩)
set_option maxHeartbeats 4000000 in
theorem in_any (a b : Bx) (w : World) : Does Try.prog 120 [.agg (bxE a).toArray, .agg (bxE b).toArray] [] w (fun v S' => v = .bool (inB a b) ∧ S' = []) := by
  refine does_of Try.func120 rfl Try.ntmps120 rfl ⟨by simp, .nil⟩ (fun n => ?_)
  simp only [slots]
  unfold inB
  repeat' (first | (first | (first | refine j_app ?_ | refine cc ?_ | ((first | refine lms rfl rfl rfl ?_ ?_ | refine lss rfl rfl ?_ ?_ | refine lns rfl rfl rfl ?_ ?_ | refine lap rfl rfl rfl rfl rfl ?_ rfl ?_); (next => first | exact trivial | omega); intros) | refine c_true rfl ?_ | refine c_false rfl ?_ | refine c_in_other rfl ?_ | refine l_nil ?_ | refine l_skip rfl rfl rfl ?_ | refine l_skip0 rfl rfl ?_ | refine lbd rfl rfl (by kernel_rfl) rfl ?_ | (refine lsl rfl rfl rfl rfl (by kernel_rfl) rfl rfl ?_; intros) | (refine lsl0 rfl rfl ?_; intros) | (refine lix rfl (by omega) ?_; rintro _ rfl) | (refine lixr rfl (by assumption) (by omega) ?_; rintro _ _ rfl _) | (refine c_drw rfl (by decide) (by decide +kernel) ?_; (repeat (first | (refine hms rfl rfl rfl ?_ ?_; (next => first | exact trivial | omega)) | refine h_skip rfl rfl rfl ?_ | (refine hmw rfl rfl rfl ?_ ?_; (next => first | exact trivial | omega)))); refine h_nil ?_) | (refine c_drp rfl (by decide) (by decide +kernel) ?_; (repeat (first | (refine p_run rfl rfl rfl ?_ ?_; (next => first | exact trivial | omega)) | refine p_skip rfl rfl rfl ?_)); refine p_nil ?_)) | (refine lxv rfl rfl rfl ?_ ?_; (next => first | exact trivial | omega)) | refine lba rfl rfl (by kernel_rfl) rfl ?_ | (refine lcv rfl rfl rfl ?_ ?_; (next => first | exact trivial | omega)) | refine lpT rfl rfl rfl rfl ?_ | refine lpF rfl rfl rfl rfl ?_ | ((fail_if_success refine l_lit true rfl rfl rfl ?_); (fail_if_success refine l_lit false rfl rfl rfl ?_); refine l_gd rfl rfl rfl ?_ ?_ <;> intro _ <;> try (exfalso; first | contradiction | omega)) | (refine c_if rfl ?_ ?_ <;> intro _ <;> try (exfalso; first | contradiction | omega)) | (refine lmw rfl rfl rfl ?_ ?_; (next => first | exact trivial | omega))) | (first | (refine hms rfl rfl rfl ?_ ?_; (next => first | exact trivial | omega)) | refine hbd rfl rfl (by kernel_rfl) rfl ?_ | refine h_pT rfl rfl rfl rfl ?_ | refine h_pF rfl rfl rfl rfl ?_ | refine h_skip rfl rfl rfl ?_ | (refine hcv rfl rfl rfl ?_ ?_; (next => first | exact trivial | omega)) | ((fail_if_success refine h_lit true rfl rfl rfl ?_); (fail_if_success refine h_lit false rfl rfl rfl ?_); refine h_gd rfl rfl rfl ?_ ?_ <;> intro _ <;> try (exfalso; first | contradiction | omega)) | (refine hmw rfl rfl rfl ?_ ?_; (next => first | exact trivial | omega)) | refine h_nil ?_) | (first | (refine x_run rfl rfl rfl ?_ ?_; (next => first | exact trivial | omega)) | refine x_pT rfl rfl rfl rfl ?_ | refine x_pF rfl rfl rfl rfl ?_ | refine x_skip rfl rfl rfl ?_ | ((fail_if_success refine x_lit true rfl rfl rfl ?_); (fail_if_success refine x_lit false rfl rfl rfl ?_); refine x_gd rfl rfl rfl ?_ ?_ <;> intro _ <;> try (exfalso; first | contradiction | omega)) | refine x_nil ?_) | (first | refine t_done ?_ | refine t_all _ rfl rfl ?_ | refine allP_cons ?_ ?_ | exact allP_nil | refine t_last (by decide +kernel) ?_ | refine t_next Sub.au ?_) | refine c_drw rfl (by decide) (by decide +kernel) ?_ | refine c_dra rfl rfl (by decide) (by decide +kernel) ?_ | fail)
  all_goals (refine j_outK (.nil _) ?_; (repeat (first | refine k_tmp rfl ?_ | refine k_cell rfl ?_)); refine k_nil ?_; exact ⟨(congrArg Value.bool (by rw [Bool.eq_iff_iff]; simp only [decide_eq_true_eq, Bool.and_eq_true, Bool.or_eq_true, Bool.not_eq_true, beq_iff_eq, bne_iff_ne, true_iff, iff_true, false_iff, iff_false, Bool.false_eq_true, not_false_eq_true, ne_eq]; omega)), rfl⟩)
instance apart_cv (a0 a1 a2 a3 b0 b1 b2 b3 : Int) : CV Try.prog 119 [.agg #[.int .i64 a0, .int .i64 a1, .int .i64 a2, .int .i64 a3], .agg #[.int .i64 b0, .int .i64 b1, .int .i64 b2, .int .i64 b3]] (.bool (apartB ⟨a0, a1, a2, a3⟩ ⟨b0, b1, b2, b3⟩)) True := ⟨fun _ w => apart_any ⟨a0, a1, a2, a3⟩ ⟨b0, b1, b2, b3⟩ w⟩
instance in_cv (a0 a1 a2 a3 b0 b1 b2 b3 : Int) : CV Try.prog 120 [.agg #[.int .i64 a0, .int .i64 a1, .int .i64 a2, .int .i64 a3], .agg #[.int .i64 b0, .int .i64 b1, .int .i64 b2, .int .i64 b3]] (.bool (inB ⟨a0, a1, a2, a3⟩ ⟨b0, b1, b2, b3⟩)) True := ⟨fun _ w => in_any ⟨a0, a1, a2, a3⟩ ⟨b0, b1, b2, b3⟩ w⟩
/-- What a place of a level stands for. -/
def sqB (wd ht n x y : Nat) : Bx := ⟨(x * 2 ^ n : Nat), (y * 2 ^ n : Nat), min ((x * 2 ^ n + 2 ^ n : Nat) : Int) (wd : Int) - 1, min ((y * 2 ^ n + 2 ^ n : Nat) : Int) (ht : Int) - 1⟩
set_option maxHeartbeats 4000000 in
theorem square_any (p : Nat) (A : Option Addr) (c : Nat) (L : List Lv) (seen : Int) (n x y : Nat) (w : World) (hown : Own [.blk p 153 [.slice A L.length c, .int .i64 seen]] w)
    (hr : RoA w (blocks [.blk p 153 [.slice A L.length c, .int .i64 seen]]) A L.length c 3 (flat lvE L)) (h0 : 0 < L.length) (wd ht : Nat) (hw0 : (L.getD 0 default).w = wd) (hh0 : (L.getD 0 default).h = ht) (hn : n ≤ 16) (hx : x ≤ 70000) (hy : y ≤ 70000) (hwd : wd ≤ 70000 ∧ ht ≤ 70000) :
    Does Try.prog 118 [.pointer (some ⟨p, 0, none⟩), .agg #[.int .i64 n, .int .i64 x, .int .i64 y]] [.blk p 153 [.slice A L.length c, .int .i64 seen]] w
      (fun v S' => v = .agg (bxE (sqB wd ht n x y)).toArray ∧ S' = [.blk p 153 [.slice A L.length c, .int .i64 seen]]) := by
  refine does_of Try.func118 rfl Try.ntmps118 rfl hown (fun N => ?_)
  simp only [slots]
  obtain ⟨bL, oL, rfl, hAt⟩ := hr.at_ h0
  obtain ⟨sd, hsd⟩ : ∃ sd, sd = 2 ^ n := ⟨_, rfl⟩
  have h2 : sd ≤ 65536 := by rw [hsd]; exact Nat.le_trans (Nat.pow_le_pow_right (by decide) hn) (by decide : 2 ^ 16 ≤ 65536)
  obtain ⟨xs, hxs⟩ : ∃ xs, xs = x * sd := ⟨_, rfl⟩
  obtain ⟨ys, hys⟩ : ∃ ys, ys = y * sd := ⟨_, rfl⟩
  have hxb : xs ≤ 70000 * 65536 := by rw [hxs]; exact Nat.mul_le_mul hx h2
  have hyb : ys ≤ 70000 * 65536 := by rw [hys]; exact Nat.mul_le_mul hy h2
  have hsq : sqB wd ht n x y = ⟨xs, ys, min (xs + sd : Int) wd - 1, min (ys + sd : Int) ht - 1⟩ := by
    unfold sqB
    rw [← hsd, ← hxs, ← hys]
    push_cast
    rfl
  rw [hsq]
  repeat' (first | (first | (first | refine j_app ?_ | refine cc ?_ | ((first | refine lms rfl rfl rfl ?_ ?_ | refine lss rfl rfl ?_ ?_ | refine lns rfl rfl rfl ?_ ?_ | refine lap rfl rfl rfl rfl rfl ?_ rfl ?_); (next => first | exact trivial | omega); intros) | refine c_true rfl ?_ | refine c_false rfl ?_ | refine c_in_other rfl ?_ | refine l_nil ?_ | refine l_skip rfl rfl rfl ?_ | refine l_skip0 rfl rfl ?_ | refine lbd rfl rfl (by kernel_rfl) rfl ?_ | (refine lsl rfl rfl rfl rfl (by kernel_rfl) rfl rfl ?_; intros) | (refine lsl0 rfl rfl ?_; intros) | (refine lix rfl (by omega) ?_; rintro _ rfl) | (refine lixr rfl (by assumption) (by omega) ?_; rintro _ _ rfl _) | (refine c_drw rfl (by decide) (by decide +kernel) ?_; (repeat (first | (refine hms rfl rfl rfl ?_ ?_; (next => first | exact trivial | omega)) | refine h_skip rfl rfl rfl ?_ | (refine hmw rfl rfl rfl ?_ ?_; (next => first | exact trivial | omega)))); refine h_nil ?_) | (refine c_drp rfl (by decide) (by decide +kernel) ?_; (repeat (first | (refine p_run rfl rfl rfl ?_ ?_; (next => first | exact trivial | omega)) | refine p_skip rfl rfl rfl ?_)); refine p_nil ?_)) | (refine lxv rfl rfl rfl ?_ ?_; (next => first | exact trivial | omega)) | refine lba rfl rfl (by kernel_rfl) rfl ?_ | (refine lcv rfl rfl rfl ?_ ?_; (next => first | exact trivial | omega)) | refine lpT rfl rfl rfl rfl ?_ | refine lpF rfl rfl rfl rfl ?_ | ((fail_if_success refine l_lit true rfl rfl rfl ?_); (fail_if_success refine l_lit false rfl rfl rfl ?_); refine l_gd rfl rfl rfl ?_ ?_ <;> intro _ <;> try (exfalso; first | contradiction | omega)) | (refine c_if rfl ?_ ?_ <;> intro _ <;> try (exfalso; first | contradiction | omega)) | (refine lmw rfl rfl rfl ?_ ?_; (next => first | exact trivial | omega))) | (first | (refine hms rfl rfl rfl ?_ ?_; (next => first | exact trivial | omega)) | refine hbd rfl rfl (by kernel_rfl) rfl ?_ | refine h_pT rfl rfl rfl rfl ?_ | refine h_pF rfl rfl rfl rfl ?_ | refine h_skip rfl rfl rfl ?_ | (refine hcv rfl rfl rfl ?_ ?_; (next => first | exact trivial | omega)) | ((fail_if_success refine h_lit true rfl rfl rfl ?_); (fail_if_success refine h_lit false rfl rfl rfl ?_); refine h_gd rfl rfl rfl ?_ ?_ <;> intro _ <;> try (exfalso; first | contradiction | omega)) | (refine hmw rfl rfl rfl ?_ ?_; (next => first | exact trivial | omega)) | refine h_nil ?_) | (first | (refine x_run rfl rfl rfl ?_ ?_; (next => first | exact trivial | omega)) | refine x_pT rfl rfl rfl rfl ?_ | refine x_pF rfl rfl rfl rfl ?_ | refine x_skip rfl rfl rfl ?_ | ((fail_if_success refine x_lit true rfl rfl rfl ?_); (fail_if_success refine x_lit false rfl rfl rfl ?_); refine x_gd rfl rfl rfl ?_ ?_ <;> intro _ <;> try (exfalso; first | contradiction | omega)) | refine x_nil ?_) | (first | refine t_done ?_ | refine t_all _ rfl rfl ?_ | refine allP_cons ?_ ?_ | exact allP_nil | refine t_last (by decide +kernel) ?_ | refine t_next Sub.au ?_) | refine c_drw rfl (by decide) (by decide +kernel) ?_ | refine c_dra rfl rfl (by decide) (by decide +kernel) ?_ | fail)
  have hw1 : (L.getD (Int.toNat 0) default).w = wd := hw0
  have hh1 : (L.getD (Int.toNat 0) default).h = ht := hh0
  have e1 : IntKind.i64.wrap (1 * 2 ^ min ((n : Int)).toNat IntKind.i64.bits) = (sd : Int) := by
    rw [Int.toNat_natCast, Nat.min_eq_left (by simp only [IntKind.bits]; omega), Int.one_mul, show (2 : Int) ^ n = (sd : Int) by rw [hsd]; push_cast; rfl]
    exact wrap_in (k := .i64) (by simp only [InR]; omega)
  rw [e1, hw1, hh1]
  have ex : IntKind.i64.wrap ((x : Int) * (sd : Int)) = (xs : Int) := by rw [← Int.natCast_mul, ← hxs]; exact wrap_in (k := .i64) (by simp only [InR]; omega)
  have ey : IntKind.i64.wrap ((y : Int) * (sd : Int)) = (ys : Int) := by rw [← Int.natCast_mul, ← hys]; exact wrap_in (k := .i64) (by simp only [InR]; omega)
  rw [ex, ey]
  have ex2 : IntKind.i64.wrap ((xs : Int) + (sd : Int)) = (xs + sd : Int) := wrap_in (k := .i64) (by simp only [InR]; omega)
  have ey2 : IntKind.i64.wrap ((ys : Int) + (sd : Int)) = (ys + sd : Int) := wrap_in (k := .i64) (by simp only [InR]; omega)
  rw [ex2, ey2]
  have ex3 : IntKind.i64.wrap (min (xs + sd : Int) (wd : Int) - 1) = min (xs + sd : Int) (wd : Int) - 1 := wrap_in (k := .i64) (by simp only [InR]; omega)
  have ey3 : IntKind.i64.wrap (min (ys + sd : Int) (ht : Int) - 1) = min (ys + sd : Int) (ht : Int) - 1 := wrap_in (k := .i64) (by simp only [InR]; omega)
  rw [ex3, ey3]
  refine j_outK (S' := [.blk p 153 [.slice (some ⟨bL, oL, none⟩) L.length c, .int .i64 seen]]) Sub.au ?_
  (repeat (first | refine k_tmp rfl ?_ | refine k_cell rfl ?_)); refine k_nil ?_
  exact ⟨rfl, rfl⟩
/-- The places of the level below one, for which it stands. -/
def blwN (lw lh x y : Nat) : Nat → List (Nat × Nat)
  | 0 => []
  | i + 1 => blwN lw lh x y i ++ if 2 * x + i % 2 < lw ∧ 2 * y + i / 2 < lh then [(2 * x + i % 2, 2 * y + i / 2)] else []
structure Pl3 where
  n : Nat
  x : Nat
  y : Nat
instance : Inhabited Pl3 := ⟨⟨0, 0, 0⟩⟩
abbrev pl3E : Pl3 → List Value := fun p => [.int .i64 p.n, .int .i64 p.x, .int .i64 p.y]
instance : RowE pl3E 3 := ⟨fun _ => rfl, by decide⟩
instance : OneE pl3E := ⟨fun a u hu => by simp [pl3E] at hu; rcases hu with rfl | rfl | rfl <;> rfl⟩
def blw (n lw lh x y : Nat) (i : Nat) : List Pl3 := (blwN lw lh x y i).map fun p => ⟨n, p.1, p.2⟩
end Go.Proofs.Ytokoopdkofgabaa
