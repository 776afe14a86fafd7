/- The reference's Under and Clear. -/
import Derived.Test.YtokoopdkofgabaaRay7
namespace Go.Proofs.Ytokoopdkofgabaa
open Go.RowKit
/-- What Clear tells. -/
def clF (W H : Nat) (z : List Int) (ax ay bx by_ high : Int) : Int × Int :=
  if ¬ (-1099511627776 ≤ high ∧ high ≤ 1099511627776) then (0, 1) else if (unF W H z ax ay bx by_).2.2 ≠ 0 then (0, (unF W H z ax ay bx by_).2.2) else (high - 16 * (unF W H z ax ay bx by_).2.1, 0)
theorem hiTo_bnd {W : Nat} {z : List Int} {ax ay bx by_ : Int} (hz : ∀ v ∈ z, InR .i16 v) : ∀ n, n ≤ z.length → -32768 ≤ hiTo W z ax ay bx by_ n ∧ hiTo W z ax ay bx by_ n ≤ 32767
  | 0, _ => by simp [hiTo]
  | n + 1, h => by
    have h1 := hiTo_bnd (W := W) (ax := ax) (ay := ay) (bx := bx) (by_ := by_) hz n (by omega)
    have h2 : -32768 ≤ z.getD n 0 ∧ z.getD n 0 ≤ 32767 := by
      rw [List.getD_eq_getElem?_getD, List.getElem?_eq_getElem (by omega)]
      exact hz _ (List.getElem_mem ..)
    rw [hiTo]
    split <;> omega
theorem unF_bnd {W H : Nat} {z : List Int} {ax ay bx by_ : Int} (hz : ∀ v ∈ z, InR .i16 v) : -32768 ≤ (unF W H z ax ay bx by_).2.1 ∧ (unF W H z ax ay bx by_).2.1 ≤ 32767 := by
  unfold unF
  split
  · simp
  split
  · simp
  split
  · simp
  · exact hiTo_bnd hz _ (Nat.le_refl _)
attribute [local irreducible] OJ J HdJ Code.wpIn wpListIn Oper.wpIn bodyPost CallsIn Does
set_option maxRecDepth 4000
set_option maxHeartbeats 16000000 in
theorem clear_any (p : Nat) (A : Option Addr) (c : Nat) (st : List Lv) (seen : Int) (W H : Nat) (z : List Int) (hP : Pyr37 W H z st) (ax ay bx by_ high : Int) (w : World) (ho : Own (pyrH p A c st seen) w) :
    Does Try.prog 43 [.pointer (some ⟨p, 0, none⟩), .agg #[.int .i64 ax, .int .i64 ay], .agg #[.int .i64 bx, .int .i64 by_], .int .i64 high] (pyrH p A c st seen) w
      (fun v S' => v = .tuple #[.int .i64 (clF W H z ax ay bx by_ high).1, .int .i64 (clF W H z ax ay bx by_ high).2] ∧ ∃ s2, S' = pyrH p A c st s2) := by
  refine does_of Try.func43 rfl Try.ntmps43 rfl ho (fun n => ?_)
  simp only [slots]
  have hb := unF_bnd (W := W) (H := H) (ax := ax) (ay := ay) (bx := bx) (by_ := by_) hP.i16
  unfold clF
  repeat' (first | (first | (first | refine j_app ?_ | refine cc ?_ | ((first | refine lms rfl rfl rfl ?_ ?_ | refine lss rfl rfl ?_ ?_ | refine lns rfl rfl rfl ?_ ?_ | refine lap rfl rfl rfl rfl rfl ?_ rfl ?_); (next => first | exact trivial | omega); intros) | refine c_true rfl ?_ | refine c_false rfl ?_ | refine c_in_other rfl ?_ | refine l_nil ?_ | refine l_skip rfl rfl rfl ?_ | refine l_skip0 rfl rfl ?_ | refine lbd rfl rfl (by kernel_rfl) rfl ?_ | (refine lsl rfl rfl rfl rfl (by kernel_rfl) rfl rfl ?_; intros) | (refine lsl0 rfl rfl ?_; intros) | (refine lix rfl (by omega) ?_; rintro _ rfl) | (refine lixr rfl (by assumption) (by omega) ?_; rintro _ _ rfl _) | (refine c_drw rfl (by decide) (by decide +kernel) ?_; (repeat (first | (refine hms rfl rfl rfl ?_ ?_; (next => first | exact trivial | omega)) | refine h_skip rfl rfl rfl ?_ | (refine hmw rfl rfl rfl ?_ ?_; (next => first | exact trivial | omega)))); refine h_nil ?_) | (refine c_drp rfl (by decide) (by decide +kernel) ?_; (repeat (first | (refine p_run rfl rfl rfl ?_ ?_; (next => first | exact trivial | omega)) | refine p_skip rfl rfl rfl ?_)); refine p_nil ?_)) | (refine lxv rfl rfl rfl ?_ ?_; (next => first | exact trivial | omega)) | refine lba rfl rfl (by kernel_rfl) rfl ?_ | (refine lcv rfl rfl rfl ?_ ?_; (next => first | exact trivial | omega)) | refine lpT rfl rfl rfl rfl ?_ | refine lpF rfl rfl rfl rfl ?_ | ((fail_if_success refine l_lit true rfl rfl rfl ?_); (fail_if_success refine l_lit false rfl rfl rfl ?_); refine l_gd rfl rfl rfl ?_ ?_ <;> intro _ <;> try (exfalso; first | contradiction | omega)) | (refine c_if rfl ?_ ?_ <;> intro _ <;> try (exfalso; first | contradiction | omega)) | (refine lmw rfl rfl rfl ?_ ?_; (next => first | exact trivial | omega))) | fail)
  · rw [if_pos (by omega)]
    exact j_out2 (S' := pyrH p A c st seen) rfl rfl rfl Sub.au ⟨rfl, _, rfl⟩
  · rw [if_pos (by omega)]
    exact j_out2 (S' := pyrH p A c st seen) rfl rfl rfl Sub.au ⟨rfl, _, rfl⟩
  · rw [if_neg (by omega)]
    refine lfn rfl rfl (Split.pre (pyrH p A c st seen) [_, _]) rfl (fun w hw ho => under_any p A c st seen W H z hP ax ay bx by_ w ho) ?_
    rintro v S' ⟨rfl, s2, rfl⟩
    refine j_swap ?_
    generalize unF W H z ax ay bx by_ = u at *
    repeat' (first | (first | (first | refine j_app ?_ | refine cc ?_ | ((first | refine lms rfl rfl rfl ?_ ?_ | refine lss rfl rfl ?_ ?_ | refine lns rfl rfl rfl ?_ ?_ | refine lap rfl rfl rfl rfl rfl ?_ rfl ?_); (next => first | exact trivial | omega); intros) | refine c_true rfl ?_ | refine c_false rfl ?_ | refine c_in_other rfl ?_ | refine l_nil ?_ | refine l_skip rfl rfl rfl ?_ | refine l_skip0 rfl rfl ?_ | refine lbd rfl rfl (by kernel_rfl) rfl ?_ | (refine lsl rfl rfl rfl rfl (by kernel_rfl) rfl rfl ?_; intros) | (refine lsl0 rfl rfl ?_; intros) | (refine lix rfl (by omega) ?_; rintro _ rfl) | (refine lixr rfl (by assumption) (by omega) ?_; rintro _ _ rfl _) | (refine c_drw rfl (by decide) (by decide +kernel) ?_; (repeat (first | (refine hms rfl rfl rfl ?_ ?_; (next => first | exact trivial | omega)) | refine h_skip rfl rfl rfl ?_ | (refine hmw rfl rfl rfl ?_ ?_; (next => first | exact trivial | omega)))); refine h_nil ?_) | (refine c_drp rfl (by decide) (by decide +kernel) ?_; (repeat (first | (refine p_run rfl rfl rfl ?_ ?_; (next => first | exact trivial | omega)) | refine p_skip rfl rfl rfl ?_)); refine p_nil ?_)) | (refine lxv rfl rfl rfl ?_ ?_; (next => first | exact trivial | omega)) | refine lba rfl rfl (by kernel_rfl) rfl ?_ | (refine lcv rfl rfl rfl ?_ ?_; (next => first | exact trivial | omega)) | refine lpT rfl rfl rfl rfl ?_ | refine lpF rfl rfl rfl rfl ?_ | ((fail_if_success refine l_lit true rfl rfl rfl ?_); (fail_if_success refine l_lit false rfl rfl rfl ?_); refine l_gd rfl rfl rfl ?_ ?_ <;> intro _ <;> try (exfalso; first | contradiction | omega)) | (refine c_if rfl ?_ ?_ <;> intro _ <;> try (exfalso; first | contradiction | omega)) | (refine lmw rfl rfl rfl ?_ ?_; (next => first | exact trivial | omega))) | fail)
    · rw [if_pos (by assumption)]
      exact j_out2 (S' := pyrH p A c st s2) rfl rfl rfl Sub.au ⟨rfl, _, rfl⟩
    · rw [if_neg (by assumption)]
      exact j_out2 (S' := pyrH p A c st s2) rfl rfl rfl Sub.au ⟨rfl, _, rfl⟩
end Go.Proofs.Ytokoopdkofgabaa
