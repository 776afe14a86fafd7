import Derived.Test.YtemmnpgebpffbaaGreatRows
import Derived.WalkKit
import Derived.TacticsIn
import Derived.TacticsInMore
import Derived.OrdersIn
import Derived.Below
import Derived.Deep.Draws
import Derived.Laws.AppendOwn
import Derived.Laws.OwnMore
import Derived.Laws.Rows
import Derived.Laws.Tables
import Derived.Laws.MakeOwn
import Derived.Maps.AppendAt
import Derived.OwnWalkIn
import Derived.Deep.LoopGhost
set_option linter.unusedVariables false
set_option linter.unusedSimpArgs false
/-
Long tactics by name: a theorem whose argument's default is the tactic.
-/
namespace Go.Proofs.YtemmnpgebpffbaaGreat
structure Zw (G : Prop) : Prop where
  h : G
theorem z_gob {G : Prop} (h : G := by (repeat' (first | (first | (first | refine j_app ?_ | refine cc ?_ | ((first | refine lms rfl rfl rfl ?_ ?_ | refine lss rfl rfl ?_ ?_ | refine lns rfl rfl rfl ?_ ?_ | refine lap rfl rfl rfl rfl rfl ?_ rfl ?_); (next => first | exact trivial | omega); intros) | refine c_true rfl ?_ | refine c_false rfl ?_ | refine c_in_other rfl ?_ | refine l_nil ?_ | refine l_skip rfl rfl rfl ?_ | refine l_skip0 rfl rfl ?_ | refine lbd rfl rfl (by kernel_rfl) rfl ?_ | (refine lsl rfl rfl rfl rfl (by kernel_rfl) rfl rfl ?_; intros) | (refine lsl0 rfl rfl ?_; intros) | (refine lix rfl (by omega) ?_; rintro _ rfl) | (refine lixr rfl (by assumption) (by omega) ?_; rintro _ _ rfl _) | (refine c_drw rfl (by decide) (by decide +kernel) ?_; (repeat (first | (refine hms rfl rfl rfl ?_ ?_; (next => first | exact trivial | omega)) | refine h_skip rfl rfl rfl ?_ | (refine hmw rfl rfl rfl ?_ ?_; (next => first | exact trivial | omega)))); refine h_nil ?_) | (refine c_drp rfl (by decide) (by decide +kernel) ?_; (repeat (first | (refine p_run rfl rfl rfl ?_ ?_; (next => first | exact trivial | omega)) | refine p_skip rfl rfl rfl ?_)); refine p_nil ?_)) | (refine lxv rfl rfl rfl ?_ ?_; (next => first | exact trivial | omega)) | refine lba rfl rfl (by kernel_rfl) rfl ?_ | (refine lcv rfl rfl rfl ?_ ?_; (next => first | exact trivial | omega)) | refine lpT rfl rfl rfl rfl ?_ | refine lpF rfl rfl rfl rfl ?_ | ((fail_if_success refine l_lit true rfl rfl rfl ?_); (fail_if_success refine l_lit false rfl rfl rfl ?_); refine l_gd rfl rfl rfl ?_ ?_ <;> intro _ <;> try (exfalso; first | contradiction | omega)) | (refine c_if rfl ?_ ?_ <;> intro _ <;> try (exfalso; first | contradiction | omega)) | (refine lmw rfl rfl rfl ?_ ?_; (next => first | exact trivial | omega))) | (first | (refine hms rfl rfl rfl ?_ ?_; (next => first | exact trivial | omega)) | refine hbd rfl rfl (by kernel_rfl) rfl ?_ | refine h_pT rfl rfl rfl rfl ?_ | refine h_pF rfl rfl rfl rfl ?_ | refine h_skip rfl rfl rfl ?_ | (refine hcv rfl rfl rfl ?_ ?_; (next => first | exact trivial | omega)) | ((fail_if_success refine h_lit true rfl rfl rfl ?_); (fail_if_success refine h_lit false rfl rfl rfl ?_); refine h_gd rfl rfl rfl ?_ ?_ <;> intro _ <;> try (exfalso; first | contradiction | omega)) | (refine hmw rfl rfl rfl ?_ ?_; (next => first | exact trivial | omega)) | refine h_nil ?_) | (first | (refine x_run rfl rfl rfl ?_ ?_; (next => first | exact trivial | omega)) | refine x_pT rfl rfl rfl rfl ?_ | refine x_pF rfl rfl rfl rfl ?_ | refine x_skip rfl rfl rfl ?_ | ((fail_if_success refine x_lit true rfl rfl rfl ?_); (fail_if_success refine x_lit false rfl rfl rfl ?_); refine x_gd rfl rfl rfl ?_ ?_ <;> intro _ <;> try (exfalso; first | contradiction | omega)) | refine x_nil ?_) | (first | refine t_done ?_ | refine t_all _ rfl rfl ?_ | refine allP_cons ?_ ?_ | exact allP_nil | refine t_last (by decide +kernel) ?_ | refine t_next Sub.au ?_) | refine c_drw rfl (by decide) (by decide +kernel) ?_ | refine c_dra rfl rfl (by decide) (by decide +kernel) ?_ | fail)); all_goals (refine Zw.h ?_; apply id ⟨?_⟩)) : G := h
theorem z_gox {G : Prop} (h : G := by (repeat (first | refine j_app ?_ | refine cc ?_ | ((first | refine lms rfl rfl rfl ?_ ?_ | refine lss rfl rfl ?_ ?_ | refine lns rfl rfl rfl ?_ ?_ | refine lap rfl rfl rfl rfl rfl ?_ rfl ?_); (next => first | exact trivial | omega); intros) | refine c_true rfl ?_ | refine c_false rfl ?_ | refine c_in_other rfl ?_ | refine l_nil ?_ | refine l_skip rfl rfl rfl ?_ | refine l_skip0 rfl rfl ?_ | refine lbd rfl rfl (by kernel_rfl) rfl ?_ | (refine lsl rfl rfl rfl rfl (by kernel_rfl) rfl rfl ?_; intros) | (refine lsl0 rfl rfl ?_; intros) | (refine lix rfl (by omega) ?_; rintro _ rfl) | (refine lixr rfl (by assumption) (by omega) ?_; rintro _ _ rfl _) | (refine c_drw rfl (by decide) (by decide +kernel) ?_; (repeat (first | (refine hms rfl rfl rfl ?_ ?_; (next => first | exact trivial | omega)) | refine h_skip rfl rfl rfl ?_ | (refine hmw rfl rfl rfl ?_ ?_; (next => first | exact trivial | omega)))); refine h_nil ?_) | (refine c_drp rfl (by decide) (by decide +kernel) ?_; (repeat (first | (refine p_run rfl rfl rfl ?_ ?_; (next => first | exact trivial | omega)) | refine p_skip rfl rfl rfl ?_)); refine p_nil ?_) | (refine lmw rfl rfl rfl ?_ ?_; (next => first | exact trivial | omega)) | refine lpT rfl rfl rfl rfl ?_ | refine lpF rfl rfl rfl rfl ?_)); all_goals (refine Zw.h ?_; apply id ⟨?_⟩)) : G := h
theorem z_tas {G : Prop} (h : G := by (repeat' (first | (first | (first | refine j_app ?_ | refine cc ?_ | ((first | refine lms rfl rfl rfl ?_ ?_ | refine lss rfl rfl ?_ ?_ | refine lns rfl rfl rfl ?_ ?_ | refine lap rfl rfl rfl rfl rfl ?_ rfl ?_); (next => first | exact trivial | omega); intros) | refine c_true rfl ?_ | refine c_false rfl ?_ | refine c_in_other rfl ?_ | refine l_nil ?_ | refine l_skip rfl rfl rfl ?_ | refine l_skip0 rfl rfl ?_ | refine lbd rfl rfl (by kernel_rfl) rfl ?_ | (refine lsl rfl rfl rfl rfl (by kernel_rfl) rfl rfl ?_; intros) | (refine lsl0 rfl rfl ?_; intros) | (refine lix rfl (by omega) ?_; rintro _ rfl) | (refine lixr rfl (by assumption) (by omega) ?_; rintro _ _ rfl _) | (refine c_drw rfl (by decide) (by decide +kernel) ?_; (repeat (first | (refine hms rfl rfl rfl ?_ ?_; (next => first | exact trivial | omega)) | refine h_skip rfl rfl rfl ?_ | (refine hmw rfl rfl rfl ?_ ?_; (next => first | exact trivial | omega)))); refine h_nil ?_) | (refine c_drp rfl (by decide) (by decide +kernel) ?_; (repeat (first | (refine p_run rfl rfl rfl ?_ ?_; (next => first | exact trivial | omega)) | refine p_skip rfl rfl rfl ?_)); refine p_nil ?_)) | (refine lxv rfl rfl rfl ?_ ?_; (next => first | exact trivial | omega)) | refine lba rfl rfl (by kernel_rfl) rfl ?_ | (refine lcv rfl rfl rfl ?_ ?_; (next => first | exact trivial | omega)) | refine lpT rfl rfl rfl rfl ?_ | refine lpF rfl rfl rfl rfl ?_ | ((fail_if_success refine l_lit true rfl rfl rfl ?_); (fail_if_success refine l_lit false rfl rfl rfl ?_); refine l_gd rfl rfl rfl ?_ ?_ <;> intro _ <;> try (exfalso; first | contradiction | omega)) | (refine c_if rfl ?_ ?_ <;> intro _ <;> try (exfalso; first | contradiction | omega)) | (refine lmw rfl rfl rfl ?_ ?_; (next => first | exact trivial | omega))) | fail)); all_goals (refine Zw.h ?_; apply id ⟨?_⟩)) : G := h
theorem z_go2 {G : Prop} (h : G := by (repeat (first | refine j_app ?_ | refine cc ?_ | ((first | refine lms rfl rfl rfl ?_ ?_ | refine lss rfl rfl ?_ ?_ | refine lns rfl rfl rfl ?_ ?_ | refine lap rfl rfl rfl rfl rfl ?_ rfl ?_); (next => first | exact trivial | omega); intros) | refine c_true rfl ?_ | refine c_false rfl ?_ | refine c_in_other rfl ?_ | refine l_nil ?_ | refine l_skip rfl rfl rfl ?_ | refine l_skip0 rfl rfl ?_ | refine lbd rfl rfl (by kernel_rfl) rfl ?_ | (refine lsl rfl rfl rfl rfl (by kernel_rfl) rfl rfl ?_; intros) | (refine lsl0 rfl rfl ?_; intros) | (refine lix rfl (by omega) ?_; rintro _ rfl) | (refine lixr rfl (by assumption) (by omega) ?_; rintro _ _ rfl _) | (refine c_drw rfl (by decide) (by decide +kernel) ?_; (repeat (first | (refine hms rfl rfl rfl ?_ ?_; (next => first | exact trivial | omega)) | refine h_skip rfl rfl rfl ?_ | (refine hmw rfl rfl rfl ?_ ?_; (next => first | exact trivial | omega)))); refine h_nil ?_) | (refine c_drp rfl (by decide) (by decide +kernel) ?_; (repeat (first | (refine p_run rfl rfl rfl ?_ ?_; (next => first | exact trivial | omega)) | refine p_skip rfl rfl rfl ?_)); refine p_nil ?_) | (refine lmw rfl rfl rfl ?_ ?_; (next => first | exact trivial | omega)))); all_goals (refine Zw.h ?_; apply id ⟨?_⟩)) : G := h
theorem z_ta {G : Prop} (h : G := by (first | (first | refine j_app ?_ | refine cc ?_ | ((first | refine lms rfl rfl rfl ?_ ?_ | refine lss rfl rfl ?_ ?_ | refine lns rfl rfl rfl ?_ ?_ | refine lap rfl rfl rfl rfl rfl ?_ rfl ?_); (next => first | exact trivial | omega); intros) | refine c_true rfl ?_ | refine c_false rfl ?_ | refine c_in_other rfl ?_ | refine l_nil ?_ | refine l_skip rfl rfl rfl ?_ | refine l_skip0 rfl rfl ?_ | refine lbd rfl rfl (by kernel_rfl) rfl ?_ | (refine lsl rfl rfl rfl rfl (by kernel_rfl) rfl rfl ?_; intros) | (refine lsl0 rfl rfl ?_; intros) | (refine lix rfl (by omega) ?_; rintro _ rfl) | (refine lixr rfl (by assumption) (by omega) ?_; rintro _ _ rfl _) | (refine c_drw rfl (by decide) (by decide +kernel) ?_; (repeat (first | (refine hms rfl rfl rfl ?_ ?_; (next => first | exact trivial | omega)) | refine h_skip rfl rfl rfl ?_ | (refine hmw rfl rfl rfl ?_ ?_; (next => first | exact trivial | omega)))); refine h_nil ?_) | (refine c_drp rfl (by decide) (by decide +kernel) ?_; (repeat (first | (refine p_run rfl rfl rfl ?_ ?_; (next => first | exact trivial | omega)) | refine p_skip rfl rfl rfl ?_)); refine p_nil ?_)) | (refine lxv rfl rfl rfl ?_ ?_; (next => first | exact trivial | omega)) | refine lba rfl rfl (by kernel_rfl) rfl ?_ | (refine lcv rfl rfl rfl ?_ ?_; (next => first | exact trivial | omega)) | refine lpT rfl rfl rfl rfl ?_ | refine lpF rfl rfl rfl rfl ?_ | ((fail_if_success refine l_lit true rfl rfl rfl ?_); (fail_if_success refine l_lit false rfl rfl rfl ?_); refine l_gd rfl rfl rfl ?_ ?_ <;> intro _ <;> try (exfalso; first | contradiction | omega)) | (refine c_if rfl ?_ ?_ <;> intro _ <;> try (exfalso; first | contradiction | omega)) | (refine lmw rfl rfl rfl ?_ ?_; (next => first | exact trivial | omega))); all_goals (refine Zw.h ?_; apply id ⟨?_⟩)) : G := h
theorem z_ha {G : Prop} (h : G := by (first | (refine hms rfl rfl rfl ?_ ?_; (next => first | exact trivial | omega)) | refine hbd rfl rfl (by kernel_rfl) rfl ?_ | refine h_pT rfl rfl rfl rfl ?_ | refine h_pF rfl rfl rfl rfl ?_ | refine h_skip rfl rfl rfl ?_ | (refine hcv rfl rfl rfl ?_ ?_; (next => first | exact trivial | omega)) | ((fail_if_success refine h_lit true rfl rfl rfl ?_); (fail_if_success refine h_lit false rfl rfl rfl ?_); refine h_gd rfl rfl rfl ?_ ?_ <;> intro _ <;> try (exfalso; first | contradiction | omega)) | (refine hmw rfl rfl rfl ?_ ?_; (next => first | exact trivial | omega)) | refine h_nil ?_); all_goals (refine Zw.h ?_; apply id ⟨?_⟩)) : G := h
theorem z_xa {G : Prop} (h : G := by (first | (refine x_run rfl rfl rfl ?_ ?_; (next => first | exact trivial | omega)) | refine x_pT rfl rfl rfl rfl ?_ | refine x_pF rfl rfl rfl rfl ?_ | refine x_skip rfl rfl rfl ?_ | ((fail_if_success refine x_lit true rfl rfl rfl ?_); (fail_if_success refine x_lit false rfl rfl rfl ?_); refine x_gd rfl rfl rfl ?_ ?_ <;> intro _ <;> try (exfalso; first | contradiction | omega)) | refine x_nil ?_); all_goals (refine Zw.h ?_; apply id ⟨?_⟩)) : G := h
theorem z_ua {G : Prop} (h : G := by (first | (refine u_ms rfl rfl rfl ?_ ?_; (next => first | exact trivial | omega)) | refine u_skip rfl rfl rfl ?_ | (refine u_cv rfl rfl rfl ?_ ?_; (next => first | exact trivial | omega)) | refine u_pT rfl rfl rfl rfl ?_ | refine u_pF rfl rfl rfl rfl ?_ | refine u_bd rfl rfl (by kernel_rfl) rfl ?_ | ((fail_if_success refine u_lit true rfl rfl rfl ?_); (fail_if_success refine u_lit false rfl rfl rfl ?_); refine u_gd rfl rfl rfl ?_ ?_ <;> intro _ <;> try (exfalso; first | contradiction | omega)) | (refine u_mw rfl rfl rfl ?_ ?_; (next => first | exact trivial | omega)) | refine u_nil ?_); all_goals (refine Zw.h ?_; apply id ⟨?_⟩)) : G := h
theorem z_tx {G : Prop} (h : G := by (first | refine t_done ?_ | refine t_all _ rfl rfl ?_ | refine allP_cons ?_ ?_ | exact allP_nil | refine t_last (by decide +kernel) ?_ | refine t_next Sub.au ?_); all_goals (refine Zw.h ?_; apply id ⟨?_⟩)) : G := h
theorem z_gov {G : Prop} (h : G := by (repeat' (first | refine t_tail ?_ | refine t_done ?_ | (first | (refine t_look 0 rfl rfl rfl rfl rfl rfl ?_ ?_ ?_ ?_; (next => first | exact trivial | omega); (next => decide +kernel); (next => first | exact Sub.refl _ | exact Sub.au)) | (refine t_look 1 rfl rfl rfl rfl rfl rfl ?_ ?_ ?_ ?_; (next => first | exact trivial | omega); (next => decide +kernel); (next => first | exact Sub.refl _ | exact Sub.au)) | (refine t_look 2 rfl rfl rfl rfl rfl rfl ?_ ?_ ?_ ?_; (next => first | exact trivial | omega); (next => decide +kernel); (next => first | exact Sub.refl _ | exact Sub.au)) | (refine t_look 3 rfl rfl rfl rfl rfl rfl ?_ ?_ ?_ ?_; (next => first | exact trivial | omega); (next => decide +kernel); (next => first | exact Sub.refl _ | exact Sub.au)) | (refine t_look 4 rfl rfl rfl rfl rfl rfl ?_ ?_ ?_ ?_; (next => first | exact trivial | omega); (next => decide +kernel); (next => first | exact Sub.refl _ | exact Sub.au)) | (refine t_look 5 rfl rfl rfl rfl rfl rfl ?_ ?_ ?_ ?_; (next => first | exact trivial | omega); (next => decide +kernel); (next => first | exact Sub.refl _ | exact Sub.au)) | (refine t_look 6 rfl rfl rfl rfl rfl rfl ?_ ?_ ?_ ?_; (next => first | exact trivial | omega); (next => decide +kernel); (next => first | exact Sub.refl _ | exact Sub.au)) | (refine t_look 7 rfl rfl rfl rfl rfl rfl ?_ ?_ ?_ ?_; (next => first | exact trivial | omega); (next => decide +kernel); (next => first | exact Sub.refl _ | exact Sub.au)) | (refine t_none 0 rfl rfl rfl rfl rfl ?_ ?_ ?_; (next => decide +kernel); (next => first | exact Sub.refl _ | exact Sub.au)) | (refine t_none 1 rfl rfl rfl rfl rfl ?_ ?_ ?_; (next => decide +kernel); (next => first | exact Sub.refl _ | exact Sub.au)) | (refine t_none 2 rfl rfl rfl rfl rfl ?_ ?_ ?_; (next => decide +kernel); (next => first | exact Sub.refl _ | exact Sub.au)) | (refine t_none 3 rfl rfl rfl rfl rfl ?_ ?_ ?_; (next => decide +kernel); (next => first | exact Sub.refl _ | exact Sub.au)) | (refine t_none 4 rfl rfl rfl rfl rfl ?_ ?_ ?_; (next => decide +kernel); (next => first | exact Sub.refl _ | exact Sub.au)) | (refine t_none 5 rfl rfl rfl rfl rfl ?_ ?_ ?_; (next => decide +kernel); (next => first | exact Sub.refl _ | exact Sub.au)) | (refine t_none 6 rfl rfl rfl rfl rfl ?_ ?_ ?_; (next => decide +kernel); (next => first | exact Sub.refl _ | exact Sub.au)) | (refine t_none 7 rfl rfl rfl rfl rfl ?_ ?_ ?_; (next => decide +kernel); (next => first | exact Sub.refl _ | exact Sub.au)) | ((fail_if_success refine t_lit true rfl rfl rfl rfl rfl ?_); (fail_if_success refine t_lit false rfl rfl rfl rfl rfl ?_); refine t_gd rfl rfl rfl rfl rfl ?_ ?_ <;> intro _ <;> try (exfalso; first | contradiction | omega))) | (refine t_all _ rfl rfl ?_) | refine allP_cons ?_ ?_ | exact allP_nil | (refine t_next ?_ ?_; (next => first | exact Sub.refl _ | exact Sub.au); (refine t_nrm (rest' := ?_) ?_ ?_; rotate_left; (next => repeat (first | exact era_head _ _ | (refine era_step (r' := ?_) ?_ ?_; rotate_left; (next => decide)))))) | (first | (first | refine j_app ?_ | refine cc ?_ | ((first | refine lms rfl rfl rfl ?_ ?_ | refine lss rfl rfl ?_ ?_ | refine lns rfl rfl rfl ?_ ?_ | refine lap rfl rfl rfl rfl rfl ?_ rfl ?_); (next => first | exact trivial | omega); intros) | refine c_true rfl ?_ | refine c_false rfl ?_ | refine c_in_other rfl ?_ | refine l_nil ?_ | refine l_skip rfl rfl rfl ?_ | refine l_skip0 rfl rfl ?_ | refine lbd rfl rfl (by kernel_rfl) rfl ?_ | (refine lsl rfl rfl rfl rfl (by kernel_rfl) rfl rfl ?_; intros) | (refine lsl0 rfl rfl ?_; intros) | (refine lix rfl (by omega) ?_; rintro _ rfl) | (refine lixr rfl (by assumption) (by omega) ?_; rintro _ _ rfl _) | (refine c_drw rfl (by decide) (by decide +kernel) ?_; (repeat (first | (refine hms rfl rfl rfl ?_ ?_; (next => first | exact trivial | omega)) | refine h_skip rfl rfl rfl ?_ | (refine hmw rfl rfl rfl ?_ ?_; (next => first | exact trivial | omega)))); refine h_nil ?_) | (refine c_drp rfl (by decide) (by decide +kernel) ?_; (repeat (first | (refine p_run rfl rfl rfl ?_ ?_; (next => first | exact trivial | omega)) | refine p_skip rfl rfl rfl ?_)); refine p_nil ?_)) | (refine lxv rfl rfl rfl ?_ ?_; (next => first | exact trivial | omega)) | refine lba rfl rfl (by kernel_rfl) rfl ?_ | (refine lcv rfl rfl rfl ?_ ?_; (next => first | exact trivial | omega)) | refine lpT rfl rfl rfl rfl ?_ | refine lpF rfl rfl rfl rfl ?_ | ((fail_if_success refine l_lit true rfl rfl rfl ?_); (fail_if_success refine l_lit false rfl rfl rfl ?_); refine l_gd rfl rfl rfl ?_ ?_ <;> intro _ <;> try (exfalso; first | contradiction | omega)) | (refine c_if rfl ?_ ?_ <;> intro _ <;> try (exfalso; first | contradiction | omega)) | (refine lmw rfl rfl rfl ?_ ?_; (next => first | exact trivial | omega))) | fail)); all_goals (refine Zw.h ?_; apply id ⟨?_⟩)) : G := h
theorem z_gov1 {G : Prop} (h : G := by ((first | refine t_tail ?_ | refine t_done ?_ | (first | (refine t_look 0 rfl rfl rfl rfl rfl rfl ?_ ?_ ?_ ?_; (next => first | exact trivial | omega); (next => decide +kernel); (next => first | exact Sub.refl _ | exact Sub.au)) | (refine t_look 1 rfl rfl rfl rfl rfl rfl ?_ ?_ ?_ ?_; (next => first | exact trivial | omega); (next => decide +kernel); (next => first | exact Sub.refl _ | exact Sub.au)) | (refine t_look 2 rfl rfl rfl rfl rfl rfl ?_ ?_ ?_ ?_; (next => first | exact trivial | omega); (next => decide +kernel); (next => first | exact Sub.refl _ | exact Sub.au)) | (refine t_look 3 rfl rfl rfl rfl rfl rfl ?_ ?_ ?_ ?_; (next => first | exact trivial | omega); (next => decide +kernel); (next => first | exact Sub.refl _ | exact Sub.au)) | (refine t_look 4 rfl rfl rfl rfl rfl rfl ?_ ?_ ?_ ?_; (next => first | exact trivial | omega); (next => decide +kernel); (next => first | exact Sub.refl _ | exact Sub.au)) | (refine t_look 5 rfl rfl rfl rfl rfl rfl ?_ ?_ ?_ ?_; (next => first | exact trivial | omega); (next => decide +kernel); (next => first | exact Sub.refl _ | exact Sub.au)) | (refine t_look 6 rfl rfl rfl rfl rfl rfl ?_ ?_ ?_ ?_; (next => first | exact trivial | omega); (next => decide +kernel); (next => first | exact Sub.refl _ | exact Sub.au)) | (refine t_look 7 rfl rfl rfl rfl rfl rfl ?_ ?_ ?_ ?_; (next => first | exact trivial | omega); (next => decide +kernel); (next => first | exact Sub.refl _ | exact Sub.au)) | (refine t_none 0 rfl rfl rfl rfl rfl ?_ ?_ ?_; (next => decide +kernel); (next => first | exact Sub.refl _ | exact Sub.au)) | (refine t_none 1 rfl rfl rfl rfl rfl ?_ ?_ ?_; (next => decide +kernel); (next => first | exact Sub.refl _ | exact Sub.au)) | (refine t_none 2 rfl rfl rfl rfl rfl ?_ ?_ ?_; (next => decide +kernel); (next => first | exact Sub.refl _ | exact Sub.au)) | (refine t_none 3 rfl rfl rfl rfl rfl ?_ ?_ ?_; (next => decide +kernel); (next => first | exact Sub.refl _ | exact Sub.au)) | (refine t_none 4 rfl rfl rfl rfl rfl ?_ ?_ ?_; (next => decide +kernel); (next => first | exact Sub.refl _ | exact Sub.au)) | (refine t_none 5 rfl rfl rfl rfl rfl ?_ ?_ ?_; (next => decide +kernel); (next => first | exact Sub.refl _ | exact Sub.au)) | (refine t_none 6 rfl rfl rfl rfl rfl ?_ ?_ ?_; (next => decide +kernel); (next => first | exact Sub.refl _ | exact Sub.au)) | (refine t_none 7 rfl rfl rfl rfl rfl ?_ ?_ ?_; (next => decide +kernel); (next => first | exact Sub.refl _ | exact Sub.au)) | ((fail_if_success refine t_lit true rfl rfl rfl rfl rfl ?_); (fail_if_success refine t_lit false rfl rfl rfl rfl rfl ?_); refine t_gd rfl rfl rfl rfl rfl ?_ ?_ <;> intro _ <;> try (exfalso; first | contradiction | omega))) | (refine t_all _ rfl rfl ?_) | refine allP_cons ?_ ?_ | exact allP_nil | (refine t_next ?_ ?_; (next => first | exact Sub.refl _ | exact Sub.au); (refine t_nrm (rest' := ?_) ?_ ?_; rotate_left; (next => repeat (first | exact era_head _ _ | (refine era_step (r' := ?_) ?_ ?_; rotate_left; (next => decide)))))) | (first | (first | refine j_app ?_ | refine cc ?_ | ((first | refine lms rfl rfl rfl ?_ ?_ | refine lss rfl rfl ?_ ?_ | refine lns rfl rfl rfl ?_ ?_ | refine lap rfl rfl rfl rfl rfl ?_ rfl ?_); (next => first | exact trivial | omega); intros) | refine c_true rfl ?_ | refine c_false rfl ?_ | refine c_in_other rfl ?_ | refine l_nil ?_ | refine l_skip rfl rfl rfl ?_ | refine l_skip0 rfl rfl ?_ | refine lbd rfl rfl (by kernel_rfl) rfl ?_ | (refine lsl rfl rfl rfl rfl (by kernel_rfl) rfl rfl ?_; intros) | (refine lsl0 rfl rfl ?_; intros) | (refine lix rfl (by omega) ?_; rintro _ rfl) | (refine lixr rfl (by assumption) (by omega) ?_; rintro _ _ rfl _) | (refine c_drw rfl (by decide) (by decide +kernel) ?_; (repeat (first | (refine hms rfl rfl rfl ?_ ?_; (next => first | exact trivial | omega)) | refine h_skip rfl rfl rfl ?_ | (refine hmw rfl rfl rfl ?_ ?_; (next => first | exact trivial | omega)))); refine h_nil ?_) | (refine c_drp rfl (by decide) (by decide +kernel) ?_; (repeat (first | (refine p_run rfl rfl rfl ?_ ?_; (next => first | exact trivial | omega)) | refine p_skip rfl rfl rfl ?_)); refine p_nil ?_)) | (refine lxv rfl rfl rfl ?_ ?_; (next => first | exact trivial | omega)) | refine lba rfl rfl (by kernel_rfl) rfl ?_ | (refine lcv rfl rfl rfl ?_ ?_; (next => first | exact trivial | omega)) | refine lpT rfl rfl rfl rfl ?_ | refine lpF rfl rfl rfl rfl ?_ | ((fail_if_success refine l_lit true rfl rfl rfl ?_); (fail_if_success refine l_lit false rfl rfl rfl ?_); refine l_gd rfl rfl rfl ?_ ?_ <;> intro _ <;> try (exfalso; first | contradiction | omega)) | (refine c_if rfl ?_ ?_ <;> intro _ <;> try (exfalso; first | contradiction | omega)) | (refine lmw rfl rfl rfl ?_ ?_; (next => first | exact trivial | omega))) | fail)); all_goals (refine Zw.h ?_; apply id ⟨?_⟩)) : G := h
theorem z_govG {G : Prop} (h : G := by (repeat' (first | refine t_tail ?_ | refine t_done ?_ | (first | (refine t_look 0 rfl rfl rfl rfl rfl rfl ?_ ?_ ?_ ?_; (next => first | exact trivial | omega); (next => decide +kernel); (next => first | exact Sub.refl _ | exact Sub.au)) | (refine t_look 1 rfl rfl rfl rfl rfl rfl ?_ ?_ ?_ ?_; (next => first | exact trivial | omega); (next => decide +kernel); (next => first | exact Sub.refl _ | exact Sub.au)) | (refine t_look 2 rfl rfl rfl rfl rfl rfl ?_ ?_ ?_ ?_; (next => first | exact trivial | omega); (next => decide +kernel); (next => first | exact Sub.refl _ | exact Sub.au)) | (refine t_look 3 rfl rfl rfl rfl rfl rfl ?_ ?_ ?_ ?_; (next => first | exact trivial | omega); (next => decide +kernel); (next => first | exact Sub.refl _ | exact Sub.au)) | (refine t_look 4 rfl rfl rfl rfl rfl rfl ?_ ?_ ?_ ?_; (next => first | exact trivial | omega); (next => decide +kernel); (next => first | exact Sub.refl _ | exact Sub.au)) | (refine t_look 5 rfl rfl rfl rfl rfl rfl ?_ ?_ ?_ ?_; (next => first | exact trivial | omega); (next => decide +kernel); (next => first | exact Sub.refl _ | exact Sub.au)) | (refine t_look 6 rfl rfl rfl rfl rfl rfl ?_ ?_ ?_ ?_; (next => first | exact trivial | omega); (next => decide +kernel); (next => first | exact Sub.refl _ | exact Sub.au)) | (refine t_look 7 rfl rfl rfl rfl rfl rfl ?_ ?_ ?_ ?_; (next => first | exact trivial | omega); (next => decide +kernel); (next => first | exact Sub.refl _ | exact Sub.au)) | (refine t_none 0 rfl rfl rfl rfl rfl ?_ ?_ ?_; (next => decide +kernel); (next => first | exact Sub.refl _ | exact Sub.au)) | (refine t_none 1 rfl rfl rfl rfl rfl ?_ ?_ ?_; (next => decide +kernel); (next => first | exact Sub.refl _ | exact Sub.au)) | (refine t_none 2 rfl rfl rfl rfl rfl ?_ ?_ ?_; (next => decide +kernel); (next => first | exact Sub.refl _ | exact Sub.au)) | (refine t_none 3 rfl rfl rfl rfl rfl ?_ ?_ ?_; (next => decide +kernel); (next => first | exact Sub.refl _ | exact Sub.au)) | (refine t_none 4 rfl rfl rfl rfl rfl ?_ ?_ ?_; (next => decide +kernel); (next => first | exact Sub.refl _ | exact Sub.au)) | (refine t_none 5 rfl rfl rfl rfl rfl ?_ ?_ ?_; (next => decide +kernel); (next => first | exact Sub.refl _ | exact Sub.au)) | (refine t_none 6 rfl rfl rfl rfl rfl ?_ ?_ ?_; (next => decide +kernel); (next => first | exact Sub.refl _ | exact Sub.au)) | (refine t_none 7 rfl rfl rfl rfl rfl ?_ ?_ ?_; (next => decide +kernel); (next => first | exact Sub.refl _ | exact Sub.au)) | ((fail_if_success refine t_litG true rfl rfl rfl rfl rfl ?_); (fail_if_success refine t_litG false rfl rfl rfl rfl rfl ?_); refine t_gd rfl rfl rfl rfl rfl ?_ ?_ <;> intro _ <;> try (exfalso; first | contradiction | omega))) | (refine t_all _ rfl rfl ?_) | refine allP_cons ?_ ?_ | exact allP_nil | (refine t_next ?_ ?_; (next => first | exact Sub.refl _ | exact Sub.au); (refine t_nrm (rest' := ?_) ?_ ?_; rotate_left; (next => repeat (first | exact era_head _ _ | (refine era_step (r' := ?_) ?_ ?_; rotate_left; (next => decide)))))) | (first | (first | refine j_app ?_ | refine cc ?_ | ((first | refine lms rfl rfl rfl ?_ ?_ | refine lss rfl rfl ?_ ?_ | refine lns rfl rfl rfl ?_ ?_ | refine lap rfl rfl rfl rfl rfl ?_ rfl ?_); (next => first | exact trivial | omega); intros) | refine c_true rfl ?_ | refine c_false rfl ?_ | refine c_in_other rfl ?_ | refine l_nil ?_ | refine l_skip rfl rfl rfl ?_ | refine l_skip0 rfl rfl ?_ | refine lbd rfl rfl (by kernel_rfl) rfl ?_ | (refine lsl rfl rfl rfl rfl (by kernel_rfl) rfl rfl ?_; intros) | (refine lsl0 rfl rfl ?_; intros) | (refine lix rfl (by omega) ?_; rintro _ rfl) | (refine lixr rfl (by assumption) (by omega) ?_; rintro _ _ rfl _) | (refine c_drw rfl (by decide) (by decide +kernel) ?_; (repeat (first | (refine hms rfl rfl rfl ?_ ?_; (next => first | exact trivial | omega)) | refine h_skip rfl rfl rfl ?_ | (refine hmw rfl rfl rfl ?_ ?_; (next => first | exact trivial | omega)))); refine h_nil ?_) | (refine c_drp rfl (by decide) (by decide +kernel) ?_; (repeat (first | (refine p_run rfl rfl rfl ?_ ?_; (next => first | exact trivial | omega)) | refine p_skip rfl rfl rfl ?_)); refine p_nil ?_)) | (refine lxv rfl rfl rfl ?_ ?_; (next => first | exact trivial | omega)) | refine lba rfl rfl (by kernel_rfl) rfl ?_ | (refine lcv rfl rfl rfl ?_ ?_; (next => first | exact trivial | omega)) | refine lpT rfl rfl rfl rfl ?_ | refine lpF rfl rfl rfl rfl ?_ | ((fail_if_success refine l_lit true rfl rfl rfl ?_); (fail_if_success refine l_lit false rfl rfl rfl ?_); refine l_gd rfl rfl rfl ?_ ?_ <;> intro _ <;> try (exfalso; first | contradiction | omega)) | (refine c_if rfl ?_ ?_ <;> intro _ <;> try (exfalso; first | contradiction | omega)) | (refine lmw rfl rfl rfl ?_ ?_; (next => first | exact trivial | omega))) | fail)); all_goals (refine Zw.h ?_; apply id ⟨?_⟩)) : G := h
theorem z_govG1 {G : Prop} (h : G := by ((first | refine t_tail ?_ | refine t_done ?_ | (first | (refine t_look 0 rfl rfl rfl rfl rfl rfl ?_ ?_ ?_ ?_; (next => first | exact trivial | omega); (next => decide +kernel); (next => first | exact Sub.refl _ | exact Sub.au)) | (refine t_look 1 rfl rfl rfl rfl rfl rfl ?_ ?_ ?_ ?_; (next => first | exact trivial | omega); (next => decide +kernel); (next => first | exact Sub.refl _ | exact Sub.au)) | (refine t_look 2 rfl rfl rfl rfl rfl rfl ?_ ?_ ?_ ?_; (next => first | exact trivial | omega); (next => decide +kernel); (next => first | exact Sub.refl _ | exact Sub.au)) | (refine t_look 3 rfl rfl rfl rfl rfl rfl ?_ ?_ ?_ ?_; (next => first | exact trivial | omega); (next => decide +kernel); (next => first | exact Sub.refl _ | exact Sub.au)) | (refine t_look 4 rfl rfl rfl rfl rfl rfl ?_ ?_ ?_ ?_; (next => first | exact trivial | omega); (next => decide +kernel); (next => first | exact Sub.refl _ | exact Sub.au)) | (refine t_look 5 rfl rfl rfl rfl rfl rfl ?_ ?_ ?_ ?_; (next => first | exact trivial | omega); (next => decide +kernel); (next => first | exact Sub.refl _ | exact Sub.au)) | (refine t_look 6 rfl rfl rfl rfl rfl rfl ?_ ?_ ?_ ?_; (next => first | exact trivial | omega); (next => decide +kernel); (next => first | exact Sub.refl _ | exact Sub.au)) | (refine t_look 7 rfl rfl rfl rfl rfl rfl ?_ ?_ ?_ ?_; (next => first | exact trivial | omega); (next => decide +kernel); (next => first | exact Sub.refl _ | exact Sub.au)) | (refine t_none 0 rfl rfl rfl rfl rfl ?_ ?_ ?_; (next => decide +kernel); (next => first | exact Sub.refl _ | exact Sub.au)) | (refine t_none 1 rfl rfl rfl rfl rfl ?_ ?_ ?_; (next => decide +kernel); (next => first | exact Sub.refl _ | exact Sub.au)) | (refine t_none 2 rfl rfl rfl rfl rfl ?_ ?_ ?_; (next => decide +kernel); (next => first | exact Sub.refl _ | exact Sub.au)) | (refine t_none 3 rfl rfl rfl rfl rfl ?_ ?_ ?_; (next => decide +kernel); (next => first | exact Sub.refl _ | exact Sub.au)) | (refine t_none 4 rfl rfl rfl rfl rfl ?_ ?_ ?_; (next => decide +kernel); (next => first | exact Sub.refl _ | exact Sub.au)) | (refine t_none 5 rfl rfl rfl rfl rfl ?_ ?_ ?_; (next => decide +kernel); (next => first | exact Sub.refl _ | exact Sub.au)) | (refine t_none 6 rfl rfl rfl rfl rfl ?_ ?_ ?_; (next => decide +kernel); (next => first | exact Sub.refl _ | exact Sub.au)) | (refine t_none 7 rfl rfl rfl rfl rfl ?_ ?_ ?_; (next => decide +kernel); (next => first | exact Sub.refl _ | exact Sub.au)) | ((fail_if_success refine t_litG true rfl rfl rfl rfl rfl ?_); (fail_if_success refine t_litG false rfl rfl rfl rfl rfl ?_); refine t_gd rfl rfl rfl rfl rfl ?_ ?_ <;> intro _ <;> try (exfalso; first | contradiction | omega))) | (refine t_all _ rfl rfl ?_) | refine allP_cons ?_ ?_ | exact allP_nil | (refine t_next ?_ ?_; (next => first | exact Sub.refl _ | exact Sub.au); (refine t_nrm (rest' := ?_) ?_ ?_; rotate_left; (next => repeat (first | exact era_head _ _ | (refine era_step (r' := ?_) ?_ ?_; rotate_left; (next => decide)))))) | (first | (first | refine j_app ?_ | refine cc ?_ | ((first | refine lms rfl rfl rfl ?_ ?_ | refine lss rfl rfl ?_ ?_ | refine lns rfl rfl rfl ?_ ?_ | refine lap rfl rfl rfl rfl rfl ?_ rfl ?_); (next => first | exact trivial | omega); intros) | refine c_true rfl ?_ | refine c_false rfl ?_ | refine c_in_other rfl ?_ | refine l_nil ?_ | refine l_skip rfl rfl rfl ?_ | refine l_skip0 rfl rfl ?_ | refine lbd rfl rfl (by kernel_rfl) rfl ?_ | (refine lsl rfl rfl rfl rfl (by kernel_rfl) rfl rfl ?_; intros) | (refine lsl0 rfl rfl ?_; intros) | (refine lix rfl (by omega) ?_; rintro _ rfl) | (refine lixr rfl (by assumption) (by omega) ?_; rintro _ _ rfl _) | (refine c_drw rfl (by decide) (by decide +kernel) ?_; (repeat (first | (refine hms rfl rfl rfl ?_ ?_; (next => first | exact trivial | omega)) | refine h_skip rfl rfl rfl ?_ | (refine hmw rfl rfl rfl ?_ ?_; (next => first | exact trivial | omega)))); refine h_nil ?_) | (refine c_drp rfl (by decide) (by decide +kernel) ?_; (repeat (first | (refine p_run rfl rfl rfl ?_ ?_; (next => first | exact trivial | omega)) | refine p_skip rfl rfl rfl ?_)); refine p_nil ?_)) | (refine lxv rfl rfl rfl ?_ ?_; (next => first | exact trivial | omega)) | refine lba rfl rfl (by kernel_rfl) rfl ?_ | (refine lcv rfl rfl rfl ?_ ?_; (next => first | exact trivial | omega)) | refine lpT rfl rfl rfl rfl ?_ | refine lpF rfl rfl rfl rfl ?_ | ((fail_if_success refine l_lit true rfl rfl rfl ?_); (fail_if_success refine l_lit false rfl rfl rfl ?_); refine l_gd rfl rfl rfl ?_ ?_ <;> intro _ <;> try (exfalso; first | contradiction | omega)) | (refine c_if rfl ?_ ?_ <;> intro _ <;> try (exfalso; first | contradiction | omega)) | (refine lmw rfl rfl rfl ?_ ?_; (next => first | exact trivial | omega))) | fail)); all_goals (refine Zw.h ?_; apply id ⟨?_⟩)) : G := h
theorem z_gvs {G : Prop} (h : G := by (repeat' (first | refine t_tail ?_ | refine t_done ?_ | (first | (refine t_look 0 rfl rfl rfl rfl rfl rfl ?_ ?_ ?_ ?_; (next => first | exact trivial | omega); (next => decide +kernel); (next => first | exact Sub.refl _ | exact Sub.au)) | (refine t_look 1 rfl rfl rfl rfl rfl rfl ?_ ?_ ?_ ?_; (next => first | exact trivial | omega); (next => decide +kernel); (next => first | exact Sub.refl _ | exact Sub.au)) | (refine t_look 2 rfl rfl rfl rfl rfl rfl ?_ ?_ ?_ ?_; (next => first | exact trivial | omega); (next => decide +kernel); (next => first | exact Sub.refl _ | exact Sub.au)) | (refine t_look 3 rfl rfl rfl rfl rfl rfl ?_ ?_ ?_ ?_; (next => first | exact trivial | omega); (next => decide +kernel); (next => first | exact Sub.refl _ | exact Sub.au))) | (refine t_all _ rfl rfl ?_) | refine allP_cons ?_ ?_ | exact allP_nil | (refine t_next ?_ ?_; (next => first | exact Sub.refl _ | exact Sub.au); (refine t_nrm (rest' := ?_) ?_ ?_; rotate_left; (next => repeat (first | exact era_head _ _ | (refine era_step (r' := ?_) ?_ ?_; rotate_left; (next => decide)))))) | (first | (first | refine j_app ?_ | refine cc ?_ | ((first | refine lms rfl rfl rfl ?_ ?_ | refine lss rfl rfl ?_ ?_ | refine lns rfl rfl rfl ?_ ?_ | refine lap rfl rfl rfl rfl rfl ?_ rfl ?_); (next => first | exact trivial | omega); intros) | refine c_true rfl ?_ | refine c_false rfl ?_ | refine c_in_other rfl ?_ | refine l_nil ?_ | refine l_skip rfl rfl rfl ?_ | refine l_skip0 rfl rfl ?_ | refine lbd rfl rfl (by kernel_rfl) rfl ?_ | (refine lsl rfl rfl rfl rfl (by kernel_rfl) rfl rfl ?_; intros) | (refine lsl0 rfl rfl ?_; intros) | (refine lix rfl (by omega) ?_; rintro _ rfl) | (refine lixr rfl (by assumption) (by omega) ?_; rintro _ _ rfl _) | (refine c_drw rfl (by decide) (by decide +kernel) ?_; (repeat (first | (refine hms rfl rfl rfl ?_ ?_; (next => first | exact trivial | omega)) | refine h_skip rfl rfl rfl ?_ | (refine hmw rfl rfl rfl ?_ ?_; (next => first | exact trivial | omega)))); refine h_nil ?_) | (refine c_drp rfl (by decide) (by decide +kernel) ?_; (repeat (first | (refine p_run rfl rfl rfl ?_ ?_; (next => first | exact trivial | omega)) | refine p_skip rfl rfl rfl ?_)); refine p_nil ?_)) | (refine lxv rfl rfl rfl ?_ ?_; (next => first | exact trivial | omega)) | refine lba rfl rfl (by kernel_rfl) rfl ?_ | (refine lcv rfl rfl rfl ?_ ?_; (next => first | exact trivial | omega)) | refine lpT rfl rfl rfl rfl ?_ | refine lpF rfl rfl rfl rfl ?_ | ((fail_if_success refine l_lit true rfl rfl rfl ?_); (fail_if_success refine l_lit false rfl rfl rfl ?_); refine l_gd rfl rfl rfl ?_ ?_ <;> intro _ <;> try (exfalso; first | contradiction | omega)) | (refine c_if rfl ?_ ?_ <;> intro _ <;> try (exfalso; first | contradiction | omega)) | (refine lmw rfl rfl rfl ?_ ?_; (next => first | exact trivial | omega))) | fail)); all_goals (refine Zw.h ?_; apply id ⟨?_⟩)) : G := h
theorem z_gon {G : Prop} (h : G := by (repeat' (first | (first | (first | refine j_app ?_ | refine cc ?_ | ((first | refine lms rfl rfl rfl ?_ ?_ | refine lss rfl rfl ?_ ?_ | refine lns rfl rfl rfl ?_ ?_ | refine lap rfl rfl rfl rfl rfl ?_ rfl ?_); (next => first | exact trivial | omega); intros) | refine c_true rfl ?_ | refine c_false rfl ?_ | refine c_in_other rfl ?_ | refine l_nil ?_ | refine l_skip rfl rfl rfl ?_ | refine l_skip0 rfl rfl ?_ | refine lbd rfl rfl (by kernel_rfl) rfl ?_ | (refine lsl rfl rfl rfl rfl (by kernel_rfl) rfl rfl ?_; intros) | (refine lsl0 rfl rfl ?_; intros) | (refine lix rfl (by omega) ?_; rintro _ rfl) | (refine lixr rfl (by assumption) (by omega) ?_; rintro _ _ rfl _) | (refine c_drw rfl (by decide) (by decide +kernel) ?_; (repeat (first | (refine hms rfl rfl rfl ?_ ?_; (next => first | exact trivial | omega)) | refine h_skip rfl rfl rfl ?_ | (refine hmw rfl rfl rfl ?_ ?_; (next => first | exact trivial | omega)))); refine h_nil ?_) | (refine c_drp rfl (by decide) (by decide +kernel) ?_; (repeat (first | (refine p_run rfl rfl rfl ?_ ?_; (next => first | exact trivial | omega)) | refine p_skip rfl rfl rfl ?_)); refine p_nil ?_)) | (refine lxv rfl rfl rfl ?_ ?_; (next => first | exact trivial | omega)) | refine lba rfl rfl (by kernel_rfl) rfl ?_ | (refine lcv rfl rfl rfl ?_ ?_; (next => first | exact trivial | omega)) | refine lpT rfl rfl rfl rfl ?_ | refine lpF rfl rfl rfl rfl ?_ | ((fail_if_success refine l_lit true rfl rfl rfl ?_); (fail_if_success refine l_lit false rfl rfl rfl ?_); refine l_gd rfl rfl rfl ?_ ?_ <;> intro _ <;> try (exfalso; first | contradiction | omega)) | (refine c_if rfl ?_ ?_ <;> intro _ <;> try (exfalso; first | contradiction | omega)) | (refine lmw rfl rfl rfl ?_ ?_; (next => first | exact trivial | omega))) | (first | (refine x_run rfl rfl rfl ?_ ?_; (next => first | exact trivial | omega)) | refine x_pT rfl rfl rfl rfl ?_ | refine x_pF rfl rfl rfl rfl ?_ | refine x_skip rfl rfl rfl ?_ | ((fail_if_success refine x_lit true rfl rfl rfl ?_); (fail_if_success refine x_lit false rfl rfl rfl ?_); refine x_gd rfl rfl rfl ?_ ?_ <;> intro _ <;> try (exfalso; first | contradiction | omega)) | refine x_nil ?_) | (first | refine t_done ?_ | refine t_all _ rfl rfl ?_ | refine allP_cons ?_ ?_ | exact allP_nil | refine t_last (by decide +kernel) ?_ | refine t_next Sub.au ?_) | fail)); all_goals (refine Zw.h ?_; apply id ⟨?_⟩)) : G := h
theorem z_gou {G : Prop} (h : G := by (repeat (first | refine j_app ?_ | refine cc ?_ | ((first | refine lms rfl rfl rfl ?_ ?_ | refine lss rfl rfl ?_ ?_ | refine lns rfl rfl rfl ?_ ?_ | refine lap rfl rfl rfl rfl rfl ?_ rfl ?_); (next => first | exact trivial | omega); intros) | refine c_true rfl ?_ | refine c_false rfl ?_ | refine c_in_other rfl ?_ | refine l_nil ?_ | refine l_skip rfl rfl rfl ?_ | refine l_skip0 rfl rfl ?_ | refine lbd rfl rfl (by kernel_rfl) rfl ?_ | (refine lsl rfl rfl rfl rfl (by kernel_rfl) rfl rfl ?_; intros) | (refine lsl0 rfl rfl ?_; intros) | (refine lix rfl (by omega) ?_; rintro _ rfl) | (refine lixr rfl (by assumption) (by omega) ?_; rintro _ _ rfl _) | (refine c_drw rfl (by decide) (by decide +kernel) ?_; (repeat (first | (refine hms rfl rfl rfl ?_ ?_; (next => first | exact trivial | omega)) | refine h_skip rfl rfl rfl ?_ | (refine hmw rfl rfl rfl ?_ ?_; (next => first | exact trivial | omega)))); refine h_nil ?_) | (refine c_drp rfl (by decide) (by decide +kernel) ?_; (repeat (first | (refine p_run rfl rfl rfl ?_ ?_; (next => first | exact trivial | omega)) | refine p_skip rfl rfl rfl ?_)); refine p_nil ?_) | (refine lmw rfl rfl rfl ?_ ?_; (next => first | exact trivial | omega)) | refine lpT rfl rfl rfl rfl ?_ | refine lpF rfl rfl rfl rfl ?_ | refine l_skipU rfl rfl rfl rfl rfl ?_)); all_goals (refine Zw.h ?_; apply id ⟨?_⟩)) : G := h
theorem z_hob {G : Prop} (h : G := by (repeat' (first | (first | (refine hms rfl rfl rfl ?_ ?_; (next => first | exact trivial | omega)) | refine hbd rfl rfl (by kernel_rfl) rfl ?_ | refine h_pT rfl rfl rfl rfl ?_ | refine h_pF rfl rfl rfl rfl ?_ | refine h_skip rfl rfl rfl ?_ | (refine hcv rfl rfl rfl ?_ ?_; (next => first | exact trivial | omega)) | ((fail_if_success refine h_lit true rfl rfl rfl ?_); (fail_if_success refine h_lit false rfl rfl rfl ?_); refine h_gd rfl rfl rfl ?_ ?_ <;> intro _ <;> try (exfalso; first | contradiction | omega)) | (refine hmw rfl rfl rfl ?_ ?_; (next => first | exact trivial | omega)) | refine h_nil ?_) | fail)); all_goals (refine Zw.h ?_; apply id ⟨?_⟩)) : G := h
theorem z_goc {G : Prop} (h : G := by (repeat' (first | (first | (first | refine j_app ?_ | refine cc ?_ | ((first | refine lms rfl rfl rfl ?_ ?_ | refine lss rfl rfl ?_ ?_ | refine lns rfl rfl rfl ?_ ?_ | refine lap rfl rfl rfl rfl rfl ?_ rfl ?_); (next => first | exact trivial | omega); intros) | refine c_true rfl ?_ | refine c_false rfl ?_ | refine c_in_other rfl ?_ | refine l_nil ?_ | refine l_skip rfl rfl rfl ?_ | refine l_skip0 rfl rfl ?_ | refine lbd rfl rfl (by kernel_rfl) rfl ?_ | (refine lsl rfl rfl rfl rfl (by kernel_rfl) rfl rfl ?_; intros) | (refine lsl0 rfl rfl ?_; intros) | (refine lix rfl (by omega) ?_; rintro _ rfl) | (refine lixr rfl (by assumption) (by omega) ?_; rintro _ _ rfl _) | (refine c_drw rfl (by decide) (by decide +kernel) ?_; (repeat (first | (refine hms rfl rfl rfl ?_ ?_; (next => first | exact trivial | omega)) | refine h_skip rfl rfl rfl ?_ | (refine hmw rfl rfl rfl ?_ ?_; (next => first | exact trivial | omega)))); refine h_nil ?_) | (refine c_drp rfl (by decide) (by decide +kernel) ?_; (repeat (first | (refine p_run rfl rfl rfl ?_ ?_; (next => first | exact trivial | omega)) | refine p_skip rfl rfl rfl ?_)); refine p_nil ?_)) | (refine lxv rfl rfl rfl ?_ ?_; (next => first | exact trivial | omega)) | refine lba rfl rfl (by kernel_rfl) rfl ?_ | (refine lcv rfl rfl rfl ?_ ?_; (next => first | exact trivial | omega)) | refine lpT rfl rfl rfl rfl ?_ | refine lpF rfl rfl rfl rfl ?_ | ((fail_if_success refine l_lit true rfl rfl rfl ?_); (fail_if_success refine l_lit false rfl rfl rfl ?_); refine l_gd rfl rfl rfl ?_ ?_ <;> intro _ <;> try (exfalso; first | contradiction | omega)) | (refine c_if rfl ?_ ?_ <;> intro _ <;> try (exfalso; first | contradiction | omega)) | (refine lmw rfl rfl rfl ?_ ?_; (next => first | exact trivial | omega))) | (first | (refine u_ms rfl rfl rfl ?_ ?_; (next => first | exact trivial | omega)) | refine u_skip rfl rfl rfl ?_ | (refine u_cv rfl rfl rfl ?_ ?_; (next => first | exact trivial | omega)) | refine u_pT rfl rfl rfl rfl ?_ | refine u_pF rfl rfl rfl rfl ?_ | refine u_bd rfl rfl (by kernel_rfl) rfl ?_ | ((fail_if_success refine u_lit true rfl rfl rfl ?_); (fail_if_success refine u_lit false rfl rfl rfl ?_); refine u_gd rfl rfl rfl ?_ ?_ <;> intro _ <;> try (exfalso; first | contradiction | omega)) | (refine u_mw rfl rfl rfl ?_ ?_; (next => first | exact trivial | omega)) | refine u_nil ?_) | (refine c_can (by decide) (by decide +kernel) ?_; intro _) | fail)); all_goals (refine Zw.h ?_; apply id ⟨?_⟩)) : G := h
theorem z_hq {G : Prop} (h : G := by (repeat (first | (refine hms rfl rfl rfl ?_ ?_; (next => first | exact trivial | omega)) | refine h_skip rfl rfl rfl ?_ | (refine hmw rfl rfl rfl ?_ ?_; (next => first | exact trivial | omega)))); all_goals (refine Zw.h ?_; apply id ⟨?_⟩)) : G := h
theorem z_hasf {G : Prop} (h : G := by (first | exact (Has.here _ _) | exact (Has.there _ (Has.here _ _)) | exact (Has.there _ (Has.there _ (Has.here _ _))) | exact (Has.there _ (Has.there _ (Has.there _ (Has.here _ _)))) | exact (Has.there _ (Has.there _ (Has.there _ (Has.there _ (Has.here _ _))))) | exact (Has.there _ (Has.there _ (Has.there _ (Has.there _ (Has.there _ (Has.here _ _)))))) | exact (Has.there _ (Has.there _ (Has.there _ (Has.there _ (Has.there _ (Has.there _ (Has.here _ _))))))) | exact (Has.there _ (Has.there _ (Has.there _ (Has.there _ (Has.there _ (Has.there _ (Has.there _ (Has.here _ _)))))))) | exact (Has.there _ (Has.there _ (Has.there _ (Has.there _ (Has.there _ (Has.there _ (Has.there _ (Has.there _ (Has.here _ _))))))))) | exact (Has.there _ (Has.there _ (Has.there _ (Has.there _ (Has.there _ (Has.there _ (Has.there _ (Has.there _ (Has.there _ (Has.here _ _)))))))))) | exact (Has.there _ (Has.there _ (Has.there _ (Has.there _ (Has.there _ (Has.there _ (Has.there _ (Has.there _ (Has.there _ (Has.there _ (Has.here _ _))))))))))) | exact (Has.there _ (Has.there _ (Has.there _ (Has.there _ (Has.there _ (Has.there _ (Has.there _ (Has.there _ (Has.there _ (Has.there _ (Has.there _ (Has.here _ _)))))))))))) | exact (Has.there _ (Has.there _ (Has.there _ (Has.there _ (Has.there _ (Has.there _ (Has.there _ (Has.there _ (Has.there _ (Has.there _ (Has.there _ (Has.there _ (Has.here _ _))))))))))))) | exact (Has.there _ (Has.there _ (Has.there _ (Has.there _ (Has.there _ (Has.there _ (Has.there _ (Has.there _ (Has.there _ (Has.there _ (Has.there _ (Has.there _ (Has.there _ (Has.here _ _))))))))))))))); all_goals (refine Zw.h ?_; apply id ⟨?_⟩)) : G := h
theorem z_hs {G : Prop} (h : G := by (repeat (first | exact .here _ _ | apply Has.there)); all_goals (refine Zw.h ?_; apply id ⟨?_⟩)) : G := h
theorem z_rk {G : Prop} (h : G := by ((repeat (first | refine k_tmp rfl ?_ | refine k_cell rfl ?_)); refine k_nil ?_); all_goals (refine Zw.h ?_; apply id ⟨?_⟩)) : G := h
theorem z_ro {G : Prop} (h : G := by (refine j_outK (.nil _) ?_; (repeat (first | refine k_tmp rfl ?_ | refine k_cell rfl ?_)); refine k_nil ?_); all_goals (refine Zw.h ?_; apply id ⟨?_⟩)) : G := h
theorem z_lk {G : Prop} (h : G := by (first | (refine t_look 0 rfl rfl rfl rfl rfl rfl ?_ ?_ ?_ ?_; (next => first | exact trivial | omega); (next => decide +kernel); (next => first | exact Sub.refl _ | exact Sub.au)) | (refine t_look 1 rfl rfl rfl rfl rfl rfl ?_ ?_ ?_ ?_; (next => first | exact trivial | omega); (next => decide +kernel); (next => first | exact Sub.refl _ | exact Sub.au)) | (refine t_look 2 rfl rfl rfl rfl rfl rfl ?_ ?_ ?_ ?_; (next => first | exact trivial | omega); (next => decide +kernel); (next => first | exact Sub.refl _ | exact Sub.au)) | (refine t_look 3 rfl rfl rfl rfl rfl rfl ?_ ?_ ?_ ?_; (next => first | exact trivial | omega); (next => decide +kernel); (next => first | exact Sub.refl _ | exact Sub.au)) | (refine t_look 4 rfl rfl rfl rfl rfl rfl ?_ ?_ ?_ ?_; (next => first | exact trivial | omega); (next => decide +kernel); (next => first | exact Sub.refl _ | exact Sub.au)) | (refine t_look 5 rfl rfl rfl rfl rfl rfl ?_ ?_ ?_ ?_; (next => first | exact trivial | omega); (next => decide +kernel); (next => first | exact Sub.refl _ | exact Sub.au)) | (refine t_look 6 rfl rfl rfl rfl rfl rfl ?_ ?_ ?_ ?_; (next => first | exact trivial | omega); (next => decide +kernel); (next => first | exact Sub.refl _ | exact Sub.au)) | (refine t_look 7 rfl rfl rfl rfl rfl rfl ?_ ?_ ?_ ?_; (next => first | exact trivial | omega); (next => decide +kernel); (next => first | exact Sub.refl _ | exact Sub.au)) | (refine t_none 0 rfl rfl rfl rfl rfl ?_ ?_ ?_; (next => decide +kernel); (next => first | exact Sub.refl _ | exact Sub.au)) | (refine t_none 1 rfl rfl rfl rfl rfl ?_ ?_ ?_; (next => decide +kernel); (next => first | exact Sub.refl _ | exact Sub.au)) | (refine t_none 2 rfl rfl rfl rfl rfl ?_ ?_ ?_; (next => decide +kernel); (next => first | exact Sub.refl _ | exact Sub.au)) | (refine t_none 3 rfl rfl rfl rfl rfl ?_ ?_ ?_; (next => decide +kernel); (next => first | exact Sub.refl _ | exact Sub.au)) | (refine t_none 4 rfl rfl rfl rfl rfl ?_ ?_ ?_; (next => decide +kernel); (next => first | exact Sub.refl _ | exact Sub.au)) | (refine t_none 5 rfl rfl rfl rfl rfl ?_ ?_ ?_; (next => decide +kernel); (next => first | exact Sub.refl _ | exact Sub.au)) | (refine t_none 6 rfl rfl rfl rfl rfl ?_ ?_ ?_; (next => decide +kernel); (next => first | exact Sub.refl _ | exact Sub.au)) | (refine t_none 7 rfl rfl rfl rfl rfl ?_ ?_ ?_; (next => decide +kernel); (next => first | exact Sub.refl _ | exact Sub.au)) | ((fail_if_success refine t_lit true rfl rfl rfl rfl rfl ?_); (fail_if_success refine t_lit false rfl rfl rfl rfl rfl ?_); refine t_gd rfl rfl rfl rfl rfl ?_ ?_ <;> intro _ <;> try (exfalso; first | contradiction | omega))); all_goals (refine Zw.h ?_; apply id ⟨?_⟩)) : G := h
theorem z_lkG {G : Prop} (h : G := by (first | (refine t_look 0 rfl rfl rfl rfl rfl rfl ?_ ?_ ?_ ?_; (next => first | exact trivial | omega); (next => decide +kernel); (next => first | exact Sub.refl _ | exact Sub.au)) | (refine t_look 1 rfl rfl rfl rfl rfl rfl ?_ ?_ ?_ ?_; (next => first | exact trivial | omega); (next => decide +kernel); (next => first | exact Sub.refl _ | exact Sub.au)) | (refine t_look 2 rfl rfl rfl rfl rfl rfl ?_ ?_ ?_ ?_; (next => first | exact trivial | omega); (next => decide +kernel); (next => first | exact Sub.refl _ | exact Sub.au)) | (refine t_look 3 rfl rfl rfl rfl rfl rfl ?_ ?_ ?_ ?_; (next => first | exact trivial | omega); (next => decide +kernel); (next => first | exact Sub.refl _ | exact Sub.au)) | (refine t_look 4 rfl rfl rfl rfl rfl rfl ?_ ?_ ?_ ?_; (next => first | exact trivial | omega); (next => decide +kernel); (next => first | exact Sub.refl _ | exact Sub.au)) | (refine t_look 5 rfl rfl rfl rfl rfl rfl ?_ ?_ ?_ ?_; (next => first | exact trivial | omega); (next => decide +kernel); (next => first | exact Sub.refl _ | exact Sub.au)) | (refine t_look 6 rfl rfl rfl rfl rfl rfl ?_ ?_ ?_ ?_; (next => first | exact trivial | omega); (next => decide +kernel); (next => first | exact Sub.refl _ | exact Sub.au)) | (refine t_look 7 rfl rfl rfl rfl rfl rfl ?_ ?_ ?_ ?_; (next => first | exact trivial | omega); (next => decide +kernel); (next => first | exact Sub.refl _ | exact Sub.au)) | (refine t_none 0 rfl rfl rfl rfl rfl ?_ ?_ ?_; (next => decide +kernel); (next => first | exact Sub.refl _ | exact Sub.au)) | (refine t_none 1 rfl rfl rfl rfl rfl ?_ ?_ ?_; (next => decide +kernel); (next => first | exact Sub.refl _ | exact Sub.au)) | (refine t_none 2 rfl rfl rfl rfl rfl ?_ ?_ ?_; (next => decide +kernel); (next => first | exact Sub.refl _ | exact Sub.au)) | (refine t_none 3 rfl rfl rfl rfl rfl ?_ ?_ ?_; (next => decide +kernel); (next => first | exact Sub.refl _ | exact Sub.au)) | (refine t_none 4 rfl rfl rfl rfl rfl ?_ ?_ ?_; (next => decide +kernel); (next => first | exact Sub.refl _ | exact Sub.au)) | (refine t_none 5 rfl rfl rfl rfl rfl ?_ ?_ ?_; (next => decide +kernel); (next => first | exact Sub.refl _ | exact Sub.au)) | (refine t_none 6 rfl rfl rfl rfl rfl ?_ ?_ ?_; (next => decide +kernel); (next => first | exact Sub.refl _ | exact Sub.au)) | (refine t_none 7 rfl rfl rfl rfl rfl ?_ ?_ ?_; (next => decide +kernel); (next => first | exact Sub.refl _ | exact Sub.au)) | ((fail_if_success refine t_litG true rfl rfl rfl rfl rfl ?_); (fail_if_success refine t_litG false rfl rfl rfl rfl rfl ?_); refine t_gd rfl rfl rfl rfl rfl ?_ ?_ <;> intro _ <;> try (exfalso; first | contradiction | omega))); all_goals (refine Zw.h ?_; apply id ⟨?_⟩)) : G := h
theorem z_xq {G : Prop} (h : G := by (repeat (first | (refine x_run rfl rfl rfl ?_ ?_; (next => first | exact trivial | omega)) | refine x_skip rfl rfl rfl ?_)); all_goals (refine Zw.h ?_; apply id ⟨?_⟩)) : G := h
theorem z_lm {G : Prop} (h : G := by ((repeat (first | (refine lms rfl rfl rfl ?_ ?_; (next => first | exact trivial | omega)) | refine lbd rfl rfl (by kernel_rfl) rfl ?_))); all_goals (refine Zw.h ?_; apply id ⟨?_⟩)) : G := h
theorem z_t {G : Prop} (h : G := by (first | refine j_app ?_ | refine cc ?_ | ((first | refine lms rfl rfl rfl ?_ ?_ | refine lss rfl rfl ?_ ?_ | refine lns rfl rfl rfl ?_ ?_ | refine lap rfl rfl rfl rfl rfl ?_ rfl ?_); (next => first | exact trivial | omega); intros) | refine c_true rfl ?_ | refine c_false rfl ?_ | refine c_in_other rfl ?_ | refine l_nil ?_ | refine l_skip rfl rfl rfl ?_ | refine l_skip0 rfl rfl ?_ | refine lbd rfl rfl (by kernel_rfl) rfl ?_ | (refine lsl rfl rfl rfl rfl (by kernel_rfl) rfl rfl ?_; intros) | (refine lsl0 rfl rfl ?_; intros) | (refine lix rfl (by omega) ?_; rintro _ rfl) | (refine lixr rfl (by assumption) (by omega) ?_; rintro _ _ rfl _) | (refine c_drw rfl (by decide) (by decide +kernel) ?_; (repeat (first | (refine hms rfl rfl rfl ?_ ?_; (next => first | exact trivial | omega)) | refine h_skip rfl rfl rfl ?_ | (refine hmw rfl rfl rfl ?_ ?_; (next => first | exact trivial | omega)))); refine h_nil ?_) | (refine c_drp rfl (by decide) (by decide +kernel) ?_; (repeat (first | (refine p_run rfl rfl rfl ?_ ?_; (next => first | exact trivial | omega)) | refine p_skip rfl rfl rfl ?_)); refine p_nil ?_) | (refine lmw rfl rfl rfl ?_ ?_; (next => first | exact trivial | omega))); all_goals (refine Zw.h ?_; apply id ⟨?_⟩)) : G := h
theorem z_t0 {G : Prop} (h : G := by (first | refine j_app ?_ | refine cc ?_ | ((first | refine lms rfl rfl rfl ?_ ?_ | refine lss rfl rfl ?_ ?_ | refine lns rfl rfl rfl ?_ ?_ | refine lap rfl rfl rfl rfl rfl ?_ rfl ?_); (next => first | exact trivial | omega); intros) | refine c_true rfl ?_ | refine c_false rfl ?_ | refine c_in_other rfl ?_ | refine l_nil ?_ | refine l_skip rfl rfl rfl ?_ | refine l_skip0 rfl rfl ?_ | refine lbd rfl rfl (by kernel_rfl) rfl ?_ | (refine lsl rfl rfl rfl rfl (by kernel_rfl) rfl rfl ?_; intros) | (refine lsl0 rfl rfl ?_; intros) | (refine lix rfl (by omega) ?_; rintro _ rfl) | (refine lixr rfl (by assumption) (by omega) ?_; rintro _ _ rfl _) | (refine c_drw rfl (by decide) (by decide +kernel) ?_; (repeat (first | (refine hms rfl rfl rfl ?_ ?_; (next => first | exact trivial | omega)) | refine h_skip rfl rfl rfl ?_ | (refine hmw rfl rfl rfl ?_ ?_; (next => first | exact trivial | omega)))); refine h_nil ?_) | (refine c_drp rfl (by decide) (by decide +kernel) ?_; (repeat (first | (refine p_run rfl rfl rfl ?_ ?_; (next => first | exact trivial | omega)) | refine p_skip rfl rfl rfl ?_)); refine p_nil ?_)); all_goals (refine Zw.h ?_; apply id ⟨?_⟩)) : G := h
theorem z_hd {G : Prop} (h : G := by (repeat (first | refine h_run rfl rfl rfl (fun K Q h => by first | exact r_move rfl rfl h | exact r_nil rfl rfl h | exact r_fieldAddr rfl rfl h | exact r_load rfl rfl (by first | exact Cell.blk (Has.here _ _) rfl | exact Cell.blk (Has.there _ (Has.here _ _)) rfl | exact Cell.blk (Has.there _ (Has.there _ (Has.here _ _))) rfl | exact Cell.blk (Has.there _ (Has.there _ (Has.there _ (Has.here _ _)))) rfl | exact Cell.blk (Has.there _ (Has.there _ (Has.there _ (Has.there _ (Has.here _ _))))) rfl | exact Cell.blk (Has.there _ (Has.there _ (Has.there _ (Has.there _ (Has.there _ (Has.here _ _)))))) rfl) rfl h | exact r_assign rfl rfl h | exact r_pickT rfl rfl rfl h | exact r_pickF rfl rfl rfl h | exact r_extract rfl rfl rfl h | exact r_len rfl rfl h | exact r_ari rfl rfl rfl (by exact ⟨by omega, by omega⟩) rfl h | exact r_rem_in rfl rfl (by omega) (by omega) rfl h | exact r_quo_in rfl rfl (by omega) (by omega) (by exact ⟨by omega, by omega⟩) rfl h | exact r_bin rfl rfl rfl rfl h | exact r_not rfl rfl h | exact r_conv_in rfl (by exact ⟨by omega, by omega⟩) rfl h | exact r_conv rfl rfl h | exact r_neg_in rfl (by exact ⟨by omega, by omega⟩) rfl h | exact r_neg rfl rfl h | exact r_shrN rfl rfl (by simp only [IntKind.bits]; omega) rfl h | exact r_shr rfl rfl (by omega) rfl h | exact r_shl rfl rfl (by omega) rfl h | exact r_min rfl rfl rfl h | exact r_max rfl rfl rfl h | exact r_eqB rfl rfl rfl h | exact r_neB rfl rfl rfl h | exact r_field rfl rfl rfl rfl h | exact r_fieldAgg rfl rfl (by simp only [List.drop, List.take]; rfl) rfl h | exact r_build rfl (by simp only [fillL, splat, Value.cells, List.getD, List.take, List.drop, List.append, List.nil_append, List.cons_append]; rfl) (by kernel_rfl) rfl h | exact r_makeFunc (fun a ha => ⟨by simp, by simp⟩) rfl h | exact r_nil0 rfl h) ?_ | refine h_skip rfl rfl rfl ?_)); all_goals (refine Zw.h ?_; apply id ⟨?_⟩)) : G := h
theorem z_go {G : Prop} (h : G := by (repeat (first | refine c_seq ?_ | refine c_region ?_ | refine c_block ?_ | refine c_skip ?_ | refine c_ret ?_ | refine c_exit ?_ | refine c_then_normal ?_ | refine c_then_ret ?_ | refine c_then_exit ?_ | refine c_in_normal ?_ | refine c_in_ret ?_ | refine c_in_exit ?_ | refine c_in_other rfl ?_ | refine l_nil ?_ | refine c_true rfl ?_ | refine c_false rfl ?_ | (refine l_run rfl ?_; (first | refine r_move rfl rfl ?_ | refine r_nil rfl rfl ?_ | refine r_fieldAddr rfl rfl ?_ | refine r_load rfl rfl (by first | exact Cell.blk (Has.here _ _) rfl | exact Cell.blk (Has.there _ (Has.here _ _)) rfl | exact Cell.blk (Has.there _ (Has.there _ (Has.here _ _))) rfl | exact Cell.blk (Has.there _ (Has.there _ (Has.there _ (Has.here _ _)))) rfl | exact Cell.blk (Has.there _ (Has.there _ (Has.there _ (Has.there _ (Has.here _ _))))) rfl | exact Cell.blk (Has.there _ (Has.there _ (Has.there _ (Has.there _ (Has.there _ (Has.here _ _)))))) rfl) rfl ?_ | refine r_assign rfl rfl ?_ | refine r_pickT rfl rfl rfl ?_ | refine r_pickF rfl rfl rfl ?_ | refine r_extract rfl rfl rfl ?_ | refine r_len rfl rfl ?_ | refine r_ari rfl rfl rfl (by exact ⟨by omega, by omega⟩) rfl ?_ | refine r_rem_in rfl rfl (by omega) (by omega) rfl ?_ | refine r_quo_in rfl rfl (by omega) (by omega) (by exact ⟨by omega, by omega⟩) rfl ?_ | refine r_bin rfl rfl rfl rfl ?_ | refine r_not rfl rfl ?_ | refine r_conv_in rfl (by exact ⟨by omega, by omega⟩) rfl ?_ | refine r_conv rfl rfl ?_ | refine r_neg_in rfl (by exact ⟨by omega, by omega⟩) rfl ?_ | refine r_neg rfl rfl ?_ | refine r_shrN rfl rfl (by simp only [IntKind.bits]; omega) rfl ?_ | refine r_shr rfl rfl (by omega) rfl ?_ | refine r_shl rfl rfl (by omega) rfl ?_ | refine r_min rfl rfl rfl ?_ | refine r_max rfl rfl rfl ?_ | refine r_eqB rfl rfl rfl ?_ | refine r_neB rfl rfl rfl ?_ | refine r_field rfl rfl rfl rfl ?_ | refine r_fieldAgg rfl rfl (by simp only [List.drop, List.take]; rfl) rfl ?_ | refine r_build rfl (by simp only [fillL, splat, Value.cells, List.getD, List.take, List.drop, List.append, List.nil_append, List.cons_append]; rfl) (by kernel_rfl) rfl ?_ | refine r_makeFunc (fun a ha => ⟨by simp, by simp⟩) rfl ?_ | refine r_nil0 rfl ?_ | (refine r_alloc rfl rfl ?_; intro) | (refine r_box rfl rfl rfl ?_; intro) | (refine r_buildSlice0 rfl ?_; intro) | (refine r_slit rfl (by simp [Value.cells]; rfl) (by rfl) (by rfl) (by kernel_rfl) (by rfl) (by rfl) ?_; intro) | refine r_store (by rfl) rfl rfl rfl (Has.here _ _) (by rfl) (by simp only [List.set]; rfl) ?_ | refine r_store (by rfl) rfl rfl rfl (Has.there _ (Has.here _ _)) (by rfl) (by simp only [List.set]; rfl) ?_ | refine r_store (by rfl) rfl rfl rfl (Has.there _ (Has.there _ (Has.here _ _))) (by rfl) (by simp only [List.set]; rfl) ?_ | refine r_store (by rfl) rfl rfl rfl (Has.there _ (Has.there _ (Has.there _ (Has.here _ _)))) (by rfl) (by simp only [List.set]; rfl) ?_ | refine r_store (by rfl) rfl rfl rfl (Has.there _ (Has.there _ (Has.there _ (Has.there _ (Has.here _ _))))) (by rfl) (by simp only [List.set]; rfl) ?_ | refine r_store (by rfl) rfl rfl rfl (Has.there _ (Has.there _ (Has.there _ (Has.there _ (Has.there _ (Has.here _ _)))))) (by rfl) (by simp only [List.set]; rfl) ?_ | refine r_store (by rfl) rfl rfl rfl (Has.there _ (Has.there _ (Has.there _ (Has.there _ (Has.there _ (Has.there _ (Has.here _ _))))))) (by rfl) (by simp only [List.set]; rfl) ?_ | refine r_store (by rfl) rfl rfl rfl (Has.there _ (Has.there _ (Has.there _ (Has.there _ (Has.there _ (Has.there _ (Has.there _ (Has.here _ _)))))))) (by rfl) (by simp only [List.set]; rfl) ?_)) | refine l_skip rfl rfl rfl ?_ | refine l_skip0 rfl rfl ?_)); all_goals (refine Zw.h ?_; apply id ⟨?_⟩)) : G := h
end Go.Proofs.YtemmnpgebpffbaaGreat
/- The engine: what a piece of code does, told by what some slots hold and what some blocks hold. -/
namespace Go.Proofs.YtemmnpgebpffbaaGreat
open Go.RowKit

/-- What slot t holds, if the list says. -/
def look : List (Nat × Value) → Nat → Option Value
  | [], _ => none
  | (k, v) :: r, t => match Nat.beq k t with | true => some v | false => look r t

/-- The activation: its slots are as the list says; N slots; deferred calls ds. -/
structure Tm (N : Nat) (ds : List Deferred) (σ : List (Nat × Value)) (a : Act) : Prop where
  size : a.tmps.size = N
  defers : a.defers = ds
  at_ : ∀ t v, look σ t = some v → a.tmps[t]? = some v

theorem look_cons (k t : Nat) (v : Value) (σ : List (Nat × Value)) : look ((k, v) :: σ) t = if k = t then some v else look σ t := by
  simp only [look]
  by_cases h : k = t
  · subst h; simp
  · rw [if_neg h]
    have : Nat.beq k t = false := by
      cases hb : Nat.beq k t with
      | false => rfl
      | true => exact absurd (Nat.eq_of_beq_eq_true hb) h
    rw [this]

theorem Tm.put {N : Nat} {ds : List Deferred} {σ : List (Nat × Value)} {a : Act} (h : Tm N ds σ a) (d : Nat) (v : Value) (hd : d < N) : Tm N ds ((d, v) :: σ) (a.put (some d) v) := by
  refine ⟨by simp [Act.put, h.size], by simp [Act.put, h.defers], fun t u ht => ?_⟩
  rw [look_cons] at ht
  simp only [Act.put, Array.getElem?_setIfInBounds]
  by_cases hk : d = t
  · subst hk
    rw [if_pos rfl] at ht ⊢
    rw [if_pos (by rw [h.size]; exact hd)]
    exact ht
  · rw [if_neg hk] at ht ⊢
    exact h.at_ t u ht
theorem Tm.put_none {N : Nat} {ds : List Deferred} {σ : List (Nat × Value)} {a : Act} (h : Tm N ds σ a) (v : Value) : Tm N ds σ (a.put none v) := h

/-- Slots that hold what the one list says hold what a part of it says. -/
def Part : List (Nat × Value) → List (Nat × Value) → Prop
  | [], _ => True
  | (k, v) :: r, σ => look σ k = some v ∧ Part r σ
theorem Part.look_ {τ σ : List (Nat × Value)} (h : Part τ σ) (t : Nat) (v : Value) (ht : look τ t = some v) : look σ t = some v := by
  induction τ with
  | nil => simp [look] at ht
  | cons x r ih =>
    obtain ⟨k, u⟩ := x
    rw [look_cons] at ht
    by_cases hk : k = t
    · rw [if_pos hk] at ht; subst hk; obtain rfl := by simpa using ht
      exact h.1
    · rw [if_neg hk] at ht; exact ih h.2 ht
theorem Tm.part {N : Nat} {ds : List Deferred} {τ σ : List (Nat × Value)} {a : Act} (h : Tm N ds σ a) (hp : Part τ σ) : Tm N ds τ a :=
  ⟨h.size, h.defers, fun t v ht => h.at_ t v (hp.look_ t v ht)⟩

/-- What an operand is. -/
def ev (σ : List (Nat × Value)) : Operand → Option Value
  | .tmp t => look σ t
  | .const v => some v
  | .global g => some (.pointer (some ⟨g, 0, none⟩))
  | .func f => some (.func (.func f) #[] #[])
theorem Tm.eval {N : Nat} {ds : List Deferred} {σ : List (Nat × Value)} {a : Act} (h : Tm N ds σ a) {x : Operand} {v : Value} (hx : ev σ x = some v) : a.eval x = v := by
  cases x with
  | tmp t =>
    have := h.at_ t v hx
    simp [Act.eval, this]
  | const u => simpa [ev, Act.eval] using hx
  | global g => simpa [ev, Act.eval] using hx
  | func f => simpa [ev, Act.eval] using hx

/-- What lies in the heap: a block, whole; or a row that append may grow. -/
inductive HE where
  | blk (b : Nat) (t : TypeId) (cs : List Value)
  | row (v : Value) (e : TypeId) (size n : Nat) (xs : List Value)
  | obj (b : Nat) (o : Obj)
  | loop (b N : Nat) (σ : List (Nat × Value)) (ps : Array Tmp) (assign body : Code) (st : LoopState) (pend : Option Code)

def HE.block : HE → Option Nat
  | .blk b _ _ => some b
  | .row v _ _ _ _ => v.ownBlock
  | .obj b _ => some b
  | .loop b _ _ _ _ _ _ _ => some b
/-- A loop's record, by what its slots are known to hold. -/
def LoopIs (N : Nat) (σ : List (Nat × Value)) (ps : Array Tmp) (assign body : Code) (st : LoopState) (pend : Option Code) (r : Loop) : Prop :=
  r.state = st ∧ r.pending = pend ∧ r.params = ps ∧ r.assign = assign ∧ r.body = body ∧ r.tmps.size = N ∧ ∀ t v, look σ t = some v → r.tmps[t]? = some v
def HE.holds (w : World) : HE → Prop
  | .blk b t cs => w.heap[b]? = some (.cells cs.toArray t (0, 0))
  | .row v e size n xs => w.ownsRow 0 e size v n xs
  | .obj b o => w.heap[b]? = some o
  | .loop b N σ ps assign body st pend => ∃ r, w.heap[b]? = some (.loop r) ∧ LoopIs N σ ps assign body st pend r

def HE.apart (x y : HE) : Prop := x.block = none ∨ x.block ≠ y.block

/-- The heap: all of these, apart from each other. -/
structure Own (H : List HE) (w : World) : Prop where
  holds : ∀ x ∈ H, x.holds w
  apart : H.Pairwise HE.apart

/-- From w0 to w just blocks of W were written, and new ones; it holds what H says, in blocks of W and new ones. -/
structure St (w0 : World) (W : Nat → Prop) (H : List HE) (w : World) : Prop where
  os : w.os = w0.os
  tape : w.tape = w0.tape
  output : w.output = w0.output
  size : w0.heap.size ≤ w.heap.size
  old : ∀ b, b < w0.heap.size → ¬ W b → w.heap[b]? = w0.heap[b]?
  own : Own H w
  mine : ∀ x ∈ H, ∀ b, x.block = some b → W b ∨ w0.heap.size ≤ b

def blocks (H : List HE) (b : Nat) : Prop := ∃ x ∈ H, x.block = some b

theorem HE.apart_symm {x y : HE} (h : x.apart y) : y.apart x := by
  rcases h with h | h
  · by_cases hy : y.block = none
    · exact .inl hy
    · exact .inr (by rw [h]; exact hy)
  · exact .inr (Ne.symm h)

theorem HE.lt {x : HE} {w : World} (h : x.holds w) {b : Nat} (hb : x.block = some b) : b < w.heap.size := by
  have key : ∀ (g : Nat) (o : Obj), w.heap[g]? = some o → g < w.heap.size := fun g o hg => (Array.getElem?_eq_some_iff.1 hg).1
  cases x with
  | blk g t cs => simp only [HE.block, Option.some.injEq] at hb; subst hb; exact key _ _ h
  | row v e size n xs =>
    rcases h.2 with ⟨rfl, _⟩ | ⟨g, cap, cur, rfl, _, hg, _⟩
    · simp [HE.block, Value.ownBlock] at hb
    · simp only [HE.block, Value.ownBlock, Option.some.injEq] at hb; subst hb; exact key _ _ hg
  | obj g o => simp only [HE.block, Option.some.injEq] at hb; subst hb; exact key _ _ h
  | loop g N σ ps assign body st pend => simp only [HE.block, Option.some.injEq] at hb; subst hb; obtain ⟨r, hr, _⟩ := h; exact key _ _ hr

theorem HE.keep {x : HE} {w w' : World} (h : x.holds w) (hk : ∀ b, x.block = some b → w'.heap[b]? = w.heap[b]?) : x.holds w' := by
  cases x with
  | blk g t cs => exact (hk g rfl).trans h
  | row v e size n xs =>
    refine ⟨h.1, ?_⟩
    rcases h.2 with h0 | ⟨g, cap, cur, rfl, hb, hg, hr⟩
    · exact .inl h0
    · exact .inr ⟨g, cap, cur, rfl, hb, (hk g rfl).trans hg, hr⟩
  | obj g o => exact (hk g rfl).trans h
  | loop g N σ ps assign body st pend => obtain ⟨r, hr, h2⟩ := h; exact ⟨r, (hk g rfl).trans hr, h2⟩

theorem St.start {H : List HE} {w : World} (h : Own H w) : St w (blocks H) H w :=
  ⟨rfl, rfl, rfl, Nat.le_refl _, fun _ _ _ => rfl, h, fun x hx b hb => .inl ⟨x, hx, hb⟩⟩

/-- Taking one out of the list. -/
inductive Has : List HE → HE → List HE → Prop
  | here (x : HE) (r : List HE) : Has (x :: r) x r
  | there (y : HE) {r : List HE} {x : HE} {r' : List HE} (h : Has r x r') : Has (y :: r) x (y :: r')
theorem Has.perm {H : List HE} {x : HE} {R : List HE} (h : Has H x R) : H.Perm (x :: R) := by
  induction h with
  | here => exact .refl _
  | there y _ ih => exact ((ih.cons y).trans (.swap _ _ _))
/-- A part of the list. -/
inductive Sub : List HE → List HE → Prop
  | nil (H : List HE) : Sub [] H
  | cons {x : HE} {S H R : List HE} (h : Has H x R) (k : Sub S R) : Sub (x :: S) H
/-- A part of the list, and what is left. -/
inductive Split : List HE → List HE → List HE → Prop
  | nil (H : List HE) : Split H [] H
  | cons {x : HE} {S H R T : List HE} (h : Has H x R) (k : Split R S T) : Split H (x :: S) T
theorem Split.perm {H S R : List HE} (h : Split H S R) : H.Perm (S ++ R) := by
  induction h with
  | nil => exact .refl _
  | cons h _ ih => exact h.perm.trans (ih.cons _)
theorem Sub.split {S H : List HE} (h : Sub S H) : ∃ R, Split H S R := by
  induction h with
  | nil H => exact ⟨H, .nil H⟩
  | cons h _ ih => exact let ⟨R, hr⟩ := ih; ⟨R, .cons h hr⟩

theorem Sub.skip {S H : List HE} (h : Sub S H) (y : HE) : Sub S (y :: H) := by
  induction h generalizing y with
  | nil H => exact .nil _
  | cons h _ ih => exact .cons (.there y h) (ih y)
theorem Sub.refl (H : List HE) : Sub H H := by
  induction H with
  | nil => exact .nil _
  | cons x r ih => exact .cons (.here x r) ih
theorem Split.refl (H : List HE) : Split H H [] := by
  induction H with
  | nil => exact .nil _
  | cons x r ih => exact .cons (.here x r) ih
theorem Own.perm {H H' : List HE} {w : World} (h : Own H w) (hp : H.Perm H') : Own H' w :=
  ⟨fun x hx => h.holds x (hp.mem_iff.2 hx), (hp.pairwise_iff fun hxy => HE.apart_symm hxy).1 h.apart⟩
theorem St.perm {w0 w : World} {W : Nat → Prop} {H H' : List HE} (h : St w0 W H w) (hp : H.Perm H') : St w0 W H' w :=
  ⟨h.os, h.tape, h.output, h.size, h.old, h.own.perm hp, fun x hx => h.mine x (hp.mem_iff.2 hx)⟩
theorem St.left {w0 w : World} {W : Nat → Prop} {S R : List HE} (h : St w0 W (S ++ R) w) : St w0 W S w :=
  ⟨h.os, h.tape, h.output, h.size, h.old, ⟨fun x hx => h.own.holds x (List.mem_append_left _ hx), (List.pairwise_append.1 h.own.apart).1⟩, fun x hx => h.mine x (List.mem_append_left _ hx)⟩
theorem St.sub {w0 w : World} {W : Nat → Prop} {S H : List HE} (h : St w0 W H w) (hs : Sub S H) : St w0 W S w :=
  let ⟨_, hr⟩ := hs.split
  (h.perm hr.perm).left

/-- Behind a call that was given a part of the list. -/
theorem St.call {w0 w w' : World} {W : Nat → Prop} {H S R S' : List HE} (h : St w0 W H w) (hs : Split H S R) (k : St w (blocks S) S' w') : St w0 W (S' ++ R) w' := by
  have h1 := h.perm hs.perm
  have hdis : ∀ x ∈ R, ∀ b, x.block = some b → ¬ blocks S b := by
    rintro x hx b hb ⟨y, hy, hyb⟩
    have := (List.pairwise_append.1 h1.own.apart).2.2 y hy x hx
    rcases this with h0 | h0
    · rw [h0] at hyb; cases hyb
    · exact h0 (by rw [hyb, hb])
  have hlt : ∀ x ∈ R, ∀ b, x.block = some b → b < w.heap.size := fun x hx b hb => HE.lt (h1.own.holds x (List.mem_append_right _ hx)) hb
  refine ⟨k.os.trans h.os, k.tape.trans h.tape, k.output.trans h.output, Nat.le_trans h.size k.size, fun b hb hW => ?_, ⟨fun x hx => ?_, ?_⟩, fun x hx b hb => ?_⟩
  · by_cases hS : blocks S b
    · obtain ⟨y, hy, hyb⟩ := hS
      rcases h1.mine y (List.mem_append_left _ hy) b hyb with h0 | h0
      · exact absurd h0 hW
      · omega
    · exact (k.old b (Nat.lt_of_lt_of_le hb h.size) hS).trans (h.old b hb hW)
  · rcases List.mem_append.1 hx with hx | hx
    · exact k.own.holds x hx
    · exact HE.keep (h1.own.holds x (List.mem_append_right _ hx)) fun b hb => k.old b (hlt x hx b hb) (hdis x hx b hb)
  · refine List.pairwise_append.2 ⟨k.own.apart, (List.pairwise_append.1 h1.own.apart).2.1, fun x hx y hy => ?_⟩
    cases hxb : x.block with
    | none => exact .inl hxb
    | some b =>
      refine .inr fun he => ?_
      rw [hxb] at he
      rcases k.mine x hx b hxb with h0 | h0
      · exact hdis y hy b he.symm h0
      · have := hlt y hy b he.symm; omega
  · rcases List.mem_append.1 hx with hx | hx
    · rcases k.mine x hx b hb with ⟨y, hy, hyb⟩ | h0
      · exact h1.mine y (List.mem_append_left _ hy) b hyb
      · exact .inr (Nat.le_trans h.size h0)
    · exact h1.mine x (List.mem_append_right _ hx) b hb

theorem St.drew {w0 w : World} {W : Nat → Prop} {H : List HE} (h : St w0 W H w) : St w0 W H { w with drawn := w.drawn + 1 } :=
  ⟨h.os, h.tape, h.output, h.size, h.old, ⟨fun x hx => HE.keep (h.own.holds x hx) fun _ _ => rfl, h.own.apart⟩, h.mine⟩

/-- A new block. -/
theorem St.alloc {w0 w : World} {W : Nat → Prop} {H : List HE} (h : St w0 W H w) (cs : List Value) (t : TypeId) : St w0 W (.blk w.heap.size t cs :: H) (w.alloc (.cells cs.toArray t)) := by
  refine ⟨h.os, h.tape, h.output, Nat.le_trans h.size (by simp), fun b hb hW => (Below.heap_alloc w _ b (Nat.lt_of_lt_of_le hb h.size)).trans (h.old b hb hW), ⟨fun x hx => ?_, ?_⟩, fun x hx b hb => ?_⟩
  · rcases List.mem_cons.1 hx with rfl | hx
    · exact heap_alloc_new w _
    · exact HE.keep (h.own.holds x hx) fun b hb => Below.heap_alloc w _ b (HE.lt (h.own.holds x hx) hb)
  · refine List.pairwise_cons.2 ⟨fun y hy => .inr fun he => ?_, h.own.apart⟩
    have := HE.lt (h.own.holds y hy) he.symm
    simp at this
  · rcases List.mem_cons.1 hx with rfl | hx
    · simp only [HE.block, Option.some.injEq] at hb; subst hb; exact .inr h.size
    · exact h.mine x hx b hb

/-- What is known of one block turns, and no other block. -/
theorem St.turn {w0 w w' : World} {W : Nat → Prop} {H R : List HE} {x y : HE} (h : St w0 W H w) (hx : Has H x R) (hy : y.holds w')
    (hos : w'.os = w.os) (ht : w'.tape = w.tape) (ho : w'.output = w.output) (hsz : w.heap.size ≤ w'.heap.size)
    (hk : ∀ b, b < w.heap.size → x.block ≠ some b → w'.heap[b]? = w.heap[b]?) (hb : y.block = x.block ∨ ∃ b, y.block = some b ∧ w.heap.size ≤ b) : St w0 W (y :: R) w' := by
  have h1 := h.perm hx.perm
  have hap := List.pairwise_cons.1 h1.own.apart
  have hne : ∀ z ∈ R, ∀ b, z.block = some b → x.block ≠ some b := fun z hz b hzb he => by
    rcases hap.1 z hz with h0 | h0
    · rw [h0] at he; cases he
    · exact h0 (he.trans hzb.symm)
  have hlt : ∀ z ∈ R, ∀ b, z.block = some b → b < w.heap.size := fun z hz b hzb => HE.lt (h1.own.holds z (List.mem_cons_of_mem _ hz)) hzb
  refine ⟨hos.trans h.os, ht.trans h.tape, ho.trans h.output, Nat.le_trans h.size hsz, fun b hb hW => ?_, ⟨fun z hz => ?_, ?_⟩, fun z hz b hzb => ?_⟩
  · by_cases hxb : x.block = some b
    · rcases h1.mine x (List.mem_cons_self ..) b hxb with h0 | h0
      · exact absurd h0 hW
      · omega
    · exact (hk b (Nat.lt_of_lt_of_le hb h.size) hxb).trans (h.old b hb hW)
  · rcases List.mem_cons.1 hz with rfl | hz
    · exact hy
    · exact HE.keep (h1.own.holds z (List.mem_cons_of_mem _ hz)) fun b hzb => hk b (hlt z hz b hzb) (hne z hz b hzb)
  · refine List.pairwise_cons.2 ⟨fun z hz => ?_, hap.2⟩
    rcases hb with hb | ⟨b, hyb, hge⟩
    · rcases hap.1 z hz with h0 | h0
      · exact .inl (hb.trans h0)
      · exact .inr (by rw [hb]; exact h0)
    · refine .inr fun he => ?_
      have := hlt z hz b (he.symm.trans hyb)
      omega
  · rcases List.mem_cons.1 hz with rfl | hz
    · rcases hb with hb | ⟨b', hyb, hge⟩
      · exact h1.mine x (List.mem_cons_self ..) b (hb.symm.trans hzb)
      · rw [hyb] at hzb; injection hzb with hzb; subst hzb; exact .inr (Nat.le_trans h.size hge)
    · exact h1.mine z (List.mem_cons_of_mem _ hz) b hzb
end Go.Proofs.YtemmnpgebpffbaaGreat
/- Lines and cells: which cells of a row a line touches. -/
namespace Go.Proofs.YtemmnpgebpffbaaGreat
/-- A quotient, rounded up. -/
def cdiv (x d : Int) : Int := -((-x) / d)
theorem cdiv_le {x d k : Int} (hd : 0 < d) : cdiv x d ≤ k ↔ x ≤ k * d := by
  have := Int.le_ediv_iff_mul_le (a := -k) (b := -x) hd
  rw [Int.neg_mul] at this
  unfold cdiv
  omega
theorem le_div {x d k : Int} (hd : 0 < d) : k ≤ x / d ↔ k * d ≤ x := Int.le_ediv_iff_mul_le hd
def along (ax ay bx by_ h : Int) : Int := ax * (by_ - ay) + (h - ay) * (bx - ax)
/-- The columns of a row of cells that a line touches, of which a is not above b. -/
def stripF (ax ay bx by_ k : Int) : Int × Int :=
  if by_ - ay = 0 then (cdiv (min ax bx) 256 - 1, max ax bx / 256) else
    (cdiv (min (along ax ay bx by_ (max ay (k * 256))) (along ax ay bx by_ (min by_ ((k + 1) * 256)))) ((by_ - ay) * 256) - 1,
      max (along ax ay bx by_ (max ay (k * 256))) (along ax ay bx by_ (min by_ ((k + 1) * 256))) / ((by_ - ay) * 256))
/-- On which side of the line a place lies. -/
def sideF (ax ay bx by_ X Y : Int) : Int := (bx - ax) * (Y - ay) - (by_ - ay) * (X - ax)
def touP (ax ay bx by_ i k : Int) : Prop :=
  (min ax bx ≤ 256 * i + 256 ∧ 256 * i ≤ max ax bx) ∧ (min ay by_ ≤ 256 * k + 256 ∧ 256 * k ≤ max ay by_) ∧
  (0 ≤ sideF ax ay bx by_ (256 * i) (256 * k) ∨ 0 ≤ sideF ax ay bx by_ (256 * i + 256) (256 * k) ∨ 0 ≤ sideF ax ay bx by_ (256 * i) (256 * k + 256) ∨ 0 ≤ sideF ax ay bx by_ (256 * i + 256) (256 * k + 256)) ∧
  (sideF ax ay bx by_ (256 * i) (256 * k) ≤ 0 ∨ sideF ax ay bx by_ (256 * i + 256) (256 * k) ≤ 0 ∨ sideF ax ay bx by_ (256 * i) (256 * k + 256) ≤ 0 ∨ sideF ax ay bx by_ (256 * i + 256) (256 * k + 256) ≤ 0)
theorem side_swap (ax ay bx by_ X Y : Int) : sideF bx by_ ax ay X Y = - sideF ax ay bx by_ X Y := by unfold sideF; grind
theorem tou_swap (ax ay bx by_ i k : Int) : touP bx by_ ax ay i k ↔ touP ax ay bx by_ i k := by
  unfold touP
  simp only [side_swap ax ay bx by_, Int.min_comm bx ax, Int.min_comm by_ ay, Int.max_comm bx ax, Int.max_comm by_ ay]
  omega
theorem side_along (ax ay bx by_ X Y : Int) : sideF ax ay bx by_ X Y = along ax ay bx by_ Y - (by_ - ay) * X := by unfold sideF along; grind
theorem along_a (ax ay bx by_ : Int) : along ax ay bx by_ ay = ax * (by_ - ay) := by unfold along; grind
theorem along_b (ax ay bx by_ : Int) : along ax ay bx by_ by_ = bx * (by_ - ay) := by unfold along; grind
theorem along_mono {ax ay bx by_ h h' : Int} (hd : ax ≤ bx) (h1 : h ≤ h') : along ax ay bx by_ h ≤ along ax ay bx by_ h' := by
  unfold along
  have := Int.mul_le_mul_of_nonneg_right (show h - ay ≤ h' - ay by omega) (show 0 ≤ bx - ax by omega)
  omega
theorem along_anti {ax ay bx by_ h h' : Int} (hd : bx ≤ ax) (h1 : h ≤ h') : along ax ay bx by_ h' ≤ along ax ay bx by_ h := by
  unfold along
  have := Int.mul_le_mul_of_nonneg_right (show h - ay ≤ h' - ay by omega) (show 0 ≤ ax - bx by omega)
  rw [show ax - bx = -(bx - ax) by omega, Int.mul_neg, Int.mul_neg] at this
  omega
theorem mul_iff {a b d : Int} (hd : 0 < d) : a * d ≤ b * d ↔ a ≤ b := ⟨fun h => Int.le_of_mul_le_mul_right h hd, fun h => Int.mul_le_mul_of_nonneg_right h (by omega)⟩
theorem strip_iff {ax ay bx by_ i k : Int} (hy : ay ≤ by_) (h1 : cdiv ay 256 - 1 ≤ k) (h2 : k ≤ by_ / 256) :
    touP ax ay bx by_ i k ↔ (stripF ax ay bx by_ k).1 ≤ i ∧ i ≤ (stripF ax ay bx by_ k).2 := by
  have h1' : ay ≤ 256 * k + 256 := by
    have := (cdiv_le (x := ay) (k := k + 1) (by omega : (0:Int) < 256)).1 (by omega)
    omega
  have h2' : 256 * k ≤ by_ := by have := (le_div (x := by_) (k := k) (by omega : (0:Int) < 256)).1 h2; omega
  unfold stripF
  split
  · rename_i h0
    simp only
    have e1 : cdiv (min ax bx) 256 - 1 ≤ i ↔ min ax bx ≤ 256 * i + 256 := by
      have := cdiv_le (x := min ax bx) (k := i + 1) (by omega : (0:Int) < 256)
      omega
    have e2 := le_div (x := max ax bx) (k := i) (by omega : (0:Int) < 256)
    rw [e1, e2]
    unfold touP
    simp only [side_along, h0, Int.zero_mul, Int.sub_zero]
    constructor
    · rintro ⟨h3, -⟩; omega
    · intro h3
      refine ⟨by omega, by omega, ?_⟩
      have ea : along ax ay bx by_ ay = 0 := by rw [along_a, h0, Int.mul_zero]
      rcases Int.le_total ax bx with hx | hx
      · have q1 := along_mono (ay := ay) (by_ := by_) hx (show 256 * k ≤ ay by omega)
        have q2 := along_mono (ay := ay) (by_ := by_) hx (show ay ≤ 256 * k + 256 by omega)
        omega
      · have q1 := along_anti (ay := ay) (by_ := by_) hx (show 256 * k ≤ ay by omega)
        have q2 := along_anti (ay := ay) (by_ := by_) hx (show ay ≤ 256 * k + 256 by omega)
        omega
  · rename_i h0
    have hd : 0 < by_ - ay := by omega
    simp only
    generalize hdy : by_ - ay = dy at *
    have e0 : ∀ z : Int, cdiv z (dy * 256) - 1 ≤ i ↔ z ≤ (256 * i + 256) * dy := by
      intro z
      have := cdiv_le (x := z) (k := i + 1) (by omega : (0:Int) < dy * 256)
      rw [show (i + 1) * (dy * 256) = (256 * i + 256) * dy by grind] at this
      omega
    have e1 : ∀ z : Int, i ≤ z / (dy * 256) ↔ (256 * i) * dy ≤ z := by
      intro z
      have := le_div (x := z) (k := i) (by omega : (0:Int) < dy * 256)
      rw [show i * (dy * 256) = (256 * i) * dy by grind] at this
      exact this
    rw [e0, e1]
    unfold touP
    have ka := along_a ax ay bx by_
    have kb := along_b ax ay bx by_
    rw [hdy] at ka kb
    have m1 := mul_iff (a := ax) (b := 256 * i + 256) hd
    have m2 := mul_iff (a := bx) (b := 256 * i + 256) hd
    have m3 := mul_iff (a := 256 * i) (b := ax) hd
    have m4 := mul_iff (a := 256 * i) (b := bx) hd
    simp only [side_along, hdy, Int.mul_comm dy]
    have hX : (256 * i) * dy ≤ (256 * i + 256) * dy := Int.mul_le_mul_of_nonneg_right (by omega) (by omega)
    rw [show k * 256 = 256 * k by omega, show (k + 1) * 256 = 256 * k + 256 by omega]
    generalize (256 * i) * dy = X0 at *
    generalize (256 * i + 256) * dy = X1 at *
    generalize ax * dy = u at *
    generalize bx * dy = v at *
    rcases Int.le_total ax bx with hx | hx
    · have q1 := along_mono (ay := ay) (by_ := by_) hx (show 256 * k ≤ 256 * k + 256 by omega)
      have q2 := along_mono (ay := ay) (by_ := by_) hx hy
      have q3 := along_mono (ay := ay) (by_ := by_) hx (show max ay (256 * k) ≤ min by_ (256 * k + 256) by omega)
      have q4 : along ax ay bx by_ (max ay (256 * k)) = max u (along ax ay bx by_ (256 * k)) := by
        rcases Int.le_total ay (256 * k) with h | h
        · have := along_mono (ay := ay) (by_ := by_) hx h
          rw [Int.max_eq_right h]; omega
        · have := along_mono (ay := ay) (by_ := by_) hx h
          rw [Int.max_eq_left h]; omega
      have q5 : along ax ay bx by_ (min by_ (256 * k + 256)) = min v (along ax ay bx by_ (256 * k + 256)) := by
        rcases Int.le_total by_ (256 * k + 256) with h | h
        · have := along_mono (ay := ay) (by_ := by_) hx h
          rw [Int.min_eq_left h]; omega
        · have := along_mono (ay := ay) (by_ := by_) hx h
          rw [Int.min_eq_right h]; omega
      rw [q4, q5] at q3 ⊢
      generalize along ax ay bx by_ (256 * k) = p0 at *
      generalize along ax ay bx by_ (256 * k + 256) = p1 at *
      omega
    · have q1 := along_anti (ay := ay) (by_ := by_) hx (show 256 * k ≤ 256 * k + 256 by omega)
      have q2 := along_anti (ay := ay) (by_ := by_) hx hy
      have q3 := along_anti (ay := ay) (by_ := by_) hx (show max ay (256 * k) ≤ min by_ (256 * k + 256) by omega)
      have q4 : along ax ay bx by_ (max ay (256 * k)) = min u (along ax ay bx by_ (256 * k)) := by
        rcases Int.le_total ay (256 * k) with h | h
        · have := along_anti (ay := ay) (by_ := by_) hx h
          rw [Int.max_eq_right h]; omega
        · have := along_anti (ay := ay) (by_ := by_) hx h
          rw [Int.max_eq_left h]; omega
      have q5 : along ax ay bx by_ (min by_ (256 * k + 256)) = max v (along ax ay bx by_ (256 * k + 256)) := by
        rcases Int.le_total by_ (256 * k + 256) with h | h
        · have := along_anti (ay := ay) (by_ := by_) hx h
          rw [Int.min_eq_left h]; omega
        · have := along_anti (ay := ay) (by_ := by_) hx h
          rw [Int.min_eq_right h]; omega
      rw [q4, q5] at q3 ⊢
      generalize along ax ay bx by_ (256 * k) = p0 at *
      generalize along ax ay bx by_ (256 * k + 256) = p1 at *
      omega
theorem strip_le (ax ay bx by_ k : Int) (hy : ay ≤ by_) : (stripF ax ay bx by_ k).1 ≤ (stripF ax ay bx by_ k).2 := by
  have key : ∀ m M d : Int, m ≤ M → 0 < d → cdiv m d - 1 ≤ M / d := by
    intro m M d h hd
    have h1 := cdiv_le (x := m) (k := M / d + 1) hd
    have h2 := Int.lt_ediv_add_one_mul_self M hd
    have := h1.2 (by omega)
    omega
  unfold stripF
  split
  · exact key _ _ _ (by omega) (by omega)
  · exact key _ _ _ (by omega) (by omega)
theorem tou_row {ax ay bx by_ i k : Int} (h : touP ax ay bx by_ i k) (hy : ay ≤ by_) : cdiv ay 256 - 1 ≤ k ∧ k ≤ by_ / 256 := by
  obtain ⟨-, h2, -⟩ := h
  have h1 := cdiv_le (x := ay) (k := k + 1) (by omega : (0:Int) < 256)
  have h3 := le_div (x := by_) (k := k) (by omega : (0:Int) < 256)
  omega
theorem mulB {a b : Int} (A B : Nat) (ha : -(A : Int) ≤ a ∧ a ≤ A) (hb : -(B : Int) ≤ b ∧ b ≤ B) : -((A * B : Nat) : Int) ≤ a * b ∧ a * b ≤ ((A * B : Nat) : Int) := by
  have h1 : a.natAbs ≤ A := by omega
  have h2 : b.natAbs ≤ B := by omega
  have h3 := Nat.mul_le_mul h1 h2
  rw [← Int.natAbs_mul] at h3
  omega
theorem div_abs (x : Int) {d : Int} (hd : 0 < d) (hx : 0 ≤ x) : 0 ≤ x / d ∧ x / d ≤ x := ⟨Int.ediv_nonneg hx (by omega), Int.ediv_le_self _ hx⟩
/-- Of a number below 0: the quotient that is rounded down, from that which is rounded to 0. -/
theorem neg_div {x d : Int} (hd : 0 < d) : x / d = if (-x) % d = 0 then -((-x) / d) else -((-x) / d) - 1 := by
  have h1 := Int.mul_ediv_add_emod (-x) d
  have h2 := Int.emod_nonneg (-x) (show d ≠ 0 by omega)
  have h3 := Int.emod_lt_of_pos (-x) hd
  split
  · rename_i h
    have : x = d * (-((-x) / d)) := by rw [Int.mul_neg]; omega
    conv => lhs; rw [this]
    rw [Int.mul_ediv_cancel_left _ (by omega)]
  · rename_i h
    refine (Int.ediv_eq_iff_of_pos hd).2 ?_
    have e : (-((-x) / d) - 1) * d = -(d * ((-x) / d)) - d := by rw [Int.sub_mul, Int.one_mul, Int.neg_mul, Int.mul_comm d]
    have e2 : (-((-x) / d) - 1 + 1) * d = -(d * ((-x) / d)) := by rw [Int.sub_add_cancel, Int.neg_mul, Int.mul_comm d]
    omega
theorem div_bnd {z d : Int} (B : Nat) (hd : 0 < d) (hz : -(B : Int) ≤ z ∧ z ≤ B) : -(B : Int) ≤ z / d ∧ z / d ≤ B := by
  constructor
  · refine (le_div hd).2 ?_
    have := Int.mul_le_mul_of_nonneg_left (show (1 : Int) ≤ d by omega) (show (0 : Int) ≤ B by omega)
    rw [Int.neg_mul]
    omega
  · have h1 := Int.mul_ediv_add_emod z d
    have h2 := Int.emod_nonneg z (show d ≠ 0 by omega)
    rcases Int.lt_or_le (z / d) 0 with h | h
    · omega
    · have := Int.mul_le_mul_of_nonneg_right (show (1 : Int) ≤ d by omega) h
      omega
theorem cdiv_bnd {z d : Int} (B : Nat) (hd : 0 < d) (hz : -(B : Int) ≤ z ∧ z ≤ B) : -(B : Int) ≤ cdiv z d ∧ cdiv z d ≤ B := by
  have := div_bnd (z := -z) B hd (by omega)
  unfold cdiv
  omega
theorem along_bnd {ax ay bx by_ h : Int} (h1 : -131072 ≤ ax ∧ ax ≤ 131072) (h2 : -131072 ≤ ay ∧ ay ≤ 131072) (h3 : -131072 ≤ bx ∧ bx ≤ 131072) (h4 : -131072 ≤ by_ ∧ by_ ≤ 131072) (h5 : -600000 ≤ h ∧ h ≤ 600000) :
    (-274877906944 ≤ ax * (by_ - ay) ∧ ax * (by_ - ay) ≤ 274877906944) ∧ (-274877906944 ≤ (h - ay) * (bx - ax) ∧ (h - ay) * (bx - ax) ≤ 274877906944) ∧ -549755813888 ≤ along ax ay bx by_ h ∧ along ax ay bx by_ h ≤ 549755813888 := by
  have a := mulB 131072 262144 (a := ax) (b := by_ - ay) (by omega) (by omega)
  have b := mulB 1048576 262144 (a := h - ay) (b := bx - ax) (by omega) (by omega)
  unfold along
  omega
end Go.Proofs.YtemmnpgebpffbaaGreat
/- What differences cost: the plain law of layer 21. -/
namespace Go.Proofs.YtemmnpgebpffbaaGreat
/-- The sum of the first so many. -/
def sumTo (d : List Int) : Nat → Int
  | 0 => 0
  | i + 1 => sumTo d i + d.getD i 0
/-- A difference as it is measured. -/
def difX (n s m x : Int) : Int := if 2 ≤ m then n * x - s else x
def terX (m x : Int) : Int := if m = 0 ∨ m = 2 then (if x < 0 then -x else x) else x * x
def cosTo (n s m : Int) (d : List Int) : Nat → Int
  | 0 => 0
  | i + 1 => cosTo n s m d i + terX m (difX n s m (d.getD i 0))
theorem terX_nn (m x : Int) : 0 ≤ terX m x := by
  unfold terX
  split
  · split <;> omega
  · rcases Int.lt_or_le x 0 with h | h
    · exact Int.le_of_lt (Int.mul_pos_of_neg_of_neg h h)
    · exact Int.mul_nonneg h h
theorem cosTo_mono (n s m : Int) (d : List Int) (i : Nat) : ∀ k, cosTo n s m d i ≤ cosTo n s m d (i + k)
  | 0 => Int.le_refl _
  | k + 1 => by
    have h1 := cosTo_mono n s m d i k
    have h2 := terX_nn m (difX n s m (d.getD (i + k) 0))
    show _ ≤ cosTo n s m d (i + k) + terX m (difX n s m (d.getD (i + k) 0))
    omega
theorem cosTo_le {n s m : Int} {d : List Int} {i k : Nat} (h : i ≤ k) : cosTo n s m d i ≤ cosTo n s m d k := by
  have := cosTo_mono n s m d i (k - i)
  rw [show i + (k - i) = k by omega] at this
  exact this
theorem cosTo_nn (n s m : Int) (d : List Int) (i : Nat) : 0 ≤ cosTo n s m d i := by
  have := cosTo_le (n := n) (s := s) (m := m) (d := d) (Nat.zero_le i)
  exact this
/-- Differences that may be. -/
def DifOk (d : List Int) (i : Nat) : Prop := ∀ j, j < i → -8388608 ≤ d.getD j 0 ∧ d.getD j 0 ≤ 8388608
theorem sumTo_in {d : List Int} : ∀ {i : Nat}, DifOk d i → -(8388608 * (i : Int)) ≤ sumTo d i ∧ sumTo d i ≤ 8388608 * (i : Int)
  | 0, _ => by simp [sumTo]
  | i + 1, h => by
    have h1 := sumTo_in (i := i) (fun j hj => h j (by omega))
    have h2 := h i (by omega)
    rw [sumTo]
    omega
/-- The first difference that may not be, or none. -/
def badTo (d : List Int) : Nat → Bool
  | 0 => false
  | i + 1 => badTo d i || decide (d.getD i 0 < -8388608 ∨ 8388608 < d.getD i 0)
theorem badTo_no {d : List Int} : ∀ {i : Nat}, badTo d i = false ↔ DifOk d i
  | 0 => ⟨fun _ j hj => by omega, fun _ => rfl⟩
  | i + 1 => by
    have ih := badTo_no (d := d) (i := i)
    rw [badTo, Bool.or_eq_false_iff, ih, decide_eq_false_iff_not]
    constructor
    · rintro ⟨h1, h2⟩ j hj
      rcases Nat.lt_or_ge j i with h | h
      · exact h1 j h
      · obtain rfl : j = i := by omega
        omega
    · intro h
      exact ⟨fun j hj => h j (by omega), by have := h i (by omega); omega⟩
theorem badTo_le {d : List Int} {i : Nat} (h : badTo d i = true) : ∀ k, badTo d (i + k) = true
  | 0 => h
  | k + 1 => by
    show (badTo d (i + k) || _) = true
    rw [badTo_le h k]
    rfl
/-- What differences cost, and why that can't be told: 1 an argument, 2 a range, 6 too much. -/
def costF (d : List Int) (m eA eR eS : Int) : Int × Int :=
  if 64 < d.length ∨ m < 0 ∨ 3 < m then (0, eA) else
  if badTo d d.length = true then (0, eR) else
  if 4611686018427387904 < cosTo d.length (sumTo d d.length) m d d.length then (0, eS) else (cosTo d.length (sumTo d d.length) m d d.length, 0)
theorem difX_in {d : List Int} {m : Int} {i : Nat} (hl : d.length ≤ 64) (h : DifOk d d.length) (hi : i < d.length) :
    -1073741824 ≤ difX d.length (sumTo d d.length) m (d.getD i 0) ∧ difX d.length (sumTo d d.length) m (d.getD i 0) ≤ 1073741824 := by
  have h1 := sumTo_in h
  have h2 := h i hi
  have h3 := mulB 64 8388608 (a := (d.length : Int)) (b := d.getD i 0) (by omega) (by omega)
  unfold difX
  split <;> omega
theorem terX_in {m x : Int} (h : -1073741824 ≤ x ∧ x ≤ 1073741824) : terX m x ≤ 1152921504606846976 := by
  have h3 := mulB 1073741824 1073741824 (a := x) (b := x) (by omega) (by omega)
  unfold terX
  split
  · split <;> omega
  · omega
theorem cosTo_in {d : List Int} {m : Int} (hl : d.length ≤ 64) (h : DifOk d d.length) : ∀ i, i ≤ d.length → cosTo d.length (sumTo d d.length) m d i ≤ 1152921504606846976 * (i : Int)
  | 0, _ => by simp [cosTo]
  | i + 1, hi => by
    have h1 := cosTo_in (m := m) hl h i (by omega)
    have h2 := terX_in (m := m) (difX_in (m := m) hl h (show i < d.length by omega))
    rw [cosTo]
    omega
end Go.Proofs.YtemmnpgebpffbaaGreat
/- The engine: rules for code, and for operations that leave memory alone. -/
namespace Go.Proofs.YtemmnpgebpffbaaGreat
open Go.RowKit

/-- Whatever the activation and the world, told by these lists: Q. -/
def J (N : Nat) (ds : List Deferred) (w0 : World) (W : Nat → Prop) (σ : List (Nat × Value)) (H : List HE) (Q : Act → World → Prop) : Prop :=
  ∀ a w, Tm N ds σ a → St w0 W H w → Q a w

/-- The fence lets all in. -/
structure Wd (F : Fence) : Prop where
  fn : ∀ f, F.fn f
  depth : F.depth = none
theorem wd_wide : Wd Fence.wide := ⟨fun _ => trivial, rfl⟩
theorem Wd.round {F : Fence} (h : Wd F) (l : Nat) : Wd (F.inRound l) := ⟨h.fn, h.depth⟩

section code
variable {F : Fence} {n : Nat} {P : Program} {N : Nat} {ds : List Deferred} {w0 : World} {W : Nat → Prop} {σ : List (Nat × Value)} {H : List HE} {Q K : Exit → Act → World → Prop} {k : Act → World → Prop}

theorem J.mono {Q Q' : Act → World → Prop} (h : J N ds w0 W σ H Q) (hq : ∀ a w, Q a w → Q' a w) : J N ds w0 W σ H Q' := fun a w ha hw => hq a w (h a w ha hw)
theorem c_seq {x y : Code} (h : J N ds w0 W σ H (x.wpIn F n P (Exit.then (y.wpIn F n P Q) Q))) : J N ds w0 W σ H ((Code.seq x y).wpIn F n P Q) :=
  fun a w ha hw => wpIn_seq (h a w ha hw)
theorem c_skip (h : J N ds w0 W σ H (Q .normal)) : J N ds w0 W σ H (Code.skip.wpIn F n P Q) := fun a w ha hw => wpIn_skip (h a w ha hw)
theorem c_ret (h : J N ds w0 W σ H (Q .ret)) : J N ds w0 W σ H (Code.ret.wpIn F n P Q) := fun a w ha hw => wpIn_ret (h a w ha hw)
theorem c_exit {id : Nat} (h : J N ds w0 W σ H (Q (.exit id))) : J N ds w0 W σ H ((Code.exit id).wpIn F n P Q) := fun a w ha hw => wpIn_exit (h a w ha hw)
theorem c_block {id : Nat} {c : Code} (h : J N ds w0 W σ H (c.wpIn F n P (Exit.inBlock id Q))) : J N ds w0 W σ H ((Code.block id c).wpIn F n P Q) := fun a w ha hw => wpIn_block (h a w ha hw)
theorem c_cond {c : Operand} {x y : Code} {e : Bool} (hc : ev σ c = some (.bool e)) (ht : e = true → J N ds w0 W σ H (x.wpIn F n P Q)) (hf : e = false → J N ds w0 W σ H (y.wpIn F n P Q)) :
    J N ds w0 W σ H ((Code.cond c x y).wpIn F n P Q) :=
  fun a w ha hw => wpIn_cond_split (ha.eval hc) (fun h => ht h a w ha hw) (fun h => hf h a w ha hw)
theorem c_true {c : Operand} {x y : Code} (hc : ev σ c = some (.bool true)) (ht : J N ds w0 W σ H (x.wpIn F n P Q)) : J N ds w0 W σ H ((Code.cond c x y).wpIn F n P Q) :=
  fun a w ha hw => wpIn_cond_true (ha.eval hc) (ht a w ha hw)
theorem c_false {c : Operand} {x y : Code} (hc : ev σ c = some (.bool false)) (hf : J N ds w0 W σ H (y.wpIn F n P Q)) : J N ds w0 W σ H ((Code.cond c x y).wpIn F n P Q) :=
  fun a w ha hw => wpIn_cond_false (ha.eval hc) (hf a w ha hw)
theorem c_region {id : Nat} {l : List Oper} (h : J N ds w0 W σ H (wpListIn F n P l.toArray Q l)) : J N ds w0 W σ H ((Code.region id l.toArray false).wpIn F n P Q) :=
  fun a w ha hw => wpIn_region_lit (h a w ha hw)
theorem c_then_normal (h : J N ds w0 W σ H k) : J N ds w0 W σ H (Exit.then k Q .normal) := h
theorem c_then_ret (h : J N ds w0 W σ H (Q .ret)) : J N ds w0 W σ H (Exit.then k Q .ret) := h
theorem c_then_exit {id : Nat} (h : J N ds w0 W σ H (Q (.exit id))) : J N ds w0 W σ H (Exit.then k Q (.exit id)) := h
theorem c_in_normal {id : Nat} (h : J N ds w0 W σ H (Q .normal)) : J N ds w0 W σ H (Exit.inBlock id Q .normal) := h
theorem c_in_ret {id : Nat} (h : J N ds w0 W σ H (Q .ret)) : J N ds w0 W σ H (Exit.inBlock id Q .ret) := h
theorem c_in_exit {id : Nat} (h : J N ds w0 W σ H (Q .normal)) : J N ds w0 W σ H (Exit.inBlock id Q (.exit id)) := fun a w ha hw => by
  simp only [Exit.inBlock, if_pos]; exact h a w ha hw
theorem c_in_other {id id' : Nat} (hne : Nat.beq id' id = false) (h : J N ds w0 W σ H (Q (.exit id'))) : J N ds w0 W σ H (Exit.inBlock id Q (.exit id')) := fun a w ha hw => by
  have : ¬ id' = id := fun e => by subst e; simp at hne
  simp only [Exit.inBlock, if_neg this]; exact h a w ha hw

/-- A loop: what holds at each head; a measure that each round lowers. -/
theorem c_loop {c : Code} {X : Type} (R : X → Prop) (σI : X → List (Nat × Value)) (HI : X → List HE) (μ : X → Nat) (x0 : X) (h0 : R x0) (hp : Part (σI x0) σ) (hs : Sub (HI x0) H)
    (round : ∀ x, R x → J N ds w0 W (σI x) (HI x) (c.wpIn F n P (Exit.then (fun a w => ∃ y, R y ∧ μ y < μ x ∧ Tm N ds (σI y) a ∧ St w0 W (HI y) w) Q))) :
    J N ds w0 W σ H ((Code.loop c).wpIn F n P Q) := by
  intro a w ha hw
  have key : ∀ x a w, R x → Tm N ds (σI x) a → St w0 W (HI x) w → (Code.loop c).wpIn F n P Q a w := by
      intro x a w hR ha hw
      let p : Act → World → Nat → Prop := fun a' w' k => ∃ y, μ y = k ∧ R y ∧ Tm N ds (σI y) a' ∧ St w0 W (HI y) w'
      refine wpIn_loop (fun a' w' => ∃ k, p a' w' k) (fun a' w' => leastOf (p a' w')) ⟨_, x, rfl, hR, ha, hw⟩ ?_
      rintro a1 w1 hex
      obtain ⟨⟨z, hz, hzR, hza, hzw⟩, -⟩ := leastOf_spec hex
      refine wpIn_mono (round z hzR a1 w1 hza hzw) ?_
      rintro e a2 w2 hq
      cases e with
      | normal =>
        obtain ⟨y2, h1, h2, h3, h4⟩ := hq
        have hex2 : ∃ k, p a2 w2 k := ⟨_, y2, rfl, h1, h3, h4⟩
        have := (leastOf_spec hex2).2 _ ⟨y2, rfl, h1, h3, h4⟩
        exact ⟨hex2, by omega⟩
      | _ => exact hq
  exact key x0 a w h0 (ha.part hp) (hw.sub hs)

/-- The same, the deferred calls turning from round to round. -/
theorem c_loopD {c : Code} {X : Type} (R : X → Prop) (DS : X → List Deferred) (σI : X → List (Nat × Value)) (HI : X → List HE) (μ : X → Nat) (x0 : X) (h0 : R x0) (hds : DS x0 = ds) (hp : Part (σI x0) σ) (hs : Sub (HI x0) H)
    (round : ∀ x, R x → J N (DS x) w0 W (σI x) (HI x) (c.wpIn F n P (Exit.then (fun a w => ∃ y, R y ∧ μ y < μ x ∧ Tm N (DS y) (σI y) a ∧ St w0 W (HI y) w) Q))) :
    J N ds w0 W σ H ((Code.loop c).wpIn F n P Q) := by
  subst hds
  intro a w ha hw
  have key : ∀ x a w, R x → Tm N (DS x) (σI x) a → St w0 W (HI x) w → (Code.loop c).wpIn F n P Q a w := by
      intro x a w hR ha hw
      let p : Act → World → Nat → Prop := fun a' w' k => ∃ y, μ y = k ∧ R y ∧ Tm N (DS y) (σI y) a' ∧ St w0 W (HI y) w'
      refine wpIn_loop (fun a' w' => ∃ k, p a' w' k) (fun a' w' => leastOf (p a' w')) ⟨_, x, rfl, hR, ha, hw⟩ ?_
      rintro a1 w1 hex
      obtain ⟨⟨z, hz, hzR, hza, hzw⟩, -⟩ := leastOf_spec hex
      refine wpIn_mono (round z hzR a1 w1 hza hzw) ?_
      rintro e a2 w2 hq
      cases e with
      | normal =>
        obtain ⟨y2, h1, h2, h3, h4⟩ := hq
        have hex2 : ∃ k, p a2 w2 k := ⟨_, y2, rfl, h1, h3, h4⟩
        have := (leastOf_spec hex2).2 _ ⟨y2, rfl, h1, h3, h4⟩
        exact ⟨hex2, by omega⟩
      | _ => exact hq
  exact key x0 a w h0 (ha.part hp) (hw.sub hs)
theorem c_roundD {X : Type} {R M : X → Prop} {DS : X → List Deferred} {σI : X → List (Nat × Value)} {HI : X → List HE} (y : X) (hR : R y) (hμ : M y) (hds : DS y = ds) (hp : Part (σI y) σ) (hs : Sub (HI y) H) :
    J N ds w0 W σ H (fun a w => ∃ y, R y ∧ M y ∧ Tm N (DS y) (σI y) a ∧ St w0 W (HI y) w) :=
  fun _ _ ha hw => ⟨y, hR, hμ, by rw [hds]; exact ha.part hp, hw.sub hs⟩
/-- The round's end. -/
theorem c_round {X : Type} {R M : X → Prop} {σI : X → List (Nat × Value)} {HI : X → List HE} (y : X) (hR : R y) (hμ : M y) (hp : Part (σI y) σ) (hs : Sub (HI y) H) :
    J N ds w0 W σ H (fun a w => ∃ y, R y ∧ M y ∧ Tm N ds (σI y) a ∧ St w0 W (HI y) w) :=
  fun _ _ ha hw => ⟨y, hR, hμ, ha.part hp, hw.sub hs⟩
end code
end Go.Proofs.YtemmnpgebpffbaaGreat
