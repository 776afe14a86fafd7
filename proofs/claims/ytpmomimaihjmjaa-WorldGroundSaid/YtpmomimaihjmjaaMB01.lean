import Derived.Test.YtpmomimaihjmjaaRows
import Derived.WalkKit
import Derived.TacticsIn
import Derived.TacticsInMore
import Derived.OrdersIn
import Derived.Below
import Derived.Deep.Draws
import Derived.Laws.AppendOwn
import Derived.Laws.OwnMore
import Derived.Laws.Rows
import Derived.Laws.Tables
import Derived.Laws.MakeOwn
import Derived.Maps.AppendAt
import Derived.OwnWalkIn
import Derived.Deep.LoopGhost
import Derived.Deep.MidRow
import Derived.Laws.Entries
set_option linter.unusedVariables false
set_option linter.unusedSimpArgs false
/-
Long tactics by name: a theorem whose argument's default is the tactic.
-/
namespace Go.Proofs.Ytpmomimaihjmjaa
structure Zw (G : Prop) : Prop where
  h : G
theorem z_gob {G : Prop} (h : G := by (repeat' (first | (first | (first | refine j_app ?_ | refine cc ?_ | ((first | refine lms rfl rfl rfl ?_ ?_ | refine lss rfl rfl ?_ ?_ | refine lns rfl rfl rfl ?_ ?_ | refine lap rfl rfl rfl rfl rfl ?_ rfl ?_); (next => first | exact trivial | omega); intros) | refine c_true rfl ?_ | refine c_false rfl ?_ | refine c_in_other rfl ?_ | refine l_nil ?_ | refine l_skip rfl rfl rfl ?_ | refine l_skip0 rfl rfl ?_ | refine lbd rfl rfl (by kernel_rfl) rfl ?_ | (refine lsl rfl rfl rfl rfl (by kernel_rfl) rfl rfl ?_; intros) | (refine lsl0 rfl rfl ?_; intros) | (refine lix rfl (by omega) ?_; rintro _ rfl) | (refine lixr rfl (by assumption) (by omega) ?_; rintro _ _ rfl _) | (refine c_drw rfl (by decide) (by decide +kernel) ?_; (repeat (first | (refine hms rfl rfl rfl ?_ ?_; (next => first | exact trivial | omega)) | refine h_skip rfl rfl rfl ?_ | (refine hmw rfl rfl rfl ?_ ?_; (next => first | exact trivial | omega)))); refine h_nil ?_) | (refine c_drp rfl (by decide) (by decide +kernel) ?_; (repeat (first | (refine p_run rfl rfl rfl ?_ ?_; (next => first | exact trivial | omega)) | refine p_skip rfl rfl rfl ?_)); refine p_nil ?_)) | (refine lxv rfl rfl rfl ?_ ?_; (next => first | exact trivial | omega)) | refine lba rfl rfl (by kernel_rfl) rfl ?_ | (refine lcv rfl rfl rfl ?_ ?_; (next => first | exact trivial | omega)) | refine lpT rfl rfl rfl rfl ?_ | refine lpF rfl rfl rfl rfl ?_ | ((fail_if_success refine l_lit true rfl rfl rfl ?_); (fail_if_success refine l_lit false rfl rfl rfl ?_); refine l_gd rfl rfl rfl ?_ ?_ <;> intro _ <;> try (exfalso; first | contradiction | omega)) | (refine c_if rfl ?_ ?_ <;> intro _ <;> try (exfalso; first | contradiction | omega)) | (refine lmw rfl rfl rfl ?_ ?_; (next => first | exact trivial | omega))) | (first | (refine hms rfl rfl rfl ?_ ?_; (next => first | exact trivial | omega)) | refine hbd rfl rfl (by kernel_rfl) rfl ?_ | refine h_pT rfl rfl rfl rfl ?_ | refine h_pF rfl rfl rfl rfl ?_ | refine h_skip rfl rfl rfl ?_ | (refine hcv rfl rfl rfl ?_ ?_; (next => first | exact trivial | omega)) | ((fail_if_success refine h_lit true rfl rfl rfl ?_); (fail_if_success refine h_lit false rfl rfl rfl ?_); refine h_gd rfl rfl rfl ?_ ?_ <;> intro _ <;> try (exfalso; first | contradiction | omega)) | (refine hmw rfl rfl rfl ?_ ?_; (next => first | exact trivial | omega)) | refine h_nil ?_) | (first | (refine x_run rfl rfl rfl ?_ ?_; (next => first | exact trivial | omega)) | refine x_pT rfl rfl rfl rfl ?_ | refine x_pF rfl rfl rfl rfl ?_ | refine x_skip rfl rfl rfl ?_ | ((fail_if_success refine x_lit true rfl rfl rfl ?_); (fail_if_success refine x_lit false rfl rfl rfl ?_); refine x_gd rfl rfl rfl ?_ ?_ <;> intro _ <;> try (exfalso; first | contradiction | omega)) | refine x_nil ?_) | (first | refine t_done ?_ | refine t_all _ rfl rfl ?_ | refine allP_cons ?_ ?_ | exact allP_nil | refine t_last (by decide +kernel) ?_ | refine t_next Sub.au ?_) | refine c_drw rfl (by decide) (by decide +kernel) ?_ | refine c_dra rfl rfl (by decide) (by decide +kernel) ?_ | fail)); all_goals (refine Zw.h ?_; apply id ⟨?_⟩)) : G := h
theorem z_gox {G : Prop} (h : G := by (repeat (first | refine j_app ?_ | refine cc ?_ | ((first | refine lms rfl rfl rfl ?_ ?_ | refine lss rfl rfl ?_ ?_ | refine lns rfl rfl rfl ?_ ?_ | refine lap rfl rfl rfl rfl rfl ?_ rfl ?_); (next => first | exact trivial | omega); intros) | refine c_true rfl ?_ | refine c_false rfl ?_ | refine c_in_other rfl ?_ | refine l_nil ?_ | refine l_skip rfl rfl rfl ?_ | refine l_skip0 rfl rfl ?_ | refine lbd rfl rfl (by kernel_rfl) rfl ?_ | (refine lsl rfl rfl rfl rfl (by kernel_rfl) rfl rfl ?_; intros) | (refine lsl0 rfl rfl ?_; intros) | (refine lix rfl (by omega) ?_; rintro _ rfl) | (refine lixr rfl (by assumption) (by omega) ?_; rintro _ _ rfl _) | (refine c_drw rfl (by decide) (by decide +kernel) ?_; (repeat (first | (refine hms rfl rfl rfl ?_ ?_; (next => first | exact trivial | omega)) | refine h_skip rfl rfl rfl ?_ | (refine hmw rfl rfl rfl ?_ ?_; (next => first | exact trivial | omega)))); refine h_nil ?_) | (refine c_drp rfl (by decide) (by decide +kernel) ?_; (repeat (first | (refine p_run rfl rfl rfl ?_ ?_; (next => first | exact trivial | omega)) | refine p_skip rfl rfl rfl ?_)); refine p_nil ?_) | (refine lmw rfl rfl rfl ?_ ?_; (next => first | exact trivial | omega)) | refine lpT rfl rfl rfl rfl ?_ | refine lpF rfl rfl rfl rfl ?_)); all_goals (refine Zw.h ?_; apply id ⟨?_⟩)) : G := h
theorem z_tas {G : Prop} (h : G := by (repeat' (first | (first | (first | refine j_app ?_ | refine cc ?_ | ((first | refine lms rfl rfl rfl ?_ ?_ | refine lss rfl rfl ?_ ?_ | refine lns rfl rfl rfl ?_ ?_ | refine lap rfl rfl rfl rfl rfl ?_ rfl ?_); (next => first | exact trivial | omega); intros) | refine c_true rfl ?_ | refine c_false rfl ?_ | refine c_in_other rfl ?_ | refine l_nil ?_ | refine l_skip rfl rfl rfl ?_ | refine l_skip0 rfl rfl ?_ | refine lbd rfl rfl (by kernel_rfl) rfl ?_ | (refine lsl rfl rfl rfl rfl (by kernel_rfl) rfl rfl ?_; intros) | (refine lsl0 rfl rfl ?_; intros) | (refine lix rfl (by omega) ?_; rintro _ rfl) | (refine lixr rfl (by assumption) (by omega) ?_; rintro _ _ rfl _) | (refine c_drw rfl (by decide) (by decide +kernel) ?_; (repeat (first | (refine hms rfl rfl rfl ?_ ?_; (next => first | exact trivial | omega)) | refine h_skip rfl rfl rfl ?_ | (refine hmw rfl rfl rfl ?_ ?_; (next => first | exact trivial | omega)))); refine h_nil ?_) | (refine c_drp rfl (by decide) (by decide +kernel) ?_; (repeat (first | (refine p_run rfl rfl rfl ?_ ?_; (next => first | exact trivial | omega)) | refine p_skip rfl rfl rfl ?_)); refine p_nil ?_)) | (refine lxv rfl rfl rfl ?_ ?_; (next => first | exact trivial | omega)) | refine lba rfl rfl (by kernel_rfl) rfl ?_ | (refine lcv rfl rfl rfl ?_ ?_; (next => first | exact trivial | omega)) | refine lpT rfl rfl rfl rfl ?_ | refine lpF rfl rfl rfl rfl ?_ | ((fail_if_success refine l_lit true rfl rfl rfl ?_); (fail_if_success refine l_lit false rfl rfl rfl ?_); refine l_gd rfl rfl rfl ?_ ?_ <;> intro _ <;> try (exfalso; first | contradiction | omega)) | (refine c_if rfl ?_ ?_ <;> intro _ <;> try (exfalso; first | contradiction | omega)) | (refine lmw rfl rfl rfl ?_ ?_; (next => first | exact trivial | omega))) | fail)); all_goals (refine Zw.h ?_; apply id ⟨?_⟩)) : G := h
theorem z_go2 {G : Prop} (h : G := by (repeat (first | refine j_app ?_ | refine cc ?_ | ((first | refine lms rfl rfl rfl ?_ ?_ | refine lss rfl rfl ?_ ?_ | refine lns rfl rfl rfl ?_ ?_ | refine lap rfl rfl rfl rfl rfl ?_ rfl ?_); (next => first | exact trivial | omega); intros) | refine c_true rfl ?_ | refine c_false rfl ?_ | refine c_in_other rfl ?_ | refine l_nil ?_ | refine l_skip rfl rfl rfl ?_ | refine l_skip0 rfl rfl ?_ | refine lbd rfl rfl (by kernel_rfl) rfl ?_ | (refine lsl rfl rfl rfl rfl (by kernel_rfl) rfl rfl ?_; intros) | (refine lsl0 rfl rfl ?_; intros) | (refine lix rfl (by omega) ?_; rintro _ rfl) | (refine lixr rfl (by assumption) (by omega) ?_; rintro _ _ rfl _) | (refine c_drw rfl (by decide) (by decide +kernel) ?_; (repeat (first | (refine hms rfl rfl rfl ?_ ?_; (next => first | exact trivial | omega)) | refine h_skip rfl rfl rfl ?_ | (refine hmw rfl rfl rfl ?_ ?_; (next => first | exact trivial | omega)))); refine h_nil ?_) | (refine c_drp rfl (by decide) (by decide +kernel) ?_; (repeat (first | (refine p_run rfl rfl rfl ?_ ?_; (next => first | exact trivial | omega)) | refine p_skip rfl rfl rfl ?_)); refine p_nil ?_) | (refine lmw rfl rfl rfl ?_ ?_; (next => first | exact trivial | omega)))); all_goals (refine Zw.h ?_; apply id ⟨?_⟩)) : G := h
theorem z_ta {G : Prop} (h : G := by (first | (first | refine j_app ?_ | refine cc ?_ | ((first | refine lms rfl rfl rfl ?_ ?_ | refine lss rfl rfl ?_ ?_ | refine lns rfl rfl rfl ?_ ?_ | refine lap rfl rfl rfl rfl rfl ?_ rfl ?_); (next => first | exact trivial | omega); intros) | refine c_true rfl ?_ | refine c_false rfl ?_ | refine c_in_other rfl ?_ | refine l_nil ?_ | refine l_skip rfl rfl rfl ?_ | refine l_skip0 rfl rfl ?_ | refine lbd rfl rfl (by kernel_rfl) rfl ?_ | (refine lsl rfl rfl rfl rfl (by kernel_rfl) rfl rfl ?_; intros) | (refine lsl0 rfl rfl ?_; intros) | (refine lix rfl (by omega) ?_; rintro _ rfl) | (refine lixr rfl (by assumption) (by omega) ?_; rintro _ _ rfl _) | (refine c_drw rfl (by decide) (by decide +kernel) ?_; (repeat (first | (refine hms rfl rfl rfl ?_ ?_; (next => first | exact trivial | omega)) | refine h_skip rfl rfl rfl ?_ | (refine hmw rfl rfl rfl ?_ ?_; (next => first | exact trivial | omega)))); refine h_nil ?_) | (refine c_drp rfl (by decide) (by decide +kernel) ?_; (repeat (first | (refine p_run rfl rfl rfl ?_ ?_; (next => first | exact trivial | omega)) | refine p_skip rfl rfl rfl ?_)); refine p_nil ?_)) | (refine lxv rfl rfl rfl ?_ ?_; (next => first | exact trivial | omega)) | refine lba rfl rfl (by kernel_rfl) rfl ?_ | (refine lcv rfl rfl rfl ?_ ?_; (next => first | exact trivial | omega)) | refine lpT rfl rfl rfl rfl ?_ | refine lpF rfl rfl rfl rfl ?_ | ((fail_if_success refine l_lit true rfl rfl rfl ?_); (fail_if_success refine l_lit false rfl rfl rfl ?_); refine l_gd rfl rfl rfl ?_ ?_ <;> intro _ <;> try (exfalso; first | contradiction | omega)) | (refine c_if rfl ?_ ?_ <;> intro _ <;> try (exfalso; first | contradiction | omega)) | (refine lmw rfl rfl rfl ?_ ?_; (next => first | exact trivial | omega))); all_goals (refine Zw.h ?_; apply id ⟨?_⟩)) : G := h
theorem z_ha {G : Prop} (h : G := by (first | (refine hms rfl rfl rfl ?_ ?_; (next => first | exact trivial | omega)) | refine hbd rfl rfl (by kernel_rfl) rfl ?_ | refine h_pT rfl rfl rfl rfl ?_ | refine h_pF rfl rfl rfl rfl ?_ | refine h_skip rfl rfl rfl ?_ | (refine hcv rfl rfl rfl ?_ ?_; (next => first | exact trivial | omega)) | ((fail_if_success refine h_lit true rfl rfl rfl ?_); (fail_if_success refine h_lit false rfl rfl rfl ?_); refine h_gd rfl rfl rfl ?_ ?_ <;> intro _ <;> try (exfalso; first | contradiction | omega)) | (refine hmw rfl rfl rfl ?_ ?_; (next => first | exact trivial | omega)) | refine h_nil ?_); all_goals (refine Zw.h ?_; apply id ⟨?_⟩)) : G := h
theorem z_xa {G : Prop} (h : G := by (first | (refine x_run rfl rfl rfl ?_ ?_; (next => first | exact trivial | omega)) | refine x_pT rfl rfl rfl rfl ?_ | refine x_pF rfl rfl rfl rfl ?_ | refine x_skip rfl rfl rfl ?_ | ((fail_if_success refine x_lit true rfl rfl rfl ?_); (fail_if_success refine x_lit false rfl rfl rfl ?_); refine x_gd rfl rfl rfl ?_ ?_ <;> intro _ <;> try (exfalso; first | contradiction | omega)) | refine x_nil ?_); all_goals (refine Zw.h ?_; apply id ⟨?_⟩)) : G := h
theorem z_ua {G : Prop} (h : G := by (first | (refine u_ms rfl rfl rfl ?_ ?_; (next => first | exact trivial | omega)) | refine u_skip rfl rfl rfl ?_ | (refine u_cv rfl rfl rfl ?_ ?_; (next => first | exact trivial | omega)) | refine u_pT rfl rfl rfl rfl ?_ | refine u_pF rfl rfl rfl rfl ?_ | refine u_bd rfl rfl (by kernel_rfl) rfl ?_ | ((fail_if_success refine u_lit true rfl rfl rfl ?_); (fail_if_success refine u_lit false rfl rfl rfl ?_); refine u_gd rfl rfl rfl ?_ ?_ <;> intro _ <;> try (exfalso; first | contradiction | omega)) | (refine u_mw rfl rfl rfl ?_ ?_; (next => first | exact trivial | omega)) | refine u_nil ?_); all_goals (refine Zw.h ?_; apply id ⟨?_⟩)) : G := h
theorem z_tx {G : Prop} (h : G := by (first | refine t_done ?_ | refine t_all _ rfl rfl ?_ | refine allP_cons ?_ ?_ | exact allP_nil | refine t_last (by decide +kernel) ?_ | refine t_next Sub.au ?_); all_goals (refine Zw.h ?_; apply id ⟨?_⟩)) : G := h
theorem z_gov {G : Prop} (h : G := by (repeat' (first | refine t_tail ?_ | refine t_done ?_ | (first | (refine t_look 0 rfl rfl rfl rfl rfl rfl ?_ ?_ ?_ ?_; (next => first | exact trivial | omega); (next => decide +kernel); (next => first | exact Sub.refl _ | exact Sub.au)) | (refine t_look 1 rfl rfl rfl rfl rfl rfl ?_ ?_ ?_ ?_; (next => first | exact trivial | omega); (next => decide +kernel); (next => first | exact Sub.refl _ | exact Sub.au)) | (refine t_look 2 rfl rfl rfl rfl rfl rfl ?_ ?_ ?_ ?_; (next => first | exact trivial | omega); (next => decide +kernel); (next => first | exact Sub.refl _ | exact Sub.au)) | (refine t_look 3 rfl rfl rfl rfl rfl rfl ?_ ?_ ?_ ?_; (next => first | exact trivial | omega); (next => decide +kernel); (next => first | exact Sub.refl _ | exact Sub.au)) | (refine t_look 4 rfl rfl rfl rfl rfl rfl ?_ ?_ ?_ ?_; (next => first | exact trivial | omega); (next => decide +kernel); (next => first | exact Sub.refl _ | exact Sub.au)) | (refine t_look 5 rfl rfl rfl rfl rfl rfl ?_ ?_ ?_ ?_; (next => first | exact trivial | omega); (next => decide +kernel); (next => first | exact Sub.refl _ | exact Sub.au)) | (refine t_look 6 rfl rfl rfl rfl rfl rfl ?_ ?_ ?_ ?_; (next => first | exact trivial | omega); (next => decide +kernel); (next => first | exact Sub.refl _ | exact Sub.au)) | (refine t_look 7 rfl rfl rfl rfl rfl rfl ?_ ?_ ?_ ?_; (next => first | exact trivial | omega); (next => decide +kernel); (next => first | exact Sub.refl _ | exact Sub.au)) | (refine t_none 0 rfl rfl rfl rfl rfl ?_ ?_ ?_; (next => decide +kernel); (next => first | exact Sub.refl _ | exact Sub.au)) | (refine t_none 1 rfl rfl rfl rfl rfl ?_ ?_ ?_; (next => decide +kernel); (next => first | exact Sub.refl _ | exact Sub.au)) | (refine t_none 2 rfl rfl rfl rfl rfl ?_ ?_ ?_; (next => decide +kernel); (next => first | exact Sub.refl _ | exact Sub.au)) | (refine t_none 3 rfl rfl rfl rfl rfl ?_ ?_ ?_; (next => decide +kernel); (next => first | exact Sub.refl _ | exact Sub.au)) | (refine t_none 4 rfl rfl rfl rfl rfl ?_ ?_ ?_; (next => decide +kernel); (next => first | exact Sub.refl _ | exact Sub.au)) | (refine t_none 5 rfl rfl rfl rfl rfl ?_ ?_ ?_; (next => decide +kernel); (next => first | exact Sub.refl _ | exact Sub.au)) | (refine t_none 6 rfl rfl rfl rfl rfl ?_ ?_ ?_; (next => decide +kernel); (next => first | exact Sub.refl _ | exact Sub.au)) | (refine t_none 7 rfl rfl rfl rfl rfl ?_ ?_ ?_; (next => decide +kernel); (next => first | exact Sub.refl _ | exact Sub.au)) | ((fail_if_success refine t_lit true rfl rfl rfl rfl rfl ?_); (fail_if_success refine t_lit false rfl rfl rfl rfl rfl ?_); refine t_gd rfl rfl rfl rfl rfl ?_ ?_ <;> intro _ <;> try (exfalso; first | contradiction | omega))) | (refine t_all _ rfl rfl ?_) | refine allP_cons ?_ ?_ | exact allP_nil | (refine t_next ?_ ?_; (next => first | exact Sub.refl _ | exact Sub.au); (refine t_nrm (rest' := ?_) ?_ ?_; rotate_left; (next => repeat (first | exact era_head _ _ | refine era_step (by decide) ?_)))) | (first | (first | refine j_app ?_ | refine cc ?_ | ((first | refine lms rfl rfl rfl ?_ ?_ | refine lss rfl rfl ?_ ?_ | refine lns rfl rfl rfl ?_ ?_ | refine lap rfl rfl rfl rfl rfl ?_ rfl ?_); (next => first | exact trivial | omega); intros) | refine c_true rfl ?_ | refine c_false rfl ?_ | refine c_in_other rfl ?_ | refine l_nil ?_ | refine l_skip rfl rfl rfl ?_ | refine l_skip0 rfl rfl ?_ | refine lbd rfl rfl (by kernel_rfl) rfl ?_ | (refine lsl rfl rfl rfl rfl (by kernel_rfl) rfl rfl ?_; intros) | (refine lsl0 rfl rfl ?_; intros) | (refine lix rfl (by omega) ?_; rintro _ rfl) | (refine lixr rfl (by assumption) (by omega) ?_; rintro _ _ rfl _) | (refine c_drw rfl (by decide) (by decide +kernel) ?_; (repeat (first | (refine hms rfl rfl rfl ?_ ?_; (next => first | exact trivial | omega)) | refine h_skip rfl rfl rfl ?_ | (refine hmw rfl rfl rfl ?_ ?_; (next => first | exact trivial | omega)))); refine h_nil ?_) | (refine c_drp rfl (by decide) (by decide +kernel) ?_; (repeat (first | (refine p_run rfl rfl rfl ?_ ?_; (next => first | exact trivial | omega)) | refine p_skip rfl rfl rfl ?_)); refine p_nil ?_)) | (refine lxv rfl rfl rfl ?_ ?_; (next => first | exact trivial | omega)) | refine lba rfl rfl (by kernel_rfl) rfl ?_ | (refine lcv rfl rfl rfl ?_ ?_; (next => first | exact trivial | omega)) | refine lpT rfl rfl rfl rfl ?_ | refine lpF rfl rfl rfl rfl ?_ | ((fail_if_success refine l_lit true rfl rfl rfl ?_); (fail_if_success refine l_lit false rfl rfl rfl ?_); refine l_gd rfl rfl rfl ?_ ?_ <;> intro _ <;> try (exfalso; first | contradiction | omega)) | (refine c_if rfl ?_ ?_ <;> intro _ <;> try (exfalso; first | contradiction | omega)) | (refine lmw rfl rfl rfl ?_ ?_; (next => first | exact trivial | omega))) | fail)); all_goals (refine Zw.h ?_; apply id ⟨?_⟩)) : G := h
theorem z_gov1 {G : Prop} (h : G := by ((first | refine t_tail ?_ | refine t_done ?_ | (first | (refine t_look 0 rfl rfl rfl rfl rfl rfl ?_ ?_ ?_ ?_; (next => first | exact trivial | omega); (next => decide +kernel); (next => first | exact Sub.refl _ | exact Sub.au)) | (refine t_look 1 rfl rfl rfl rfl rfl rfl ?_ ?_ ?_ ?_; (next => first | exact trivial | omega); (next => decide +kernel); (next => first | exact Sub.refl _ | exact Sub.au)) | (refine t_look 2 rfl rfl rfl rfl rfl rfl ?_ ?_ ?_ ?_; (next => first | exact trivial | omega); (next => decide +kernel); (next => first | exact Sub.refl _ | exact Sub.au)) | (refine t_look 3 rfl rfl rfl rfl rfl rfl ?_ ?_ ?_ ?_; (next => first | exact trivial | omega); (next => decide +kernel); (next => first | exact Sub.refl _ | exact Sub.au)) | (refine t_look 4 rfl rfl rfl rfl rfl rfl ?_ ?_ ?_ ?_; (next => first | exact trivial | omega); (next => decide +kernel); (next => first | exact Sub.refl _ | exact Sub.au)) | (refine t_look 5 rfl rfl rfl rfl rfl rfl ?_ ?_ ?_ ?_; (next => first | exact trivial | omega); (next => decide +kernel); (next => first | exact Sub.refl _ | exact Sub.au)) | (refine t_look 6 rfl rfl rfl rfl rfl rfl ?_ ?_ ?_ ?_; (next => first | exact trivial | omega); (next => decide +kernel); (next => first | exact Sub.refl _ | exact Sub.au)) | (refine t_look 7 rfl rfl rfl rfl rfl rfl ?_ ?_ ?_ ?_; (next => first | exact trivial | omega); (next => decide +kernel); (next => first | exact Sub.refl _ | exact Sub.au)) | (refine t_none 0 rfl rfl rfl rfl rfl ?_ ?_ ?_; (next => decide +kernel); (next => first | exact Sub.refl _ | exact Sub.au)) | (refine t_none 1 rfl rfl rfl rfl rfl ?_ ?_ ?_; (next => decide +kernel); (next => first | exact Sub.refl _ | exact Sub.au)) | (refine t_none 2 rfl rfl rfl rfl rfl ?_ ?_ ?_; (next => decide +kernel); (next => first | exact Sub.refl _ | exact Sub.au)) | (refine t_none 3 rfl rfl rfl rfl rfl ?_ ?_ ?_; (next => decide +kernel); (next => first | exact Sub.refl _ | exact Sub.au)) | (refine t_none 4 rfl rfl rfl rfl rfl ?_ ?_ ?_; (next => decide +kernel); (next => first | exact Sub.refl _ | exact Sub.au)) | (refine t_none 5 rfl rfl rfl rfl rfl ?_ ?_ ?_; (next => decide +kernel); (next => first | exact Sub.refl _ | exact Sub.au)) | (refine t_none 6 rfl rfl rfl rfl rfl ?_ ?_ ?_; (next => decide +kernel); (next => first | exact Sub.refl _ | exact Sub.au)) | (refine t_none 7 rfl rfl rfl rfl rfl ?_ ?_ ?_; (next => decide +kernel); (next => first | exact Sub.refl _ | exact Sub.au)) | ((fail_if_success refine t_lit true rfl rfl rfl rfl rfl ?_); (fail_if_success refine t_lit false rfl rfl rfl rfl rfl ?_); refine t_gd rfl rfl rfl rfl rfl ?_ ?_ <;> intro _ <;> try (exfalso; first | contradiction | omega))) | (refine t_all _ rfl rfl ?_) | refine allP_cons ?_ ?_ | exact allP_nil | (refine t_next ?_ ?_; (next => first | exact Sub.refl _ | exact Sub.au); (refine t_nrm (rest' := ?_) ?_ ?_; rotate_left; (next => repeat (first | exact era_head _ _ | refine era_step (by decide) ?_)))) | (first | (first | refine j_app ?_ | refine cc ?_ | ((first | refine lms rfl rfl rfl ?_ ?_ | refine lss rfl rfl ?_ ?_ | refine lns rfl rfl rfl ?_ ?_ | refine lap rfl rfl rfl rfl rfl ?_ rfl ?_); (next => first | exact trivial | omega); intros) | refine c_true rfl ?_ | refine c_false rfl ?_ | refine c_in_other rfl ?_ | refine l_nil ?_ | refine l_skip rfl rfl rfl ?_ | refine l_skip0 rfl rfl ?_ | refine lbd rfl rfl (by kernel_rfl) rfl ?_ | (refine lsl rfl rfl rfl rfl (by kernel_rfl) rfl rfl ?_; intros) | (refine lsl0 rfl rfl ?_; intros) | (refine lix rfl (by omega) ?_; rintro _ rfl) | (refine lixr rfl (by assumption) (by omega) ?_; rintro _ _ rfl _) | (refine c_drw rfl (by decide) (by decide +kernel) ?_; (repeat (first | (refine hms rfl rfl rfl ?_ ?_; (next => first | exact trivial | omega)) | refine h_skip rfl rfl rfl ?_ | (refine hmw rfl rfl rfl ?_ ?_; (next => first | exact trivial | omega)))); refine h_nil ?_) | (refine c_drp rfl (by decide) (by decide +kernel) ?_; (repeat (first | (refine p_run rfl rfl rfl ?_ ?_; (next => first | exact trivial | omega)) | refine p_skip rfl rfl rfl ?_)); refine p_nil ?_)) | (refine lxv rfl rfl rfl ?_ ?_; (next => first | exact trivial | omega)) | refine lba rfl rfl (by kernel_rfl) rfl ?_ | (refine lcv rfl rfl rfl ?_ ?_; (next => first | exact trivial | omega)) | refine lpT rfl rfl rfl rfl ?_ | refine lpF rfl rfl rfl rfl ?_ | ((fail_if_success refine l_lit true rfl rfl rfl ?_); (fail_if_success refine l_lit false rfl rfl rfl ?_); refine l_gd rfl rfl rfl ?_ ?_ <;> intro _ <;> try (exfalso; first | contradiction | omega)) | (refine c_if rfl ?_ ?_ <;> intro _ <;> try (exfalso; first | contradiction | omega)) | (refine lmw rfl rfl rfl ?_ ?_; (next => first | exact trivial | omega))) | fail)); all_goals (refine Zw.h ?_; apply id ⟨?_⟩)) : G := h
theorem z_govG {G : Prop} (h : G := by (repeat' (first | refine t_tail ?_ | refine t_done ?_ | (first | (refine t_look 0 rfl rfl rfl rfl rfl rfl ?_ ?_ ?_ ?_; (next => first | exact trivial | omega); (next => decide +kernel); (next => first | exact Sub.refl _ | exact Sub.au)) | (refine t_look 1 rfl rfl rfl rfl rfl rfl ?_ ?_ ?_ ?_; (next => first | exact trivial | omega); (next => decide +kernel); (next => first | exact Sub.refl _ | exact Sub.au)) | (refine t_look 2 rfl rfl rfl rfl rfl rfl ?_ ?_ ?_ ?_; (next => first | exact trivial | omega); (next => decide +kernel); (next => first | exact Sub.refl _ | exact Sub.au)) | (refine t_look 3 rfl rfl rfl rfl rfl rfl ?_ ?_ ?_ ?_; (next => first | exact trivial | omega); (next => decide +kernel); (next => first | exact Sub.refl _ | exact Sub.au)) | (refine t_look 4 rfl rfl rfl rfl rfl rfl ?_ ?_ ?_ ?_; (next => first | exact trivial | omega); (next => decide +kernel); (next => first | exact Sub.refl _ | exact Sub.au)) | (refine t_look 5 rfl rfl rfl rfl rfl rfl ?_ ?_ ?_ ?_; (next => first | exact trivial | omega); (next => decide +kernel); (next => first | exact Sub.refl _ | exact Sub.au)) | (refine t_look 6 rfl rfl rfl rfl rfl rfl ?_ ?_ ?_ ?_; (next => first | exact trivial | omega); (next => decide +kernel); (next => first | exact Sub.refl _ | exact Sub.au)) | (refine t_look 7 rfl rfl rfl rfl rfl rfl ?_ ?_ ?_ ?_; (next => first | exact trivial | omega); (next => decide +kernel); (next => first | exact Sub.refl _ | exact Sub.au)) | (refine t_none 0 rfl rfl rfl rfl rfl ?_ ?_ ?_; (next => decide +kernel); (next => first | exact Sub.refl _ | exact Sub.au)) | (refine t_none 1 rfl rfl rfl rfl rfl ?_ ?_ ?_; (next => decide +kernel); (next => first | exact Sub.refl _ | exact Sub.au)) | (refine t_none 2 rfl rfl rfl rfl rfl ?_ ?_ ?_; (next => decide +kernel); (next => first | exact Sub.refl _ | exact Sub.au)) | (refine t_none 3 rfl rfl rfl rfl rfl ?_ ?_ ?_; (next => decide +kernel); (next => first | exact Sub.refl _ | exact Sub.au)) | (refine t_none 4 rfl rfl rfl rfl rfl ?_ ?_ ?_; (next => decide +kernel); (next => first | exact Sub.refl _ | exact Sub.au)) | (refine t_none 5 rfl rfl rfl rfl rfl ?_ ?_ ?_; (next => decide +kernel); (next => first | exact Sub.refl _ | exact Sub.au)) | (refine t_none 6 rfl rfl rfl rfl rfl ?_ ?_ ?_; (next => decide +kernel); (next => first | exact Sub.refl _ | exact Sub.au)) | (refine t_none 7 rfl rfl rfl rfl rfl ?_ ?_ ?_; (next => decide +kernel); (next => first | exact Sub.refl _ | exact Sub.au)) | ((fail_if_success refine t_litG true rfl rfl rfl rfl rfl ?_); (fail_if_success refine t_litG false rfl rfl rfl rfl rfl ?_); refine t_gd rfl rfl rfl rfl rfl ?_ ?_ <;> intro _ <;> try (exfalso; first | contradiction | omega))) | (refine t_all _ rfl rfl ?_) | refine allP_cons ?_ ?_ | exact allP_nil | (refine t_next ?_ ?_; (next => first | exact Sub.refl _ | exact Sub.au); (refine t_nrm (rest' := ?_) ?_ ?_; rotate_left; (next => repeat (first | exact era_head _ _ | refine era_step (by decide) ?_)))) | (first | (first | refine j_app ?_ | refine cc ?_ | ((first | refine lms rfl rfl rfl ?_ ?_ | refine lss rfl rfl ?_ ?_ | refine lns rfl rfl rfl ?_ ?_ | refine lap rfl rfl rfl rfl rfl ?_ rfl ?_); (next => first | exact trivial | omega); intros) | refine c_true rfl ?_ | refine c_false rfl ?_ | refine c_in_other rfl ?_ | refine l_nil ?_ | refine l_skip rfl rfl rfl ?_ | refine l_skip0 rfl rfl ?_ | refine lbd rfl rfl (by kernel_rfl) rfl ?_ | (refine lsl rfl rfl rfl rfl (by kernel_rfl) rfl rfl ?_; intros) | (refine lsl0 rfl rfl ?_; intros) | (refine lix rfl (by omega) ?_; rintro _ rfl) | (refine lixr rfl (by assumption) (by omega) ?_; rintro _ _ rfl _) | (refine c_drw rfl (by decide) (by decide +kernel) ?_; (repeat (first | (refine hms rfl rfl rfl ?_ ?_; (next => first | exact trivial | omega)) | refine h_skip rfl rfl rfl ?_ | (refine hmw rfl rfl rfl ?_ ?_; (next => first | exact trivial | omega)))); refine h_nil ?_) | (refine c_drp rfl (by decide) (by decide +kernel) ?_; (repeat (first | (refine p_run rfl rfl rfl ?_ ?_; (next => first | exact trivial | omega)) | refine p_skip rfl rfl rfl ?_)); refine p_nil ?_)) | (refine lxv rfl rfl rfl ?_ ?_; (next => first | exact trivial | omega)) | refine lba rfl rfl (by kernel_rfl) rfl ?_ | (refine lcv rfl rfl rfl ?_ ?_; (next => first | exact trivial | omega)) | refine lpT rfl rfl rfl rfl ?_ | refine lpF rfl rfl rfl rfl ?_ | ((fail_if_success refine l_lit true rfl rfl rfl ?_); (fail_if_success refine l_lit false rfl rfl rfl ?_); refine l_gd rfl rfl rfl ?_ ?_ <;> intro _ <;> try (exfalso; first | contradiction | omega)) | (refine c_if rfl ?_ ?_ <;> intro _ <;> try (exfalso; first | contradiction | omega)) | (refine lmw rfl rfl rfl ?_ ?_; (next => first | exact trivial | omega))) | fail)); all_goals (refine Zw.h ?_; apply id ⟨?_⟩)) : G := h
theorem z_govG1 {G : Prop} (h : G := by ((first | refine t_tail ?_ | refine t_done ?_ | (first | (refine t_look 0 rfl rfl rfl rfl rfl rfl ?_ ?_ ?_ ?_; (next => first | exact trivial | omega); (next => decide +kernel); (next => first | exact Sub.refl _ | exact Sub.au)) | (refine t_look 1 rfl rfl rfl rfl rfl rfl ?_ ?_ ?_ ?_; (next => first | exact trivial | omega); (next => decide +kernel); (next => first | exact Sub.refl _ | exact Sub.au)) | (refine t_look 2 rfl rfl rfl rfl rfl rfl ?_ ?_ ?_ ?_; (next => first | exact trivial | omega); (next => decide +kernel); (next => first | exact Sub.refl _ | exact Sub.au)) | (refine t_look 3 rfl rfl rfl rfl rfl rfl ?_ ?_ ?_ ?_; (next => first | exact trivial | omega); (next => decide +kernel); (next => first | exact Sub.refl _ | exact Sub.au)) | (refine t_look 4 rfl rfl rfl rfl rfl rfl ?_ ?_ ?_ ?_; (next => first | exact trivial | omega); (next => decide +kernel); (next => first | exact Sub.refl _ | exact Sub.au)) | (refine t_look 5 rfl rfl rfl rfl rfl rfl ?_ ?_ ?_ ?_; (next => first | exact trivial | omega); (next => decide +kernel); (next => first | exact Sub.refl _ | exact Sub.au)) | (refine t_look 6 rfl rfl rfl rfl rfl rfl ?_ ?_ ?_ ?_; (next => first | exact trivial | omega); (next => decide +kernel); (next => first | exact Sub.refl _ | exact Sub.au)) | (refine t_look 7 rfl rfl rfl rfl rfl rfl ?_ ?_ ?_ ?_; (next => first | exact trivial | omega); (next => decide +kernel); (next => first | exact Sub.refl _ | exact Sub.au)) | (refine t_none 0 rfl rfl rfl rfl rfl ?_ ?_ ?_; (next => decide +kernel); (next => first | exact Sub.refl _ | exact Sub.au)) | (refine t_none 1 rfl rfl rfl rfl rfl ?_ ?_ ?_; (next => decide +kernel); (next => first | exact Sub.refl _ | exact Sub.au)) | (refine t_none 2 rfl rfl rfl rfl rfl ?_ ?_ ?_; (next => decide +kernel); (next => first | exact Sub.refl _ | exact Sub.au)) | (refine t_none 3 rfl rfl rfl rfl rfl ?_ ?_ ?_; (next => decide +kernel); (next => first | exact Sub.refl _ | exact Sub.au)) | (refine t_none 4 rfl rfl rfl rfl rfl ?_ ?_ ?_; (next => decide +kernel); (next => first | exact Sub.refl _ | exact Sub.au)) | (refine t_none 5 rfl rfl rfl rfl rfl ?_ ?_ ?_; (next => decide +kernel); (next => first | exact Sub.refl _ | exact Sub.au)) | (refine t_none 6 rfl rfl rfl rfl rfl ?_ ?_ ?_; (next => decide +kernel); (next => first | exact Sub.refl _ | exact Sub.au)) | (refine t_none 7 rfl rfl rfl rfl rfl ?_ ?_ ?_; (next => decide +kernel); (next => first | exact Sub.refl _ | exact Sub.au)) | ((fail_if_success refine t_litG true rfl rfl rfl rfl rfl ?_); (fail_if_success refine t_litG false rfl rfl rfl rfl rfl ?_); refine t_gd rfl rfl rfl rfl rfl ?_ ?_ <;> intro _ <;> try (exfalso; first | contradiction | omega))) | (refine t_all _ rfl rfl ?_) | refine allP_cons ?_ ?_ | exact allP_nil | (refine t_next ?_ ?_; (next => first | exact Sub.refl _ | exact Sub.au); (refine t_nrm (rest' := ?_) ?_ ?_; rotate_left; (next => repeat (first | exact era_head _ _ | refine era_step (by decide) ?_)))) | (first | (first | refine j_app ?_ | refine cc ?_ | ((first | refine lms rfl rfl rfl ?_ ?_ | refine lss rfl rfl ?_ ?_ | refine lns rfl rfl rfl ?_ ?_ | refine lap rfl rfl rfl rfl rfl ?_ rfl ?_); (next => first | exact trivial | omega); intros) | refine c_true rfl ?_ | refine c_false rfl ?_ | refine c_in_other rfl ?_ | refine l_nil ?_ | refine l_skip rfl rfl rfl ?_ | refine l_skip0 rfl rfl ?_ | refine lbd rfl rfl (by kernel_rfl) rfl ?_ | (refine lsl rfl rfl rfl rfl (by kernel_rfl) rfl rfl ?_; intros) | (refine lsl0 rfl rfl ?_; intros) | (refine lix rfl (by omega) ?_; rintro _ rfl) | (refine lixr rfl (by assumption) (by omega) ?_; rintro _ _ rfl _) | (refine c_drw rfl (by decide) (by decide +kernel) ?_; (repeat (first | (refine hms rfl rfl rfl ?_ ?_; (next => first | exact trivial | omega)) | refine h_skip rfl rfl rfl ?_ | (refine hmw rfl rfl rfl ?_ ?_; (next => first | exact trivial | omega)))); refine h_nil ?_) | (refine c_drp rfl (by decide) (by decide +kernel) ?_; (repeat (first | (refine p_run rfl rfl rfl ?_ ?_; (next => first | exact trivial | omega)) | refine p_skip rfl rfl rfl ?_)); refine p_nil ?_)) | (refine lxv rfl rfl rfl ?_ ?_; (next => first | exact trivial | omega)) | refine lba rfl rfl (by kernel_rfl) rfl ?_ | (refine lcv rfl rfl rfl ?_ ?_; (next => first | exact trivial | omega)) | refine lpT rfl rfl rfl rfl ?_ | refine lpF rfl rfl rfl rfl ?_ | ((fail_if_success refine l_lit true rfl rfl rfl ?_); (fail_if_success refine l_lit false rfl rfl rfl ?_); refine l_gd rfl rfl rfl ?_ ?_ <;> intro _ <;> try (exfalso; first | contradiction | omega)) | (refine c_if rfl ?_ ?_ <;> intro _ <;> try (exfalso; first | contradiction | omega)) | (refine lmw rfl rfl rfl ?_ ?_; (next => first | exact trivial | omega))) | fail)); all_goals (refine Zw.h ?_; apply id ⟨?_⟩)) : G := h
theorem z_gvs {G : Prop} (h : G := by (repeat' (first | refine t_tail ?_ | refine t_done ?_ | (first | (refine t_look 0 rfl rfl rfl rfl rfl rfl ?_ ?_ ?_ ?_; (next => first | exact trivial | omega); (next => decide +kernel); (next => first | exact Sub.refl _ | exact Sub.au)) | (refine t_look 1 rfl rfl rfl rfl rfl rfl ?_ ?_ ?_ ?_; (next => first | exact trivial | omega); (next => decide +kernel); (next => first | exact Sub.refl _ | exact Sub.au)) | (refine t_look 2 rfl rfl rfl rfl rfl rfl ?_ ?_ ?_ ?_; (next => first | exact trivial | omega); (next => decide +kernel); (next => first | exact Sub.refl _ | exact Sub.au)) | (refine t_look 3 rfl rfl rfl rfl rfl rfl ?_ ?_ ?_ ?_; (next => first | exact trivial | omega); (next => decide +kernel); (next => first | exact Sub.refl _ | exact Sub.au))) | (refine t_all _ rfl rfl ?_) | refine allP_cons ?_ ?_ | exact allP_nil | (refine t_next ?_ ?_; (next => first | exact Sub.refl _ | exact Sub.au); (refine t_nrm (rest' := ?_) ?_ ?_; rotate_left; (next => repeat (first | exact era_head _ _ | refine era_step (by decide) ?_)))) | (first | (first | refine j_app ?_ | refine cc ?_ | ((first | refine lms rfl rfl rfl ?_ ?_ | refine lss rfl rfl ?_ ?_ | refine lns rfl rfl rfl ?_ ?_ | refine lap rfl rfl rfl rfl rfl ?_ rfl ?_); (next => first | exact trivial | omega); intros) | refine c_true rfl ?_ | refine c_false rfl ?_ | refine c_in_other rfl ?_ | refine l_nil ?_ | refine l_skip rfl rfl rfl ?_ | refine l_skip0 rfl rfl ?_ | refine lbd rfl rfl (by kernel_rfl) rfl ?_ | (refine lsl rfl rfl rfl rfl (by kernel_rfl) rfl rfl ?_; intros) | (refine lsl0 rfl rfl ?_; intros) | (refine lix rfl (by omega) ?_; rintro _ rfl) | (refine lixr rfl (by assumption) (by omega) ?_; rintro _ _ rfl _) | (refine c_drw rfl (by decide) (by decide +kernel) ?_; (repeat (first | (refine hms rfl rfl rfl ?_ ?_; (next => first | exact trivial | omega)) | refine h_skip rfl rfl rfl ?_ | (refine hmw rfl rfl rfl ?_ ?_; (next => first | exact trivial | omega)))); refine h_nil ?_) | (refine c_drp rfl (by decide) (by decide +kernel) ?_; (repeat (first | (refine p_run rfl rfl rfl ?_ ?_; (next => first | exact trivial | omega)) | refine p_skip rfl rfl rfl ?_)); refine p_nil ?_)) | (refine lxv rfl rfl rfl ?_ ?_; (next => first | exact trivial | omega)) | refine lba rfl rfl (by kernel_rfl) rfl ?_ | (refine lcv rfl rfl rfl ?_ ?_; (next => first | exact trivial | omega)) | refine lpT rfl rfl rfl rfl ?_ | refine lpF rfl rfl rfl rfl ?_ | ((fail_if_success refine l_lit true rfl rfl rfl ?_); (fail_if_success refine l_lit false rfl rfl rfl ?_); refine l_gd rfl rfl rfl ?_ ?_ <;> intro _ <;> try (exfalso; first | contradiction | omega)) | (refine c_if rfl ?_ ?_ <;> intro _ <;> try (exfalso; first | contradiction | omega)) | (refine lmw rfl rfl rfl ?_ ?_; (next => first | exact trivial | omega))) | fail)); all_goals (refine Zw.h ?_; apply id ⟨?_⟩)) : G := h
theorem z_gon {G : Prop} (h : G := by (repeat' (first | (first | (first | refine j_app ?_ | refine cc ?_ | ((first | refine lms rfl rfl rfl ?_ ?_ | refine lss rfl rfl ?_ ?_ | refine lns rfl rfl rfl ?_ ?_ | refine lap rfl rfl rfl rfl rfl ?_ rfl ?_); (next => first | exact trivial | omega); intros) | refine c_true rfl ?_ | refine c_false rfl ?_ | refine c_in_other rfl ?_ | refine l_nil ?_ | refine l_skip rfl rfl rfl ?_ | refine l_skip0 rfl rfl ?_ | refine lbd rfl rfl (by kernel_rfl) rfl ?_ | (refine lsl rfl rfl rfl rfl (by kernel_rfl) rfl rfl ?_; intros) | (refine lsl0 rfl rfl ?_; intros) | (refine lix rfl (by omega) ?_; rintro _ rfl) | (refine lixr rfl (by assumption) (by omega) ?_; rintro _ _ rfl _) | (refine c_drw rfl (by decide) (by decide +kernel) ?_; (repeat (first | (refine hms rfl rfl rfl ?_ ?_; (next => first | exact trivial | omega)) | refine h_skip rfl rfl rfl ?_ | (refine hmw rfl rfl rfl ?_ ?_; (next => first | exact trivial | omega)))); refine h_nil ?_) | (refine c_drp rfl (by decide) (by decide +kernel) ?_; (repeat (first | (refine p_run rfl rfl rfl ?_ ?_; (next => first | exact trivial | omega)) | refine p_skip rfl rfl rfl ?_)); refine p_nil ?_)) | (refine lxv rfl rfl rfl ?_ ?_; (next => first | exact trivial | omega)) | refine lba rfl rfl (by kernel_rfl) rfl ?_ | (refine lcv rfl rfl rfl ?_ ?_; (next => first | exact trivial | omega)) | refine lpT rfl rfl rfl rfl ?_ | refine lpF rfl rfl rfl rfl ?_ | ((fail_if_success refine l_lit true rfl rfl rfl ?_); (fail_if_success refine l_lit false rfl rfl rfl ?_); refine l_gd rfl rfl rfl ?_ ?_ <;> intro _ <;> try (exfalso; first | contradiction | omega)) | (refine c_if rfl ?_ ?_ <;> intro _ <;> try (exfalso; first | contradiction | omega)) | (refine lmw rfl rfl rfl ?_ ?_; (next => first | exact trivial | omega))) | (first | (refine x_run rfl rfl rfl ?_ ?_; (next => first | exact trivial | omega)) | refine x_pT rfl rfl rfl rfl ?_ | refine x_pF rfl rfl rfl rfl ?_ | refine x_skip rfl rfl rfl ?_ | ((fail_if_success refine x_lit true rfl rfl rfl ?_); (fail_if_success refine x_lit false rfl rfl rfl ?_); refine x_gd rfl rfl rfl ?_ ?_ <;> intro _ <;> try (exfalso; first | contradiction | omega)) | refine x_nil ?_) | (first | refine t_done ?_ | refine t_all _ rfl rfl ?_ | refine allP_cons ?_ ?_ | exact allP_nil | refine t_last (by decide +kernel) ?_ | refine t_next Sub.au ?_) | fail)); all_goals (refine Zw.h ?_; apply id ⟨?_⟩)) : G := h
theorem z_gou {G : Prop} (h : G := by (repeat (first | refine j_app ?_ | refine cc ?_ | ((first | refine lms rfl rfl rfl ?_ ?_ | refine lss rfl rfl ?_ ?_ | refine lns rfl rfl rfl ?_ ?_ | refine lap rfl rfl rfl rfl rfl ?_ rfl ?_); (next => first | exact trivial | omega); intros) | refine c_true rfl ?_ | refine c_false rfl ?_ | refine c_in_other rfl ?_ | refine l_nil ?_ | refine l_skip rfl rfl rfl ?_ | refine l_skip0 rfl rfl ?_ | refine lbd rfl rfl (by kernel_rfl) rfl ?_ | (refine lsl rfl rfl rfl rfl (by kernel_rfl) rfl rfl ?_; intros) | (refine lsl0 rfl rfl ?_; intros) | (refine lix rfl (by omega) ?_; rintro _ rfl) | (refine lixr rfl (by assumption) (by omega) ?_; rintro _ _ rfl _) | (refine c_drw rfl (by decide) (by decide +kernel) ?_; (repeat (first | (refine hms rfl rfl rfl ?_ ?_; (next => first | exact trivial | omega)) | refine h_skip rfl rfl rfl ?_ | (refine hmw rfl rfl rfl ?_ ?_; (next => first | exact trivial | omega)))); refine h_nil ?_) | (refine c_drp rfl (by decide) (by decide +kernel) ?_; (repeat (first | (refine p_run rfl rfl rfl ?_ ?_; (next => first | exact trivial | omega)) | refine p_skip rfl rfl rfl ?_)); refine p_nil ?_) | (refine lmw rfl rfl rfl ?_ ?_; (next => first | exact trivial | omega)) | refine lpT rfl rfl rfl rfl ?_ | refine lpF rfl rfl rfl rfl ?_ | refine l_skipU rfl rfl rfl rfl rfl ?_)); all_goals (refine Zw.h ?_; apply id ⟨?_⟩)) : G := h
theorem z_hob {G : Prop} (h : G := by (repeat' (first | (first | (refine hms rfl rfl rfl ?_ ?_; (next => first | exact trivial | omega)) | refine hbd rfl rfl (by kernel_rfl) rfl ?_ | refine h_pT rfl rfl rfl rfl ?_ | refine h_pF rfl rfl rfl rfl ?_ | refine h_skip rfl rfl rfl ?_ | (refine hcv rfl rfl rfl ?_ ?_; (next => first | exact trivial | omega)) | ((fail_if_success refine h_lit true rfl rfl rfl ?_); (fail_if_success refine h_lit false rfl rfl rfl ?_); refine h_gd rfl rfl rfl ?_ ?_ <;> intro _ <;> try (exfalso; first | contradiction | omega)) | (refine hmw rfl rfl rfl ?_ ?_; (next => first | exact trivial | omega)) | refine h_nil ?_) | fail)); all_goals (refine Zw.h ?_; apply id ⟨?_⟩)) : G := h
theorem z_goc {G : Prop} (h : G := by (repeat' (first | (first | (first | refine j_app ?_ | refine cc ?_ | ((first | refine lms rfl rfl rfl ?_ ?_ | refine lss rfl rfl ?_ ?_ | refine lns rfl rfl rfl ?_ ?_ | refine lap rfl rfl rfl rfl rfl ?_ rfl ?_); (next => first | exact trivial | omega); intros) | refine c_true rfl ?_ | refine c_false rfl ?_ | refine c_in_other rfl ?_ | refine l_nil ?_ | refine l_skip rfl rfl rfl ?_ | refine l_skip0 rfl rfl ?_ | refine lbd rfl rfl (by kernel_rfl) rfl ?_ | (refine lsl rfl rfl rfl rfl (by kernel_rfl) rfl rfl ?_; intros) | (refine lsl0 rfl rfl ?_; intros) | (refine lix rfl (by omega) ?_; rintro _ rfl) | (refine lixr rfl (by assumption) (by omega) ?_; rintro _ _ rfl _) | (refine c_drw rfl (by decide) (by decide +kernel) ?_; (repeat (first | (refine hms rfl rfl rfl ?_ ?_; (next => first | exact trivial | omega)) | refine h_skip rfl rfl rfl ?_ | (refine hmw rfl rfl rfl ?_ ?_; (next => first | exact trivial | omega)))); refine h_nil ?_) | (refine c_drp rfl (by decide) (by decide +kernel) ?_; (repeat (first | (refine p_run rfl rfl rfl ?_ ?_; (next => first | exact trivial | omega)) | refine p_skip rfl rfl rfl ?_)); refine p_nil ?_)) | (refine lxv rfl rfl rfl ?_ ?_; (next => first | exact trivial | omega)) | refine lba rfl rfl (by kernel_rfl) rfl ?_ | (refine lcv rfl rfl rfl ?_ ?_; (next => first | exact trivial | omega)) | refine lpT rfl rfl rfl rfl ?_ | refine lpF rfl rfl rfl rfl ?_ | ((fail_if_success refine l_lit true rfl rfl rfl ?_); (fail_if_success refine l_lit false rfl rfl rfl ?_); refine l_gd rfl rfl rfl ?_ ?_ <;> intro _ <;> try (exfalso; first | contradiction | omega)) | (refine c_if rfl ?_ ?_ <;> intro _ <;> try (exfalso; first | contradiction | omega)) | (refine lmw rfl rfl rfl ?_ ?_; (next => first | exact trivial | omega))) | (first | (refine u_ms rfl rfl rfl ?_ ?_; (next => first | exact trivial | omega)) | refine u_skip rfl rfl rfl ?_ | (refine u_cv rfl rfl rfl ?_ ?_; (next => first | exact trivial | omega)) | refine u_pT rfl rfl rfl rfl ?_ | refine u_pF rfl rfl rfl rfl ?_ | refine u_bd rfl rfl (by kernel_rfl) rfl ?_ | ((fail_if_success refine u_lit true rfl rfl rfl ?_); (fail_if_success refine u_lit false rfl rfl rfl ?_); refine u_gd rfl rfl rfl ?_ ?_ <;> intro _ <;> try (exfalso; first | contradiction | omega)) | (refine u_mw rfl rfl rfl ?_ ?_; (next => first | exact trivial | omega)) | refine u_nil ?_) | (refine c_can (by decide) (by decide +kernel) ?_; intro _) | fail)); all_goals (refine Zw.h ?_; apply id ⟨?_⟩)) : G := h
theorem z_hq {G : Prop} (h : G := by (repeat (first | (refine hms rfl rfl rfl ?_ ?_; (next => first | exact trivial | omega)) | refine h_skip rfl rfl rfl ?_ | (refine hmw rfl rfl rfl ?_ ?_; (next => first | exact trivial | omega)))); all_goals (refine Zw.h ?_; apply id ⟨?_⟩)) : G := h
theorem z_hasf {G : Prop} (h : G := by (first | exact (Has.here _ _) | exact (Has.there _ (Has.here _ _)) | exact (Has.there _ (Has.there _ (Has.here _ _))) | exact (Has.there _ (Has.there _ (Has.there _ (Has.here _ _)))) | exact (Has.there _ (Has.there _ (Has.there _ (Has.there _ (Has.here _ _))))) | exact (Has.there _ (Has.there _ (Has.there _ (Has.there _ (Has.there _ (Has.here _ _)))))) | exact (Has.there _ (Has.there _ (Has.there _ (Has.there _ (Has.there _ (Has.there _ (Has.here _ _))))))) | exact (Has.there _ (Has.there _ (Has.there _ (Has.there _ (Has.there _ (Has.there _ (Has.there _ (Has.here _ _)))))))) | exact (Has.there _ (Has.there _ (Has.there _ (Has.there _ (Has.there _ (Has.there _ (Has.there _ (Has.there _ (Has.here _ _))))))))) | exact (Has.there _ (Has.there _ (Has.there _ (Has.there _ (Has.there _ (Has.there _ (Has.there _ (Has.there _ (Has.there _ (Has.here _ _)))))))))) | exact (Has.there _ (Has.there _ (Has.there _ (Has.there _ (Has.there _ (Has.there _ (Has.there _ (Has.there _ (Has.there _ (Has.there _ (Has.here _ _))))))))))) | exact (Has.there _ (Has.there _ (Has.there _ (Has.there _ (Has.there _ (Has.there _ (Has.there _ (Has.there _ (Has.there _ (Has.there _ (Has.there _ (Has.here _ _)))))))))))) | exact (Has.there _ (Has.there _ (Has.there _ (Has.there _ (Has.there _ (Has.there _ (Has.there _ (Has.there _ (Has.there _ (Has.there _ (Has.there _ (Has.there _ (Has.here _ _))))))))))))) | exact (Has.there _ (Has.there _ (Has.there _ (Has.there _ (Has.there _ (Has.there _ (Has.there _ (Has.there _ (Has.there _ (Has.there _ (Has.there _ (Has.there _ (Has.there _ (Has.here _ _))))))))))))))); all_goals (refine Zw.h ?_; apply id ⟨?_⟩)) : G := h
theorem z_hs {G : Prop} (h : G := by (repeat (first | exact .here _ _ | apply Has.there)); all_goals (refine Zw.h ?_; apply id ⟨?_⟩)) : G := h
theorem z_rk {G : Prop} (h : G := by ((repeat (first | refine k_tmp rfl ?_ | refine k_cell rfl ?_)); refine k_nil ?_); all_goals (refine Zw.h ?_; apply id ⟨?_⟩)) : G := h
theorem z_ro {G : Prop} (h : G := by (refine j_outK (.nil _) ?_; (repeat (first | refine k_tmp rfl ?_ | refine k_cell rfl ?_)); refine k_nil ?_); all_goals (refine Zw.h ?_; apply id ⟨?_⟩)) : G := h
theorem z_lk {G : Prop} (h : G := by (first | (refine t_look 0 rfl rfl rfl rfl rfl rfl ?_ ?_ ?_ ?_; (next => first | exact trivial | omega); (next => decide +kernel); (next => first | exact Sub.refl _ | exact Sub.au)) | (refine t_look 1 rfl rfl rfl rfl rfl rfl ?_ ?_ ?_ ?_; (next => first | exact trivial | omega); (next => decide +kernel); (next => first | exact Sub.refl _ | exact Sub.au)) | (refine t_look 2 rfl rfl rfl rfl rfl rfl ?_ ?_ ?_ ?_; (next => first | exact trivial | omega); (next => decide +kernel); (next => first | exact Sub.refl _ | exact Sub.au)) | (refine t_look 3 rfl rfl rfl rfl rfl rfl ?_ ?_ ?_ ?_; (next => first | exact trivial | omega); (next => decide +kernel); (next => first | exact Sub.refl _ | exact Sub.au)) | (refine t_look 4 rfl rfl rfl rfl rfl rfl ?_ ?_ ?_ ?_; (next => first | exact trivial | omega); (next => decide +kernel); (next => first | exact Sub.refl _ | exact Sub.au)) | (refine t_look 5 rfl rfl rfl rfl rfl rfl ?_ ?_ ?_ ?_; (next => first | exact trivial | omega); (next => decide +kernel); (next => first | exact Sub.refl _ | exact Sub.au)) | (refine t_look 6 rfl rfl rfl rfl rfl rfl ?_ ?_ ?_ ?_; (next => first | exact trivial | omega); (next => decide +kernel); (next => first | exact Sub.refl _ | exact Sub.au)) | (refine t_look 7 rfl rfl rfl rfl rfl rfl ?_ ?_ ?_ ?_; (next => first | exact trivial | omega); (next => decide +kernel); (next => first | exact Sub.refl _ | exact Sub.au)) | (refine t_none 0 rfl rfl rfl rfl rfl ?_ ?_ ?_; (next => decide +kernel); (next => first | exact Sub.refl _ | exact Sub.au)) | (refine t_none 1 rfl rfl rfl rfl rfl ?_ ?_ ?_; (next => decide +kernel); (next => first | exact Sub.refl _ | exact Sub.au)) | (refine t_none 2 rfl rfl rfl rfl rfl ?_ ?_ ?_; (next => decide +kernel); (next => first | exact Sub.refl _ | exact Sub.au)) | (refine t_none 3 rfl rfl rfl rfl rfl ?_ ?_ ?_; (next => decide +kernel); (next => first | exact Sub.refl _ | exact Sub.au)) | (refine t_none 4 rfl rfl rfl rfl rfl ?_ ?_ ?_; (next => decide +kernel); (next => first | exact Sub.refl _ | exact Sub.au)) | (refine t_none 5 rfl rfl rfl rfl rfl ?_ ?_ ?_; (next => decide +kernel); (next => first | exact Sub.refl _ | exact Sub.au)) | (refine t_none 6 rfl rfl rfl rfl rfl ?_ ?_ ?_; (next => decide +kernel); (next => first | exact Sub.refl _ | exact Sub.au)) | (refine t_none 7 rfl rfl rfl rfl rfl ?_ ?_ ?_; (next => decide +kernel); (next => first | exact Sub.refl _ | exact Sub.au)) | ((fail_if_success refine t_lit true rfl rfl rfl rfl rfl ?_); (fail_if_success refine t_lit false rfl rfl rfl rfl rfl ?_); refine t_gd rfl rfl rfl rfl rfl ?_ ?_ <;> intro _ <;> try (exfalso; first | contradiction | omega))); all_goals (refine Zw.h ?_; apply id ⟨?_⟩)) : G := h
theorem z_lkG {G : Prop} (h : G := by (first | (refine t_look 0 rfl rfl rfl rfl rfl rfl ?_ ?_ ?_ ?_; (next => first | exact trivial | omega); (next => decide +kernel); (next => first | exact Sub.refl _ | exact Sub.au)) | (refine t_look 1 rfl rfl rfl rfl rfl rfl ?_ ?_ ?_ ?_; (next => first | exact trivial | omega); (next => decide +kernel); (next => first | exact Sub.refl _ | exact Sub.au)) | (refine t_look 2 rfl rfl rfl rfl rfl rfl ?_ ?_ ?_ ?_; (next => first | exact trivial | omega); (next => decide +kernel); (next => first | exact Sub.refl _ | exact Sub.au)) | (refine t_look 3 rfl rfl rfl rfl rfl rfl ?_ ?_ ?_ ?_; (next => first | exact trivial | omega); (next => decide +kernel); (next => first | exact Sub.refl _ | exact Sub.au)) | (refine t_look 4 rfl rfl rfl rfl rfl rfl ?_ ?_ ?_ ?_; (next => first | exact trivial | omega); (next => decide +kernel); (next => first | exact Sub.refl _ | exact Sub.au)) | (refine t_look 5 rfl rfl rfl rfl rfl rfl ?_ ?_ ?_ ?_; (next => first | exact trivial | omega); (next => decide +kernel); (next => first | exact Sub.refl _ | exact Sub.au)) | (refine t_look 6 rfl rfl rfl rfl rfl rfl ?_ ?_ ?_ ?_; (next => first | exact trivial | omega); (next => decide +kernel); (next => first | exact Sub.refl _ | exact Sub.au)) | (refine t_look 7 rfl rfl rfl rfl rfl rfl ?_ ?_ ?_ ?_; (next => first | exact trivial | omega); (next => decide +kernel); (next => first | exact Sub.refl _ | exact Sub.au)) | (refine t_none 0 rfl rfl rfl rfl rfl ?_ ?_ ?_; (next => decide +kernel); (next => first | exact Sub.refl _ | exact Sub.au)) | (refine t_none 1 rfl rfl rfl rfl rfl ?_ ?_ ?_; (next => decide +kernel); (next => first | exact Sub.refl _ | exact Sub.au)) | (refine t_none 2 rfl rfl rfl rfl rfl ?_ ?_ ?_; (next => decide +kernel); (next => first | exact Sub.refl _ | exact Sub.au)) | (refine t_none 3 rfl rfl rfl rfl rfl ?_ ?_ ?_; (next => decide +kernel); (next => first | exact Sub.refl _ | exact Sub.au)) | (refine t_none 4 rfl rfl rfl rfl rfl ?_ ?_ ?_; (next => decide +kernel); (next => first | exact Sub.refl _ | exact Sub.au)) | (refine t_none 5 rfl rfl rfl rfl rfl ?_ ?_ ?_; (next => decide +kernel); (next => first | exact Sub.refl _ | exact Sub.au)) | (refine t_none 6 rfl rfl rfl rfl rfl ?_ ?_ ?_; (next => decide +kernel); (next => first | exact Sub.refl _ | exact Sub.au)) | (refine t_none 7 rfl rfl rfl rfl rfl ?_ ?_ ?_; (next => decide +kernel); (next => first | exact Sub.refl _ | exact Sub.au)) | ((fail_if_success refine t_litG true rfl rfl rfl rfl rfl ?_); (fail_if_success refine t_litG false rfl rfl rfl rfl rfl ?_); refine t_gd rfl rfl rfl rfl rfl ?_ ?_ <;> intro _ <;> try (exfalso; first | contradiction | omega))); all_goals (refine Zw.h ?_; apply id ⟨?_⟩)) : G := h
theorem z_xq {G : Prop} (h : G := by (repeat (first | (refine x_run rfl rfl rfl ?_ ?_; (next => first | exact trivial | omega)) | refine x_skip rfl rfl rfl ?_)); all_goals (refine Zw.h ?_; apply id ⟨?_⟩)) : G := h
theorem z_lm {G : Prop} (h : G := by ((repeat (first | (refine lms rfl rfl rfl ?_ ?_; (next => first | exact trivial | omega)) | refine lbd rfl rfl (by kernel_rfl) rfl ?_))); all_goals (refine Zw.h ?_; apply id ⟨?_⟩)) : G := h
theorem z_t {G : Prop} (h : G := by (first | refine j_app ?_ | refine cc ?_ | ((first | refine lms rfl rfl rfl ?_ ?_ | refine lss rfl rfl ?_ ?_ | refine lns rfl rfl rfl ?_ ?_ | refine lap rfl rfl rfl rfl rfl ?_ rfl ?_); (next => first | exact trivial | omega); intros) | refine c_true rfl ?_ | refine c_false rfl ?_ | refine c_in_other rfl ?_ | refine l_nil ?_ | refine l_skip rfl rfl rfl ?_ | refine l_skip0 rfl rfl ?_ | refine lbd rfl rfl (by kernel_rfl) rfl ?_ | (refine lsl rfl rfl rfl rfl (by kernel_rfl) rfl rfl ?_; intros) | (refine lsl0 rfl rfl ?_; intros) | (refine lix rfl (by omega) ?_; rintro _ rfl) | (refine lixr rfl (by assumption) (by omega) ?_; rintro _ _ rfl _) | (refine c_drw rfl (by decide) (by decide +kernel) ?_; (repeat (first | (refine hms rfl rfl rfl ?_ ?_; (next => first | exact trivial | omega)) | refine h_skip rfl rfl rfl ?_ | (refine hmw rfl rfl rfl ?_ ?_; (next => first | exact trivial | omega)))); refine h_nil ?_) | (refine c_drp rfl (by decide) (by decide +kernel) ?_; (repeat (first | (refine p_run rfl rfl rfl ?_ ?_; (next => first | exact trivial | omega)) | refine p_skip rfl rfl rfl ?_)); refine p_nil ?_) | (refine lmw rfl rfl rfl ?_ ?_; (next => first | exact trivial | omega))); all_goals (refine Zw.h ?_; apply id ⟨?_⟩)) : G := h
theorem z_t0 {G : Prop} (h : G := by (first | refine j_app ?_ | refine cc ?_ | ((first | refine lms rfl rfl rfl ?_ ?_ | refine lss rfl rfl ?_ ?_ | refine lns rfl rfl rfl ?_ ?_ | refine lap rfl rfl rfl rfl rfl ?_ rfl ?_); (next => first | exact trivial | omega); intros) | refine c_true rfl ?_ | refine c_false rfl ?_ | refine c_in_other rfl ?_ | refine l_nil ?_ | refine l_skip rfl rfl rfl ?_ | refine l_skip0 rfl rfl ?_ | refine lbd rfl rfl (by kernel_rfl) rfl ?_ | (refine lsl rfl rfl rfl rfl (by kernel_rfl) rfl rfl ?_; intros) | (refine lsl0 rfl rfl ?_; intros) | (refine lix rfl (by omega) ?_; rintro _ rfl) | (refine lixr rfl (by assumption) (by omega) ?_; rintro _ _ rfl _) | (refine c_drw rfl (by decide) (by decide +kernel) ?_; (repeat (first | (refine hms rfl rfl rfl ?_ ?_; (next => first | exact trivial | omega)) | refine h_skip rfl rfl rfl ?_ | (refine hmw rfl rfl rfl ?_ ?_; (next => first | exact trivial | omega)))); refine h_nil ?_) | (refine c_drp rfl (by decide) (by decide +kernel) ?_; (repeat (first | (refine p_run rfl rfl rfl ?_ ?_; (next => first | exact trivial | omega)) | refine p_skip rfl rfl rfl ?_)); refine p_nil ?_)); all_goals (refine Zw.h ?_; apply id ⟨?_⟩)) : G := h
theorem z_hd {G : Prop} (h : G := by (repeat (first | refine h_run rfl rfl rfl (fun K Q h => by first | exact r_move rfl rfl h | exact r_nil rfl rfl h | exact r_fieldAddr rfl rfl h | exact r_load rfl rfl (by first | exact Cell.blk (Has.here _ _) rfl | exact Cell.blk (Has.there _ (Has.here _ _)) rfl | exact Cell.blk (Has.there _ (Has.there _ (Has.here _ _))) rfl | exact Cell.blk (Has.there _ (Has.there _ (Has.there _ (Has.here _ _)))) rfl | exact Cell.blk (Has.there _ (Has.there _ (Has.there _ (Has.there _ (Has.here _ _))))) rfl | exact Cell.blk (Has.there _ (Has.there _ (Has.there _ (Has.there _ (Has.there _ (Has.here _ _)))))) rfl) rfl h | exact r_assign rfl rfl h | exact r_pickT rfl rfl rfl h | exact r_pickF rfl rfl rfl h | exact r_extract rfl rfl rfl h | exact r_len rfl rfl h | exact r_ari rfl rfl rfl (by exact ⟨by omega, by omega⟩) rfl h | exact r_rem_in rfl rfl (by omega) (by omega) rfl h | exact r_quo_in rfl rfl (by omega) (by omega) (by exact ⟨by omega, by omega⟩) rfl h | exact r_bin rfl rfl rfl rfl h | exact r_not rfl rfl h | exact r_conv_in rfl (by exact ⟨by omega, by omega⟩) rfl h | exact r_conv rfl rfl h | exact r_neg_in rfl (by exact ⟨by omega, by omega⟩) rfl h | exact r_neg rfl rfl h | exact r_shrN rfl rfl (by simp only [IntKind.bits]; omega) rfl h | exact r_shr rfl rfl (by omega) rfl h | exact r_shl rfl rfl (by omega) rfl h | exact r_min rfl rfl rfl h | exact r_max rfl rfl rfl h | exact r_eqB rfl rfl rfl h | exact r_neB rfl rfl rfl h | exact r_field rfl rfl rfl rfl h | exact r_fieldAgg rfl rfl (by simp only [List.drop, List.take]; rfl) rfl h | exact r_build rfl (by simp only [fillL, splat, Value.cells, List.getD, List.take, List.drop, List.append, List.nil_append, List.cons_append]; rfl) (by kernel_rfl) rfl h | exact r_makeFunc (fun a ha => ⟨by simp, by simp⟩) rfl h | exact r_nil0 rfl h) ?_ | refine h_skip rfl rfl rfl ?_)); all_goals (refine Zw.h ?_; apply id ⟨?_⟩)) : G := h
theorem z_go {G : Prop} (h : G := by (repeat (first | refine c_seq ?_ | refine c_region ?_ | refine c_block ?_ | refine c_skip ?_ | refine c_ret ?_ | refine c_exit ?_ | refine c_then_normal ?_ | refine c_then_ret ?_ | refine c_then_exit ?_ | refine c_in_normal ?_ | refine c_in_ret ?_ | refine c_in_exit ?_ | refine c_in_other rfl ?_ | refine l_nil ?_ | refine c_true rfl ?_ | refine c_false rfl ?_ | (refine l_run rfl ?_; (first | refine r_move rfl rfl ?_ | refine r_nil rfl rfl ?_ | refine r_fieldAddr rfl rfl ?_ | refine r_load rfl rfl (by first | exact Cell.blk (Has.here _ _) rfl | exact Cell.blk (Has.there _ (Has.here _ _)) rfl | exact Cell.blk (Has.there _ (Has.there _ (Has.here _ _))) rfl | exact Cell.blk (Has.there _ (Has.there _ (Has.there _ (Has.here _ _)))) rfl | exact Cell.blk (Has.there _ (Has.there _ (Has.there _ (Has.there _ (Has.here _ _))))) rfl | exact Cell.blk (Has.there _ (Has.there _ (Has.there _ (Has.there _ (Has.there _ (Has.here _ _)))))) rfl) rfl ?_ | refine r_assign rfl rfl ?_ | refine r_pickT rfl rfl rfl ?_ | refine r_pickF rfl rfl rfl ?_ | refine r_extract rfl rfl rfl ?_ | refine r_len rfl rfl ?_ | refine r_ari rfl rfl rfl (by exact ⟨by omega, by omega⟩) rfl ?_ | refine r_rem_in rfl rfl (by omega) (by omega) rfl ?_ | refine r_quo_in rfl rfl (by omega) (by omega) (by exact ⟨by omega, by omega⟩) rfl ?_ | refine r_bin rfl rfl rfl rfl ?_ | refine r_not rfl rfl ?_ | refine r_conv_in rfl (by exact ⟨by omega, by omega⟩) rfl ?_ | refine r_conv rfl rfl ?_ | refine r_neg_in rfl (by exact ⟨by omega, by omega⟩) rfl ?_ | refine r_neg rfl rfl ?_ | refine r_shrN rfl rfl (by simp only [IntKind.bits]; omega) rfl ?_ | refine r_shr rfl rfl (by omega) rfl ?_ | refine r_shl rfl rfl (by omega) rfl ?_ | refine r_min rfl rfl rfl ?_ | refine r_max rfl rfl rfl ?_ | refine r_eqB rfl rfl rfl ?_ | refine r_neB rfl rfl rfl ?_ | refine r_field rfl rfl rfl rfl ?_ | refine r_fieldAgg rfl rfl (by simp only [List.drop, List.take]; rfl) rfl ?_ | refine r_build rfl (by simp only [fillL, splat, Value.cells, List.getD, List.take, List.drop, List.append, List.nil_append, List.cons_append]; rfl) (by kernel_rfl) rfl ?_ | refine r_makeFunc (fun a ha => ⟨by simp, by simp⟩) rfl ?_ | refine r_nil0 rfl ?_ | (refine r_alloc rfl rfl ?_; intro) | (refine r_box rfl rfl rfl ?_; intro) | (refine r_buildSlice0 rfl ?_; intro) | (refine r_slit rfl (by simp [Value.cells]; rfl) (by rfl) (by rfl) (by kernel_rfl) (by rfl) (by rfl) ?_; intro) | refine r_store (by rfl) rfl rfl rfl (Has.here _ _) (by rfl) (by simp only [List.set]; rfl) ?_ | refine r_store (by rfl) rfl rfl rfl (Has.there _ (Has.here _ _)) (by rfl) (by simp only [List.set]; rfl) ?_ | refine r_store (by rfl) rfl rfl rfl (Has.there _ (Has.there _ (Has.here _ _))) (by rfl) (by simp only [List.set]; rfl) ?_ | refine r_store (by rfl) rfl rfl rfl (Has.there _ (Has.there _ (Has.there _ (Has.here _ _)))) (by rfl) (by simp only [List.set]; rfl) ?_ | refine r_store (by rfl) rfl rfl rfl (Has.there _ (Has.there _ (Has.there _ (Has.there _ (Has.here _ _))))) (by rfl) (by simp only [List.set]; rfl) ?_ | refine r_store (by rfl) rfl rfl rfl (Has.there _ (Has.there _ (Has.there _ (Has.there _ (Has.there _ (Has.here _ _)))))) (by rfl) (by simp only [List.set]; rfl) ?_ | refine r_store (by rfl) rfl rfl rfl (Has.there _ (Has.there _ (Has.there _ (Has.there _ (Has.there _ (Has.there _ (Has.here _ _))))))) (by rfl) (by simp only [List.set]; rfl) ?_ | refine r_store (by rfl) rfl rfl rfl (Has.there _ (Has.there _ (Has.there _ (Has.there _ (Has.there _ (Has.there _ (Has.there _ (Has.here _ _)))))))) (by rfl) (by simp only [List.set]; rfl) ?_)) | refine l_skip rfl rfl rfl ?_ | refine l_skip0 rfl rfl ?_)); all_goals (refine Zw.h ?_; apply id ⟨?_⟩)) : G := h
end Go.Proofs.Ytpmomimaihjmjaa
/- The engine: what a piece of code does, told by what some slots hold and what some blocks hold. -/
namespace Go.Proofs.Ytpmomimaihjmjaa
open Go.RowKit

/-- What slot t holds, if the list says. -/
def look : List (Nat × Value) → Nat → Option Value
  | [], _ => none
  | (k, v) :: r, t => match Nat.beq k t with | true => some v | false => look r t

/-- The activation: its slots are as the list says; N slots; deferred calls ds. -/
structure Tm (N : Nat) (ds : List Deferred) (σ : List (Nat × Value)) (a : Act) : Prop where
  size : a.tmps.size = N
  defers : a.defers = ds
  at_ : ∀ t v, look σ t = some v → a.tmps[t]? = some v

theorem look_cons (k t : Nat) (v : Value) (σ : List (Nat × Value)) : look ((k, v) :: σ) t = if k = t then some v else look σ t := by
  simp only [look]
  by_cases h : k = t
  · subst h; simp
  · rw [if_neg h]
    have : Nat.beq k t = false := by
      cases hb : Nat.beq k t with
      | false => rfl
      | true => exact absurd (Nat.eq_of_beq_eq_true hb) h
    rw [this]

theorem Tm.put {N : Nat} {ds : List Deferred} {σ : List (Nat × Value)} {a : Act} (h : Tm N ds σ a) (d : Nat) (v : Value) (hd : d < N) : Tm N ds ((d, v) :: σ) (a.put (some d) v) := by
  refine ⟨by simp [Act.put, h.size], by simp [Act.put, h.defers], fun t u ht => ?_⟩
  rw [look_cons] at ht
  simp only [Act.put, Array.getElem?_setIfInBounds]
  by_cases hk : d = t
  · subst hk
    rw [if_pos rfl] at ht ⊢
    rw [if_pos (by rw [h.size]; exact hd)]
    exact ht
  · rw [if_neg hk] at ht ⊢
    exact h.at_ t u ht
theorem Tm.put_none {N : Nat} {ds : List Deferred} {σ : List (Nat × Value)} {a : Act} (h : Tm N ds σ a) (v : Value) : Tm N ds σ (a.put none v) := h

/-- Slots that hold what the one list says hold what a part of it says. -/
def Part : List (Nat × Value) → List (Nat × Value) → Prop
  | [], _ => True
  | (k, v) :: r, σ => look σ k = some v ∧ Part r σ
theorem Part.look_ {τ σ : List (Nat × Value)} (h : Part τ σ) (t : Nat) (v : Value) (ht : look τ t = some v) : look σ t = some v := by
  induction τ with
  | nil => simp [look] at ht
  | cons x r ih =>
    obtain ⟨k, u⟩ := x
    rw [look_cons] at ht
    by_cases hk : k = t
    · rw [if_pos hk] at ht; subst hk; obtain rfl := by simpa using ht
      exact h.1
    · rw [if_neg hk] at ht; exact ih h.2 ht
theorem Tm.part {N : Nat} {ds : List Deferred} {τ σ : List (Nat × Value)} {a : Act} (h : Tm N ds σ a) (hp : Part τ σ) : Tm N ds τ a :=
  ⟨h.size, h.defers, fun t v ht => h.at_ t v (hp.look_ t v ht)⟩

/-- What an operand is. -/
def ev (σ : List (Nat × Value)) : Operand → Option Value
  | .tmp t => look σ t
  | .const v => some v
  | .global g => some (.pointer (some ⟨g, 0, none⟩))
  | .func f => some (.func (.func f) #[] #[])
theorem Tm.eval {N : Nat} {ds : List Deferred} {σ : List (Nat × Value)} {a : Act} (h : Tm N ds σ a) {x : Operand} {v : Value} (hx : ev σ x = some v) : a.eval x = v := by
  cases x with
  | tmp t =>
    have := h.at_ t v hx
    simp [Act.eval, this]
  | const u => simpa [ev, Act.eval] using hx
  | global g => simpa [ev, Act.eval] using hx
  | func f => simpa [ev, Act.eval] using hx

/-- What lies in the heap: a block, whole; or a row that append may grow. -/
inductive HE where
  | blk (b : Nat) (t : TypeId) (cs : List Value)
  | row (v : Value) (e : TypeId) (size n : Nat) (xs : List Value)
  | obj (b : Nat) (o : Obj)
  | loop (b N : Nat) (σ : List (Nat × Value)) (ps : Array Tmp) (assign body : Code) (st : LoopState) (pend : Option Code)

def HE.block : HE → Option Nat
  | .blk b _ _ => some b
  | .row v _ _ _ _ => v.ownBlock
  | .obj b _ => some b
  | .loop b _ _ _ _ _ _ _ => some b
/-- A loop's record, by what its slots are known to hold. -/
def LoopIs (N : Nat) (σ : List (Nat × Value)) (ps : Array Tmp) (assign body : Code) (st : LoopState) (pend : Option Code) (r : Loop) : Prop :=
  r.state = st ∧ r.pending = pend ∧ r.params = ps ∧ r.assign = assign ∧ r.body = body ∧ r.tmps.size = N ∧ ∀ t v, look σ t = some v → r.tmps[t]? = some v
def HE.holds (w : World) : HE → Prop
  | .blk b t cs => w.heap[b]? = some (.cells cs.toArray t (0, 0))
  | .row v e size n xs => w.ownsRow 0 e size v n xs
  | .obj b o => w.heap[b]? = some o
  | .loop b N σ ps assign body st pend => ∃ r, w.heap[b]? = some (.loop r) ∧ LoopIs N σ ps assign body st pend r

def HE.apart (x y : HE) : Prop := x.block = none ∨ x.block ≠ y.block

/-- The heap: all of these, apart from each other. -/
structure Own (H : List HE) (w : World) : Prop where
  holds : ∀ x ∈ H, x.holds w
  apart : H.Pairwise HE.apart

/-- From w0 to w just blocks of W were written, and new ones; it holds what H says, in blocks of W and new ones. -/
structure St (w0 : World) (W : Nat → Prop) (H : List HE) (w : World) : Prop where
  os : w.os = w0.os
  tape : w.tape = w0.tape
  output : w.output = w0.output
  size : w0.heap.size ≤ w.heap.size
  old : ∀ b, b < w0.heap.size → ¬ W b → w.heap[b]? = w0.heap[b]?
  own : Own H w
  mine : ∀ x ∈ H, ∀ b, x.block = some b → W b ∨ w0.heap.size ≤ b

def blocks (H : List HE) (b : Nat) : Prop := ∃ x ∈ H, x.block = some b

theorem HE.apart_symm {x y : HE} (h : x.apart y) : y.apart x := by
  rcases h with h | h
  · by_cases hy : y.block = none
    · exact .inl hy
    · exact .inr (by rw [h]; exact hy)
  · exact .inr (Ne.symm h)

theorem HE.lt {x : HE} {w : World} (h : x.holds w) {b : Nat} (hb : x.block = some b) : b < w.heap.size := by
  have key : ∀ (g : Nat) (o : Obj), w.heap[g]? = some o → g < w.heap.size := fun g o hg => (Array.getElem?_eq_some_iff.1 hg).1
  cases x with
  | blk g t cs => simp only [HE.block, Option.some.injEq] at hb; subst hb; exact key _ _ h
  | row v e size n xs =>
    rcases h.2 with ⟨rfl, _⟩ | ⟨g, cap, cur, rfl, _, hg, _⟩
    · simp [HE.block, Value.ownBlock] at hb
    · simp only [HE.block, Value.ownBlock, Option.some.injEq] at hb; subst hb; exact key _ _ hg
  | obj g o => simp only [HE.block, Option.some.injEq] at hb; subst hb; exact key _ _ h
  | loop g N σ ps assign body st pend => simp only [HE.block, Option.some.injEq] at hb; subst hb; obtain ⟨r, hr, _⟩ := h; exact key _ _ hr

theorem HE.keep {x : HE} {w w' : World} (h : x.holds w) (hk : ∀ b, x.block = some b → w'.heap[b]? = w.heap[b]?) : x.holds w' := by
  cases x with
  | blk g t cs => exact (hk g rfl).trans h
  | row v e size n xs =>
    refine ⟨h.1, ?_⟩
    rcases h.2 with h0 | ⟨g, cap, cur, rfl, hb, hg, hr⟩
    · exact .inl h0
    · exact .inr ⟨g, cap, cur, rfl, hb, (hk g rfl).trans hg, hr⟩
  | obj g o => exact (hk g rfl).trans h
  | loop g N σ ps assign body st pend => obtain ⟨r, hr, h2⟩ := h; exact ⟨r, (hk g rfl).trans hr, h2⟩

theorem St.start {H : List HE} {w : World} (h : Own H w) : St w (blocks H) H w :=
  ⟨rfl, rfl, rfl, Nat.le_refl _, fun _ _ _ => rfl, h, fun x hx b hb => .inl ⟨x, hx, hb⟩⟩

/-- Taking one out of the list. -/
inductive Has : List HE → HE → List HE → Prop
  | here (x : HE) (r : List HE) : Has (x :: r) x r
  | there (y : HE) {r : List HE} {x : HE} {r' : List HE} (h : Has r x r') : Has (y :: r) x (y :: r')
theorem Has.perm {H : List HE} {x : HE} {R : List HE} (h : Has H x R) : H.Perm (x :: R) := by
  induction h with
  | here => exact .refl _
  | there y _ ih => exact ((ih.cons y).trans (.swap _ _ _))
/-- A part of the list. -/
inductive Sub : List HE → List HE → Prop
  | nil (H : List HE) : Sub [] H
  | cons {x : HE} {S H R : List HE} (h : Has H x R) (k : Sub S R) : Sub (x :: S) H
/-- A part of the list, and what is left. -/
inductive Split : List HE → List HE → List HE → Prop
  | nil (H : List HE) : Split H [] H
  | cons {x : HE} {S H R T : List HE} (h : Has H x R) (k : Split R S T) : Split H (x :: S) T
theorem Split.perm {H S R : List HE} (h : Split H S R) : H.Perm (S ++ R) := by
  induction h with
  | nil => exact .refl _
  | cons h _ ih => exact h.perm.trans (ih.cons _)
theorem Sub.split {S H : List HE} (h : Sub S H) : ∃ R, Split H S R := by
  induction h with
  | nil H => exact ⟨H, .nil H⟩
  | cons h _ ih => exact let ⟨R, hr⟩ := ih; ⟨R, .cons h hr⟩

theorem Sub.skip {S H : List HE} (h : Sub S H) (y : HE) : Sub S (y :: H) := by
  induction h generalizing y with
  | nil H => exact .nil _
  | cons h _ ih => exact .cons (.there y h) (ih y)
theorem Sub.refl (H : List HE) : Sub H H := by
  induction H with
  | nil => exact .nil _
  | cons x r ih => exact .cons (.here x r) ih
theorem Split.refl (H : List HE) : Split H H [] := by
  induction H with
  | nil => exact .nil _
  | cons x r ih => exact .cons (.here x r) ih
theorem Own.perm {H H' : List HE} {w : World} (h : Own H w) (hp : H.Perm H') : Own H' w :=
  ⟨fun x hx => h.holds x (hp.mem_iff.2 hx), (hp.pairwise_iff fun hxy => HE.apart_symm hxy).1 h.apart⟩
theorem St.perm {w0 w : World} {W : Nat → Prop} {H H' : List HE} (h : St w0 W H w) (hp : H.Perm H') : St w0 W H' w :=
  ⟨h.os, h.tape, h.output, h.size, h.old, h.own.perm hp, fun x hx => h.mine x (hp.mem_iff.2 hx)⟩
theorem St.left {w0 w : World} {W : Nat → Prop} {S R : List HE} (h : St w0 W (S ++ R) w) : St w0 W S w :=
  ⟨h.os, h.tape, h.output, h.size, h.old, ⟨fun x hx => h.own.holds x (List.mem_append_left _ hx), (List.pairwise_append.1 h.own.apart).1⟩, fun x hx => h.mine x (List.mem_append_left _ hx)⟩
theorem St.sub {w0 w : World} {W : Nat → Prop} {S H : List HE} (h : St w0 W H w) (hs : Sub S H) : St w0 W S w :=
  let ⟨_, hr⟩ := hs.split
  (h.perm hr.perm).left

/-- Behind a call that was given a part of the list. -/
theorem St.call {w0 w w' : World} {W : Nat → Prop} {H S R S' : List HE} (h : St w0 W H w) (hs : Split H S R) (k : St w (blocks S) S' w') : St w0 W (S' ++ R) w' := by
  have h1 := h.perm hs.perm
  have hdis : ∀ x ∈ R, ∀ b, x.block = some b → ¬ blocks S b := by
    rintro x hx b hb ⟨y, hy, hyb⟩
    have := (List.pairwise_append.1 h1.own.apart).2.2 y hy x hx
    rcases this with h0 | h0
    · rw [h0] at hyb; cases hyb
    · exact h0 (by rw [hyb, hb])
  have hlt : ∀ x ∈ R, ∀ b, x.block = some b → b < w.heap.size := fun x hx b hb => HE.lt (h1.own.holds x (List.mem_append_right _ hx)) hb
  refine ⟨k.os.trans h.os, k.tape.trans h.tape, k.output.trans h.output, Nat.le_trans h.size k.size, fun b hb hW => ?_, ⟨fun x hx => ?_, ?_⟩, fun x hx b hb => ?_⟩
  · by_cases hS : blocks S b
    · obtain ⟨y, hy, hyb⟩ := hS
      rcases h1.mine y (List.mem_append_left _ hy) b hyb with h0 | h0
      · exact absurd h0 hW
      · omega
    · exact (k.old b (Nat.lt_of_lt_of_le hb h.size) hS).trans (h.old b hb hW)
  · rcases List.mem_append.1 hx with hx | hx
    · exact k.own.holds x hx
    · exact HE.keep (h1.own.holds x (List.mem_append_right _ hx)) fun b hb => k.old b (hlt x hx b hb) (hdis x hx b hb)
  · refine List.pairwise_append.2 ⟨k.own.apart, (List.pairwise_append.1 h1.own.apart).2.1, fun x hx y hy => ?_⟩
    cases hxb : x.block with
    | none => exact .inl hxb
    | some b =>
      refine .inr fun he => ?_
      rw [hxb] at he
      rcases k.mine x hx b hxb with h0 | h0
      · exact hdis y hy b he.symm h0
      · have := hlt y hy b he.symm; omega
  · rcases List.mem_append.1 hx with hx | hx
    · rcases k.mine x hx b hb with ⟨y, hy, hyb⟩ | h0
      · exact h1.mine y (List.mem_append_left _ hy) b hyb
      · exact .inr (Nat.le_trans h.size h0)
    · exact h1.mine x (List.mem_append_right _ hx) b hb

theorem St.drew {w0 w : World} {W : Nat → Prop} {H : List HE} (h : St w0 W H w) : St w0 W H { w with drawn := w.drawn + 1 } :=
  ⟨h.os, h.tape, h.output, h.size, h.old, ⟨fun x hx => HE.keep (h.own.holds x hx) fun _ _ => rfl, h.own.apart⟩, h.mine⟩

/-- A new block. -/
theorem St.alloc {w0 w : World} {W : Nat → Prop} {H : List HE} (h : St w0 W H w) (cs : List Value) (t : TypeId) : St w0 W (.blk w.heap.size t cs :: H) (w.alloc (.cells cs.toArray t)) := by
  refine ⟨h.os, h.tape, h.output, Nat.le_trans h.size (by simp), fun b hb hW => (Below.heap_alloc w _ b (Nat.lt_of_lt_of_le hb h.size)).trans (h.old b hb hW), ⟨fun x hx => ?_, ?_⟩, fun x hx b hb => ?_⟩
  · rcases List.mem_cons.1 hx with rfl | hx
    · exact heap_alloc_new w _
    · exact HE.keep (h.own.holds x hx) fun b hb => Below.heap_alloc w _ b (HE.lt (h.own.holds x hx) hb)
  · refine List.pairwise_cons.2 ⟨fun y hy => .inr fun he => ?_, h.own.apart⟩
    have := HE.lt (h.own.holds y hy) he.symm
    simp at this
  · rcases List.mem_cons.1 hx with rfl | hx
    · simp only [HE.block, Option.some.injEq] at hb; subst hb; exact .inr h.size
    · exact h.mine x hx b hb

/-- What is known of one block turns, and no other block. -/
theorem St.turn {w0 w w' : World} {W : Nat → Prop} {H R : List HE} {x y : HE} (h : St w0 W H w) (hx : Has H x R) (hy : y.holds w')
    (hos : w'.os = w.os) (ht : w'.tape = w.tape) (ho : w'.output = w.output) (hsz : w.heap.size ≤ w'.heap.size)
    (hk : ∀ b, b < w.heap.size → x.block ≠ some b → w'.heap[b]? = w.heap[b]?) (hb : y.block = x.block ∨ ∃ b, y.block = some b ∧ w.heap.size ≤ b) : St w0 W (y :: R) w' := by
  have h1 := h.perm hx.perm
  have hap := List.pairwise_cons.1 h1.own.apart
  have hne : ∀ z ∈ R, ∀ b, z.block = some b → x.block ≠ some b := fun z hz b hzb he => by
    rcases hap.1 z hz with h0 | h0
    · rw [h0] at he; cases he
    · exact h0 (he.trans hzb.symm)
  have hlt : ∀ z ∈ R, ∀ b, z.block = some b → b < w.heap.size := fun z hz b hzb => HE.lt (h1.own.holds z (List.mem_cons_of_mem _ hz)) hzb
  refine ⟨hos.trans h.os, ht.trans h.tape, ho.trans h.output, Nat.le_trans h.size hsz, fun b hb hW => ?_, ⟨fun z hz => ?_, ?_⟩, fun z hz b hzb => ?_⟩
  · by_cases hxb : x.block = some b
    · rcases h1.mine x (List.mem_cons_self ..) b hxb with h0 | h0
      · exact absurd h0 hW
      · omega
    · exact (hk b (Nat.lt_of_lt_of_le hb h.size) hxb).trans (h.old b hb hW)
  · rcases List.mem_cons.1 hz with rfl | hz
    · exact hy
    · exact HE.keep (h1.own.holds z (List.mem_cons_of_mem _ hz)) fun b hzb => hk b (hlt z hz b hzb) (hne z hz b hzb)
  · refine List.pairwise_cons.2 ⟨fun z hz => ?_, hap.2⟩
    rcases hb with hb | ⟨b, hyb, hge⟩
    · rcases hap.1 z hz with h0 | h0
      · exact .inl (hb.trans h0)
      · exact .inr (by rw [hb]; exact h0)
    · refine .inr fun he => ?_
      have := hlt z hz b (he.symm.trans hyb)
      omega
  · rcases List.mem_cons.1 hz with rfl | hz
    · rcases hb with hb | ⟨b', hyb, hge⟩
      · exact h1.mine x (List.mem_cons_self ..) b (hb.symm.trans hzb)
      · rw [hyb] at hzb; injection hzb with hzb; subst hzb; exact .inr (Nat.le_trans h.size hge)
    · exact h1.mine z (List.mem_cons_of_mem _ hz) b hzb
end Go.Proofs.Ytpmomimaihjmjaa
/- The engine: rules for code, and for operations that leave memory alone. -/
namespace Go.Proofs.Ytpmomimaihjmjaa
open Go.RowKit

/-- Whatever the activation and the world, told by these lists: Q. -/
def J (N : Nat) (ds : List Deferred) (w0 : World) (W : Nat → Prop) (σ : List (Nat × Value)) (H : List HE) (Q : Act → World → Prop) : Prop :=
  ∀ a w, Tm N ds σ a → St w0 W H w → Q a w

/-- The fence lets all in. -/
structure Wd (F : Fence) : Prop where
  fn : ∀ f, F.fn f
  depth : F.depth = none
theorem wd_wide : Wd Fence.wide := ⟨fun _ => trivial, rfl⟩
theorem Wd.round {F : Fence} (h : Wd F) (l : Nat) : Wd (F.inRound l) := ⟨h.fn, h.depth⟩

section code
variable {F : Fence} {n : Nat} {P : Program} {N : Nat} {ds : List Deferred} {w0 : World} {W : Nat → Prop} {σ : List (Nat × Value)} {H : List HE} {Q K : Exit → Act → World → Prop} {k : Act → World → Prop}

theorem J.mono {Q Q' : Act → World → Prop} (h : J N ds w0 W σ H Q) (hq : ∀ a w, Q a w → Q' a w) : J N ds w0 W σ H Q' := fun a w ha hw => hq a w (h a w ha hw)
theorem c_seq {x y : Code} (h : J N ds w0 W σ H (x.wpIn F n P (Exit.then (y.wpIn F n P Q) Q))) : J N ds w0 W σ H ((Code.seq x y).wpIn F n P Q) :=
  fun a w ha hw => wpIn_seq (h a w ha hw)
theorem c_skip (h : J N ds w0 W σ H (Q .normal)) : J N ds w0 W σ H (Code.skip.wpIn F n P Q) := fun a w ha hw => wpIn_skip (h a w ha hw)
theorem c_ret (h : J N ds w0 W σ H (Q .ret)) : J N ds w0 W σ H (Code.ret.wpIn F n P Q) := fun a w ha hw => wpIn_ret (h a w ha hw)
theorem c_exit {id : Nat} (h : J N ds w0 W σ H (Q (.exit id))) : J N ds w0 W σ H ((Code.exit id).wpIn F n P Q) := fun a w ha hw => wpIn_exit (h a w ha hw)
theorem c_block {id : Nat} {c : Code} (h : J N ds w0 W σ H (c.wpIn F n P (Exit.inBlock id Q))) : J N ds w0 W σ H ((Code.block id c).wpIn F n P Q) := fun a w ha hw => wpIn_block (h a w ha hw)
theorem c_cond {c : Operand} {x y : Code} {e : Bool} (hc : ev σ c = some (.bool e)) (ht : e = true → J N ds w0 W σ H (x.wpIn F n P Q)) (hf : e = false → J N ds w0 W σ H (y.wpIn F n P Q)) :
    J N ds w0 W σ H ((Code.cond c x y).wpIn F n P Q) :=
  fun a w ha hw => wpIn_cond_split (ha.eval hc) (fun h => ht h a w ha hw) (fun h => hf h a w ha hw)
theorem c_true {c : Operand} {x y : Code} (hc : ev σ c = some (.bool true)) (ht : J N ds w0 W σ H (x.wpIn F n P Q)) : J N ds w0 W σ H ((Code.cond c x y).wpIn F n P Q) :=
  fun a w ha hw => wpIn_cond_true (ha.eval hc) (ht a w ha hw)
theorem c_false {c : Operand} {x y : Code} (hc : ev σ c = some (.bool false)) (hf : J N ds w0 W σ H (y.wpIn F n P Q)) : J N ds w0 W σ H ((Code.cond c x y).wpIn F n P Q) :=
  fun a w ha hw => wpIn_cond_false (ha.eval hc) (hf a w ha hw)
theorem c_region {id : Nat} {l : List Oper} (h : J N ds w0 W σ H (wpListIn F n P l.toArray Q l)) : J N ds w0 W σ H ((Code.region id l.toArray false).wpIn F n P Q) :=
  fun a w ha hw => wpIn_region_lit (h a w ha hw)
theorem c_then_normal (h : J N ds w0 W σ H k) : J N ds w0 W σ H (Exit.then k Q .normal) := h
theorem c_then_ret (h : J N ds w0 W σ H (Q .ret)) : J N ds w0 W σ H (Exit.then k Q .ret) := h
theorem c_then_exit {id : Nat} (h : J N ds w0 W σ H (Q (.exit id))) : J N ds w0 W σ H (Exit.then k Q (.exit id)) := h
theorem c_in_normal {id : Nat} (h : J N ds w0 W σ H (Q .normal)) : J N ds w0 W σ H (Exit.inBlock id Q .normal) := h
theorem c_in_ret {id : Nat} (h : J N ds w0 W σ H (Q .ret)) : J N ds w0 W σ H (Exit.inBlock id Q .ret) := h
theorem c_in_exit {id : Nat} (h : J N ds w0 W σ H (Q .normal)) : J N ds w0 W σ H (Exit.inBlock id Q (.exit id)) := fun a w ha hw => by
  simp only [Exit.inBlock, if_pos]; exact h a w ha hw
theorem c_in_other {id id' : Nat} (hne : Nat.beq id' id = false) (h : J N ds w0 W σ H (Q (.exit id'))) : J N ds w0 W σ H (Exit.inBlock id Q (.exit id')) := fun a w ha hw => by
  have : ¬ id' = id := fun e => by subst e; simp at hne
  simp only [Exit.inBlock, if_neg this]; exact h a w ha hw

/-- A loop: what holds at each head; a measure that each round lowers. -/
theorem c_loop {c : Code} {X : Type} (R : X → Prop) (σI : X → List (Nat × Value)) (HI : X → List HE) (μ : X → Nat) (x0 : X) (h0 : R x0) (hp : Part (σI x0) σ) (hs : Sub (HI x0) H)
    (round : ∀ x, R x → J N ds w0 W (σI x) (HI x) (c.wpIn F n P (Exit.then (fun a w => ∃ y, R y ∧ μ y < μ x ∧ Tm N ds (σI y) a ∧ St w0 W (HI y) w) Q))) :
    J N ds w0 W σ H ((Code.loop c).wpIn F n P Q) := by
  intro a w ha hw
  have key : ∀ x a w, R x → Tm N ds (σI x) a → St w0 W (HI x) w → (Code.loop c).wpIn F n P Q a w := by
      intro x a w hR ha hw
      let p : Act → World → Nat → Prop := fun a' w' k => ∃ y, μ y = k ∧ R y ∧ Tm N ds (σI y) a' ∧ St w0 W (HI y) w'
      refine wpIn_loop (fun a' w' => ∃ k, p a' w' k) (fun a' w' => leastOf (p a' w')) ⟨_, x, rfl, hR, ha, hw⟩ ?_
      rintro a1 w1 hex
      obtain ⟨⟨z, hz, hzR, hza, hzw⟩, -⟩ := leastOf_spec hex
      refine wpIn_mono (round z hzR a1 w1 hza hzw) ?_
      rintro e a2 w2 hq
      cases e with
      | normal =>
        obtain ⟨y2, h1, h2, h3, h4⟩ := hq
        have hex2 : ∃ k, p a2 w2 k := ⟨_, y2, rfl, h1, h3, h4⟩
        have := (leastOf_spec hex2).2 _ ⟨y2, rfl, h1, h3, h4⟩
        exact ⟨hex2, by omega⟩
      | _ => exact hq
  exact key x0 a w h0 (ha.part hp) (hw.sub hs)

/-- The same, the deferred calls turning from round to round. -/
theorem c_loopD {c : Code} {X : Type} (R : X → Prop) (DS : X → List Deferred) (σI : X → List (Nat × Value)) (HI : X → List HE) (μ : X → Nat) (x0 : X) (h0 : R x0) (hds : DS x0 = ds) (hp : Part (σI x0) σ) (hs : Sub (HI x0) H)
    (round : ∀ x, R x → J N (DS x) w0 W (σI x) (HI x) (c.wpIn F n P (Exit.then (fun a w => ∃ y, R y ∧ μ y < μ x ∧ Tm N (DS y) (σI y) a ∧ St w0 W (HI y) w) Q))) :
    J N ds w0 W σ H ((Code.loop c).wpIn F n P Q) := by
  subst hds
  intro a w ha hw
  have key : ∀ x a w, R x → Tm N (DS x) (σI x) a → St w0 W (HI x) w → (Code.loop c).wpIn F n P Q a w := by
      intro x a w hR ha hw
      let p : Act → World → Nat → Prop := fun a' w' k => ∃ y, μ y = k ∧ R y ∧ Tm N (DS y) (σI y) a' ∧ St w0 W (HI y) w'
      refine wpIn_loop (fun a' w' => ∃ k, p a' w' k) (fun a' w' => leastOf (p a' w')) ⟨_, x, rfl, hR, ha, hw⟩ ?_
      rintro a1 w1 hex
      obtain ⟨⟨z, hz, hzR, hza, hzw⟩, -⟩ := leastOf_spec hex
      refine wpIn_mono (round z hzR a1 w1 hza hzw) ?_
      rintro e a2 w2 hq
      cases e with
      | normal =>
        obtain ⟨y2, h1, h2, h3, h4⟩ := hq
        have hex2 : ∃ k, p a2 w2 k := ⟨_, y2, rfl, h1, h3, h4⟩
        have := (leastOf_spec hex2).2 _ ⟨y2, rfl, h1, h3, h4⟩
        exact ⟨hex2, by omega⟩
      | _ => exact hq
  exact key x0 a w h0 (ha.part hp) (hw.sub hs)
theorem c_roundD {X : Type} {R M : X → Prop} {DS : X → List Deferred} {σI : X → List (Nat × Value)} {HI : X → List HE} (y : X) (hR : R y) (hμ : M y) (hds : DS y = ds) (hp : Part (σI y) σ) (hs : Sub (HI y) H) :
    J N ds w0 W σ H (fun a w => ∃ y, R y ∧ M y ∧ Tm N (DS y) (σI y) a ∧ St w0 W (HI y) w) :=
  fun _ _ ha hw => ⟨y, hR, hμ, by rw [hds]; exact ha.part hp, hw.sub hs⟩
/-- The round's end. -/
theorem c_round {X : Type} {R M : X → Prop} {σI : X → List (Nat × Value)} {HI : X → List HE} (y : X) (hR : R y) (hμ : M y) (hp : Part (σI y) σ) (hs : Sub (HI y) H) :
    J N ds w0 W σ H (fun a w => ∃ y, R y ∧ M y ∧ Tm N ds (σI y) a ∧ St w0 W (HI y) w) :=
  fun _ _ ha hw => ⟨y, hR, hμ, ha.part hp, hw.sub hs⟩
end code
end Go.Proofs.Ytpmomimaihjmjaa
/- The engine: rules for operations that leave memory alone, and loads. -/
namespace Go.Proofs.Ytpmomimaihjmjaa
open Go.RowKit

/-- The fence lets all in, as an instance. -/
class Wide (F : Fence) : Prop where out : Wd F
class Und (P : Program) (t : TypeId) (d : outParam TypeDesc) : Prop where h : P.underlying t = some d
class Inf (P : Program) (t : TypeId) (size bytes : outParam Nat) (z : outParam Value) : Prop where h : ∃ i, P.info? t = some i ∧ i.zero = some z ∧ i.size = size ∧ i.bytes = bytes
class Cl (P : Program) (f : FuncId) : Prop where h : ∀ args w, (callFunc f args).run P w = .ok (.enter f args) w
/-- Field f of struct type s lies from cell off on. -/
class Fa (P : Program) (s f : Nat) (off : outParam Nat) : Prop where h : ∃ fs fld i, P.underlying s = some (.struct fs) ∧ fs[f]? = some fld ∧ P.info? fld.type = some i ∧ i.size ≠ 0 ∧ fld.offset = off

def aggB : TypeDesc → Bool
  | .struct _ | .array _ _ => true
  | _ => false

/-- Is an operation's guard met? -/
def wantd (ops : Array Oper) (σ : List (Nat × Value)) (o : Oper) : Option Bool :=
  match o.guard with
  | none => some true
  | some (j, b) =>
    match (ops[j]?).bind (·.dst) with
    | some t => match look σ t with
      | some (.bool c) => some (c == b)
      | some (.tuple _) => some false
      | _ => none
    | none => none

def OJ (F : Fence) (n : Nat) (P : Program) (N : Nat) (ds : List Deferred) (w0 : World) (W : Nat → Prop) (σ : List (Nat × Value)) (H : List HE) (o : Oper) (K : Act → World → Prop) (Q : Exit → Act → World → Prop) : Prop :=
  J N ds w0 W σ H (fun a w => o.wpIn F n P a w K Q)

section
variable {F : Fence} {n : Nat} {P : Program} {N : Nat} {ds : List Deferred} {w0 : World} {W : Nat → Prop} {σ : List (Nat × Value)} {H : List HE} {Q : Exit → Act → World → Prop} {K : Act → World → Prop}
variable {ops : Array Oper} {rest : List Oper} {o : Oper}

theorem wanted_of {e : Bool} {a : Act} (ha : Tm N ds σ a) (hw : wantd ops σ o = some e) : Region.wanted o (yielded ops a.tmps) = e := by
  unfold wantd at hw
  unfold Region.wanted
  cases hg : o.guard with
  | none => simp [hg] at hw; simp [hw]
  | some g =>
    obtain ⟨j, b⟩ := g
    simp only [hg] at hw ⊢
    cases ht : (ops[j]?).bind (·.dst) with
    | none => simp [ht] at hw
    | some t =>
      simp only [ht] at hw
      cases hl : look σ t with
      | none => simp [hl] at hw
      | some v =>
        simp only [hl] at hw
        cases v <;> simp at hw
        case bool c =>
          have hc := ha.at_ t _ hl
          simp only [yielded, ht, Option.bind_some, hc]
          rw [← hw]
          cases c <;> cases b <;> rfl
        case tuple vs =>
          have hc := ha.at_ t _ hl
          simp only [yielded, ht, Option.bind_some, hc]
          rw [hw]; rfl

theorem l_nil (h : J N ds w0 W σ H (Q .normal)) : J N ds w0 W σ H (wpListIn F n P ops Q []) := fun a w ha hw => wpListIn_nil (h a w ha hw)
theorem l_run (hw : wantd ops σ o = some true) (h : OJ F n P N ds w0 W σ H o (wpListIn F n P ops Q rest) Q) : J N ds w0 W σ H (wpListIn F n P ops Q (o :: rest)) :=
  fun a w ha hs => wpListIn_step fun K hK => by
    rw [if_pos (wanted_of ha hw)]
    exact Oper.wpIn_mono hK (h a w ha hs)
theorem l_skip [hF : Wide F] {d : Nat} (hw : wantd ops σ o = some false) (hd : o.dst = some d) (hdN : Nat.blt d N = true) (h : J N ds w0 W ((d, undef) :: σ) H (wpListIn F n P ops Q rest)) : J N ds w0 W σ H (wpListIn F n P ops Q (o :: rest)) :=
  fun a w ha hs => wpListIn_step fun K hK => by
    rw [wanted_of ha hw]
    refine ⟨fun f _ => hF.out.fn f, hK _ _ ?_⟩
    rw [hd]
    exact h _ _ (ha.put d undef (by simpa using hdN)) hs
theorem l_skip0 [hF : Wide F] (hw : wantd ops σ o = some false) (hd : o.dst = none) (h : J N ds w0 W σ H (wpListIn F n P ops Q rest)) : J N ds w0 W σ H (wpListIn F n P ops Q (o :: rest)) :=
  fun a w ha hs => wpListIn_step fun K hK => by
    rw [wanted_of ha hw]
    refine ⟨fun f _ => hF.out.fn f, hK _ _ ?_⟩
    rw [hd]
    exact h _ _ (ha.put_none undef) hs

/-- A slot that holds a truth value, taken both ways. -/
theorem j_case (t : Nat) {c : Bool} {q : Act → World → Prop} (hl : look σ t = some (.bool c)) (ht : c = true → J N ds w0 W ((t, .bool true) :: σ) H q) (hf : c = false → J N ds w0 W ((t, .bool false) :: σ) H q) : J N ds w0 W σ H q := by
  intro a w ha hw
  cases c with
  | true =>
    refine ht rfl a w ⟨ha.size, ha.defers, fun s v hs => ?_⟩ hw
    rw [look_cons] at hs
    by_cases h : t = s
    · subst h; rw [if_pos rfl] at hs; obtain rfl := by simpa using hs
      exact ha.at_ t _ hl
    · rw [if_neg h] at hs; exact ha.at_ s v hs
  | false =>
    refine hf rfl a w ⟨ha.size, ha.defers, fun s v hs => ?_⟩ hw
    rw [look_cons] at hs
    by_cases h : t = s
    · subst h; rw [if_pos rfl] at hs; obtain rfl := by simpa using hs
      exact ha.at_ t _ hl
    · rw [if_neg h] at hs; exact ha.at_ s v hs
/-- A slot's value, told otherwise. -/
theorem j_set (t : Nat) (v : Value) {q : Act → World → Prop} (hl : look σ t = some v) {v' : Value} (he : v = v') (h : J N ds w0 W ((t, v') :: σ) H q) : J N ds w0 W σ H q := by
  subst he
  intro a w ha hw
  refine h a w ⟨ha.size, ha.defers, fun s u hs => ?_⟩ hw
  rw [look_cons] at hs
  by_cases h : t = s
  · subst h; rw [if_pos rfl] at hs; obtain rfl := by simpa using hs
    exact ha.at_ t _ hl
  · rw [if_neg h] at hs; exact ha.at_ s u hs
/-- The heap's list, told otherwise. -/
theorem j_perm {H' : List HE} {q : Act → World → Prop} (hp : Sub H' H) (h : J N ds w0 W σ H' q) : J N ds w0 W σ H q := fun a w ha hw => h a w ha (hw.sub hp)

theorem o_val [hF : Wide F] {d : Nat} {v : Value} (hnd : ∀ c, o.op ≠ .defer c) (hd : o.dst = some d) (hdN : Nat.blt d N = true)
    (hrun : ∀ a w, Tm N ds σ a → St w0 W H w → (execOp a.eval o).run P w = .ok (.value v) w) (h : J N ds w0 W ((d, v) :: σ) H K) : OJ F n P N ds w0 W σ H o K Q := by
  intro a w ha hw
  refine ⟨fun f _ => hF.out.fn f, ?_⟩
  rw [Oper.semAt_plain F _ _ hnd, hrun a w ha hw, Oper.uponIn_value, hd]
  exact h _ _ (ha.put d v (by simpa using hdN)) hw

variable {d : Nat} {ty : TypeId} {pos : String} {aft : Array Edge} {gd : Option (Nat × Bool)}

theorem r_move [Wide F] {x : Operand} {v : Value} (hx : ev σ x = some v) (hdN : Nat.blt d N = true) (h : J N ds w0 W ((d, v) :: σ) H K) : OJ F n P N ds w0 W σ H ⟨some d, .move x, ty, pos, aft, gd⟩ K Q :=
  o_val (by simp) rfl hdN (fun a w ha _ => by simp [execOp, ha.eval hx]) h
theorem r_assign [Wide F] {x : Operand} {v : Value} (hx : ev σ x = some v) (hdN : Nat.blt d N = true) (h : J N ds w0 W ((d, v) :: σ) H K) : OJ F n P N ds w0 W σ H ⟨some d, .assign x, ty, pos, aft, gd⟩ K Q :=
  o_val (by simp) rfl hdN (fun a w ha _ => by simp [execOp, ha.eval hx]) h
theorem r_pickT [Wide F] {c x y : Operand} {v : Value} (hc : ev σ c = some (.bool true)) (hx : ev σ x = some v) (hdN : Nat.blt d N = true) (h : J N ds w0 W ((d, v) :: σ) H K) : OJ F n P N ds w0 W σ H ⟨some d, .pick c x y, ty, pos, aft, gd⟩ K Q :=
  o_val (by simp) rfl hdN (fun a w ha _ => by simp [execOp, ha.eval hx, ha.eval hc, asBool]) h
theorem r_pickF [Wide F] {c x y : Operand} {v : Value} (hc : ev σ c = some (.bool false)) (hx : ev σ y = some v) (hdN : Nat.blt d N = true) (h : J N ds w0 W ((d, v) :: σ) H K) : OJ F n P N ds w0 W σ H ⟨some d, .pick c x y, ty, pos, aft, gd⟩ K Q :=
  o_val (by simp) rfl hdN (fun a w ha _ => by simp [execOp, ha.eval hx, ha.eval hc, asBool]) h
theorem r_nil [Wide F] {x : Operand} {p : Addr} (hx : ev σ x = some (.pointer (some p))) (hdN : Nat.blt d N = true) (h : J N ds w0 W ((d, .pointer (some p)) :: σ) H K) : OJ F n P N ds w0 W σ H ⟨some d, .nilCheck x, ty, pos, aft, gd⟩ K Q :=
  o_val (by simp) rfl hdN (fun a w ha _ => by simp [execOp, ha.eval hx]) h
theorem r_nil0 [hF : Wide F] {x : Operand} {p : Addr} (hx : ev σ x = some (.pointer (some p))) (h : J N ds w0 W σ H K) : OJ F n P N ds w0 W σ H ⟨none, .nilCheck x, ty, pos, aft, gd⟩ K Q := by
  intro a w ha hw
  refine ⟨fun f _ => hF.out.fn f, ?_⟩
  rw [Oper.semAt_plain F _ _ (by simp)]
  simp [execOp, ha.eval hx, Oper.uponIn]
  exact h _ _ (ha.put_none _) hw

/-- Two ints of one kind. -/
def binv (op : BinOp) (k : IntKind) (a b : Int) : Option Value :=
  match op with
  | .add => some (.int k (k.wrap (a + b)))
  | .sub => some (.int k (k.wrap (a - b)))
  | .mul => some (.int k (k.wrap (a * b)))
  | .and => some (.int k (bits .and k a b))
  | .or => some (.int k (bits .or k a b))
  | .xor => some (.int k (bits .xor k a b))
  | .andNot => some (.int k (bits .andNot k a b))
  | .eql => some (.bool (a == b))
  | .neq => some (.bool (a != b))
  | .lss => some (.bool (decide (a < b)))
  | .leq => some (.bool (decide (a ≤ b)))
  | .gtr => some (.bool (decide (b < a)))
  | .geq => some (.bool (decide (b ≤ a)))
  | _ => none
theorem run_binv {op : BinOp} {k : IntKind} {a b : Int} {v : Value} (h : binv op k a b = some v) (t : TypeId) (x y : Operand) (w : World) :
    (do eqGuard op t x y (.int k a) (.int k b); binOp op t (.int k a) (.int k b) : Sem Value).run P w = .ok v w := by
  cases op <;> simp [binv] at h <;> subst h <;> simp [eqGuard, binOp, Op.intArith, Op.intBits, Op.intCmp, bits]
theorem r_bin [Wide F] {op : BinOp} {t u : TypeId} {x y : Operand} {k : IntKind} {a b : Int} {v : Value} (hx : ev σ x = some (.int k a)) (hy : ev σ y = some (.int k b)) (hv : binv op k a b = some v) (hdN : Nat.blt d N = true)
    (h : J N ds w0 W ((d, v) :: σ) H K) : OJ F n P N ds w0 W σ H ⟨some d, .binOp op t x y u, ty, pos, aft, gd⟩ K Q :=
  o_val (by simp) rfl hdN (fun a w ha _ => by
    have := run_binv (P := P) hv t x y w
    simp only [execOp, ha.eval hx, ha.eval hy]
    rw [Sem.run_bind, this]; rfl) h

/-- A number that fits its kind. -/
@[reducible] def InR : IntKind → Int → Prop
  | .i64, c => -9223372036854775808 ≤ c ∧ c ≤ 9223372036854775807
  | .i32, c => -2147483648 ≤ c ∧ c ≤ 2147483647
  | .i16, c => -32768 ≤ c ∧ c ≤ 32767
  | .i8, c => -128 ≤ c ∧ c ≤ 127
  | .u64, c => 0 ≤ c ∧ c ≤ 18446744073709551615
  | .u32, c => 0 ≤ c ∧ c ≤ 4294967295
  | .u16, c => 0 ≤ c ∧ c ≤ 65535
  | .u8, c => 0 ≤ c ∧ c ≤ 255
theorem wrap_in {k : IntKind} {c : Int} (h : InR k c) : k.wrap c = c := by
  cases k <;> simp only [InR] at h <;> simp [IntKind.wrap, IntKind.bits, IntKind.signed] <;> omega
/-- No more than a kind has bits. -/
@[reducible] def LeB : IntKind → Nat → Prop
  | .i64, b | .u64, b => b ≤ 64
  | .i32, b | .u32, b => b ≤ 32
  | .i16, b | .u16, b => b ≤ 16
  | .i8, b | .u8, b => b ≤ 8
theorem leB {k : IntKind} {b : Nat} (h : LeB k b) : b ≤ k.bits := by cases k <;> exact h
def ariv (op : BinOp) (a b : Int) : Option Int :=
  match op with
  | .add => some (a + b)
  | .sub => some (a - b)
  | .mul => some (a * b)
  | _ => none
theorem r_ari [Wide F] {op : BinOp} {t u : TypeId} {x y : Operand} {k : IntKind} {a b c : Int} (hx : ev σ x = some (.int k a)) (hy : ev σ y = some (.int k b)) (hv : ariv op a b = some c) (hc : InR k c) (hdN : Nat.blt d N = true)
    (h : J N ds w0 W ((d, .int k c) :: σ) H K) : OJ F n P N ds w0 W σ H ⟨some d, .binOp op t x y u, ty, pos, aft, gd⟩ K Q :=
  r_bin hx hy (by cases op <;> simp [ariv] at hv <;> subst hv <;> simp [binv, wrap_in hc]) hdN h
theorem r_quo [Wide F] {t u : TypeId} {x y : Operand} {k : IntKind} {a b : Int} (hx : ev σ x = some (.int k a)) (hy : ev σ y = some (.int k b)) (hb : b ≠ 0) (hdN : Nat.blt d N = true)
    (h : J N ds w0 W ((d, .int k (k.wrap (a.tdiv b))) :: σ) H K) : OJ F n P N ds w0 W σ H ⟨some d, .binOp .quo t x y u, ty, pos, aft, gd⟩ K Q :=
  o_val (by simp) rfl hdN (fun a w ha _ => by simp [execOp, ha.eval hx, ha.eval hy, eqGuard, binOp, Op.intDiv, hb]) h
theorem r_rem [Wide F] {t u : TypeId} {x y : Operand} {k : IntKind} {a b : Int} (hx : ev σ x = some (.int k a)) (hy : ev σ y = some (.int k b)) (hb : b ≠ 0) (hdN : Nat.blt d N = true)
    (h : J N ds w0 W ((d, .int k (a.tmod b)) :: σ) H K) : OJ F n P N ds w0 W σ H ⟨some d, .binOp .rem t x y u, ty, pos, aft, gd⟩ K Q :=
  o_val (by simp) rfl hdN (fun a w ha _ => by simp [execOp, ha.eval hx, ha.eval hy, eqGuard, binOp, Op.intDiv, hb]) h
theorem r_quo_in [Wide F] {t u : TypeId} {x y : Operand} {k : IntKind} {a b : Int} (hx : ev σ x = some (.int k a)) (hy : ev σ y = some (.int k b)) (ha0 : 0 ≤ a) (hb : 0 < b) (hc : InR k a) (hdN : Nat.blt d N = true)
    (h : J N ds w0 W ((d, .int k (a / b)) :: σ) H K) : OJ F n P N ds w0 W σ H ⟨some d, .binOp .quo t x y u, ty, pos, aft, gd⟩ K Q :=
  r_quo hx hy (by omega) hdN (by
    rw [Int.tdiv_eq_ediv_of_nonneg ha0, wrap_in]
    · exact h
    · have h1 : 0 ≤ a / b := Int.ediv_nonneg ha0 (by omega)
      have h2 : a / b ≤ a := Int.ediv_le_self _ ha0
      cases k <;> simp only [InR] at hc ⊢ <;> omega)
theorem r_rem_in [Wide F] {t u : TypeId} {x y : Operand} {k : IntKind} {a b : Int} (hx : ev σ x = some (.int k a)) (hy : ev σ y = some (.int k b)) (ha0 : 0 ≤ a) (hb : 0 < b) (hdN : Nat.blt d N = true)
    (h : J N ds w0 W ((d, .int k (a % b)) :: σ) H K) : OJ F n P N ds w0 W σ H ⟨some d, .binOp .rem t x y u, ty, pos, aft, gd⟩ K Q :=
  r_rem hx hy (by omega) hdN (by rw [Int.tmod_eq_emod_of_nonneg ha0]; exact h)
theorem r_shl [Wide F] {t u : TypeId} {x y : Operand} {k k' : IntKind} {a b : Int} (hx : ev σ x = some (.int k a)) (hy : ev σ y = some (.int k' b)) (hb : 0 ≤ b) (hdN : Nat.blt d N = true)
    (h : J N ds w0 W ((d, .int k (k.wrap (a * 2 ^ (min b.toNat k.bits)))) :: σ) H K) : OJ F n P N ds w0 W σ H ⟨some d, .binOp .shl t x y u, ty, pos, aft, gd⟩ K Q :=
  o_val (by simp) rfl hdN (fun a w ha _ => by simp [execOp, ha.eval hx, ha.eval hy, eqGuard, binOp, Op.shift, show ¬ b < 0 by omega]) h
theorem r_shr [Wide F] {t u : TypeId} {x y : Operand} {k k' : IntKind} {a b : Int} (hx : ev σ x = some (.int k a)) (hy : ev σ y = some (.int k' b)) (hb : 0 ≤ b) (hdN : Nat.blt d N = true)
    (h : J N ds w0 W ((d, .int k (a.fdiv (2 ^ (min b.toNat k.bits)))) :: σ) H K) : OJ F n P N ds w0 W σ H ⟨some d, .binOp .shr t x y u, ty, pos, aft, gd⟩ K Q :=
  o_val (by simp) rfl hdN (fun a w ha _ => by simp [execOp, ha.eval hx, ha.eval hy, eqGuard, binOp, Op.shift, show ¬ b < 0 by omega]) h
theorem run_equalB (w : World) (d : Nat) {t : TypeId} (a b : Bool) (ht : P.underlying t = some .bool) : (Op.equalIn (d + 1) t (.bool a) (.bool b)).run P w = .ok (a == b) w := by
  simp [Op.equalIn, run_underlying ht]
theorem run_eqlB (w : World) {t : TypeId} (a b : Bool) (ht : P.underlying t = some .bool) : (binOp .eql t (.bool a) (.bool b)).run P w = .ok (.bool (a == b)) w := by
  simp only [binOp]
  simp [Op.equal, Op.maxDepth, run_equalB w 9999 a b ht]
theorem run_neqB (w : World) {t : TypeId} (a b : Bool) (ht : P.underlying t = some .bool) : (binOp .neq t (.bool a) (.bool b)).run P w = .ok (.bool (!(a == b))) w := by
  simp only [binOp]
  simp [Op.equal, Op.maxDepth, run_equalB w 9999 a b ht]
theorem run_guardB (op : BinOp) (t : TypeId) (x y : Operand) (a b : Bool) (w : World) : (eqGuard op t x y (.bool a) (.bool b)).run P w = .ok () w := by
  cases op <;> rfl
theorem r_shrN [Wide F] {t u : TypeId} {x y : Operand} {k k' : IntKind} {a b : Nat} (hx : ev σ x = some (.int k (a : Int))) (hy : ev σ y = some (.int k' (b : Int))) (hb : b ≤ k.bits) (hdN : Nat.blt d N = true)
    (h : J N ds w0 W ((d, .int k ((a / 2 ^ b : Nat) : Int)) :: σ) H K) : OJ F n P N ds w0 W σ H ⟨some d, .binOp .shr t x y u, ty, pos, aft, gd⟩ K Q :=
  r_shr hx hy (by omega) hdN (by
    rw [Int.toNat_natCast, Nat.min_eq_left hb, Int.fdiv_eq_ediv_of_nonneg _ (Int.le_of_lt (Int.pow_pos (by decide)))]
    have e : ((a : Int) / 2 ^ b) = ((a / 2 ^ b : Nat) : Int) := by push_cast; rfl
    rw [e]; exact h)
theorem r_eqB [Wide F] {t u : TypeId} {x y : Operand} {p q : Bool} [Und P t .bool] (hx : ev σ x = some (.bool p)) (hy : ev σ y = some (.bool q)) (hdN : Nat.blt d N = true)
    (h : J N ds w0 W ((d, .bool (p == q)) :: σ) H K) : OJ F n P N ds w0 W σ H ⟨some d, .binOp .eql t x y u, ty, pos, aft, gd⟩ K Q :=
  o_val (by simp) rfl hdN (fun a w ha _ => by
    have := run_eqlB w p q (Und.h (P := P) (t := t))
    simp only [execOp, ha.eval hx, ha.eval hy, Sem.run_bind, run_guardB, Result.andThen_ok, this, Sem.run_pure]) h
theorem r_neB [Wide F] {t u : TypeId} {x y : Operand} {p q : Bool} [Und P t .bool] (hx : ev σ x = some (.bool p)) (hy : ev σ y = some (.bool q)) (hdN : Nat.blt d N = true)
    (h : J N ds w0 W ((d, .bool (!(p == q))) :: σ) H K) : OJ F n P N ds w0 W σ H ⟨some d, .binOp .neq t x y u, ty, pos, aft, gd⟩ K Q :=
  o_val (by simp) rfl hdN (fun a w ha _ => by
    have := run_neqB w p q (Und.h (P := P) (t := t))
    simp only [execOp, ha.eval hx, ha.eval hy, Sem.run_bind, run_guardB, Result.andThen_ok, this, Sem.run_pure]) h
theorem r_not [Wide F] {t : TypeId} {x : Operand} {a : Bool} (hx : ev σ x = some (.bool a)) (hdN : Nat.blt d N = true)
    (h : J N ds w0 W ((d, .bool (!a)) :: σ) H K) : OJ F n P N ds w0 W σ H ⟨some d, .unOp .not t x, ty, pos, aft, gd⟩ K Q :=
  o_val (by simp) rfl hdN (fun a w ha _ => by simp [execOp, ha.eval hx, Op.unary]) h
theorem r_neg [Wide F] {t : TypeId} {x : Operand} {k : IntKind} {a : Int} (hx : ev σ x = some (.int k a)) (hdN : Nat.blt d N = true)
    (h : J N ds w0 W ((d, .int k (k.wrap (0 - a))) :: σ) H K) : OJ F n P N ds w0 W σ H ⟨some d, .unOp .neg t x, ty, pos, aft, gd⟩ K Q :=
  o_val (by simp) rfl hdN (fun a w ha _ => by simp [execOp, ha.eval hx, Op.unary, Op.intArith]) h
theorem r_neg_in [Wide F] {t : TypeId} {x : Operand} {k : IntKind} {a : Int} (hx : ev σ x = some (.int k a)) (hc : InR k (-a)) (hdN : Nat.blt d N = true)
    (h : J N ds w0 W ((d, .int k (-a)) :: σ) H K) : OJ F n P N ds w0 W σ H ⟨some d, .unOp .neg t x, ty, pos, aft, gd⟩ K Q :=
  r_neg hx hdN (by rw [Int.zero_sub, wrap_in hc]; exact h)
theorem r_conv [Wide F] {s t : TypeId} {x : Operand} {k k' : IntKind} {a : Int} {dd : TypeDesc} [Und P s dd] [Und P t (.int k')] (hx : ev σ x = some (.int k a)) (hdN : Nat.blt d N = true)
    (h : J N ds w0 W ((d, .int k' (k'.wrap a)) :: σ) H K) : OJ F n P N ds w0 W σ H ⟨some d, .convert s t x, ty, pos, aft, gd⟩ K Q :=
  o_val (by simp) rfl hdN (fun a w ha _ => by
    have h1 := Und.h (P := P) (t := s)
    have h2 := Und.h (P := P) (t := t)
    simp [execOp, ha.eval hx, convert, run_underlying h1, run_underlying h2, Conv.intToInt]) h
theorem r_conv_in [Wide F] {s t : TypeId} {x : Operand} {k k' : IntKind} {a : Int} {dd : TypeDesc} [Und P s dd] [Und P t (.int k')] (hx : ev σ x = some (.int k a)) (hc : InR k' a) (hdN : Nat.blt d N = true)
    (h : J N ds w0 W ((d, .int k' a) :: σ) H K) : OJ F n P N ds w0 W σ H ⟨some d, .convert s t x, ty, pos, aft, gd⟩ K Q :=
  r_conv hx hdN (by rw [wrap_in hc]; exact h)
theorem add_none (b o j : Nat) : (⟨b, o, none⟩ : Addr).add j = ⟨b, o + j, none⟩ := by unfold Addr.add; split <;> simp_all
theorem r_fieldAddr [Wide F] {s f off b q : Nat} {x : Operand} [hfa : Fa P s f off] (hx : ev σ x = some (.pointer (some ⟨b, q, none⟩))) (hdN : Nat.blt d N = true)
    (h : J N ds w0 W ((d, .pointer (some ⟨b, q + off, none⟩)) :: σ) H K) : OJ F n P N ds w0 W σ H ⟨some d, .fieldAddr s x f, ty, pos, aft, gd⟩ K Q :=
  o_val (by simp) rfl hdN (fun a w ha _ => by
    obtain ⟨fs, fld, i, h1, h2, h3, h4, h5⟩ := hfa.h
    simp [execOp, ha.eval hx, Instr.fieldAt, run_underlying h1, h2, Instr.sureAddr, fieldPlace, sizeOf, typeInfo, h3, h4, h5, add_none]) h
theorem r_extract [Wide F] {x : Operand} {i : Nat} {vs : Array Value} {v : Value} (hx : ev σ x = some (.tuple vs)) (hv : vs[i]? = some v) (hdN : Nat.blt d N = true)
    (h : J N ds w0 W ((d, v) :: σ) H K) : OJ F n P N ds w0 W σ H ⟨some d, .extract x i, ty, pos, aft, gd⟩ K Q :=
  o_val (by simp) rfl hdN (fun a w ha _ => by simp [execOp, ha.eval hx, Instr.extract, hv]) h
theorem r_makeFunc [Wide F] {fn : Fn} {first captured : Array Operand} {xs ys : Array Value} (hx : ∀ a, Tm N ds σ a → first.map a.eval = xs ∧ captured.map a.eval = ys) (hdN : Nat.blt d N = true)
    (h : J N ds w0 W ((d, .func fn xs ys) :: σ) H K) : OJ F n P N ds w0 W σ H ⟨some d, .makeFunc fn first captured, ty, pos, aft, gd⟩ K Q :=
  o_val (by simp) rfl hdN (fun a w ha _ => by
    obtain ⟨h1, h2⟩ := hx a ha
    have e1 : (Array.map (fun x => a.eval x) first) = xs := h1
    have e2 : (Array.map (fun x => a.eval x) captured) = ys := h2
    simp [execOp, Instr.makeFunc, e1, e2]) h
theorem r_makeIface [Wide F] {t : TypeId} {x : Operand} {v : Value} {dd : TypeDesc} [Und P t dd] (hi : (match dd with | .interface _ => false | _ => true) = true) (hx : ev σ x = some v) (hdN : Nat.blt d N = true)
    (h : J N ds w0 W ((d, .iface t v) :: σ) H K) : OJ F n P N ds w0 W σ H ⟨some d, .makeInterface t x, ty, pos, aft, gd⟩ K Q :=
  o_val (by simp) rfl hdN (fun a w ha _ => by
    have h1 := Und.h (P := P) (t := t)
    cases dd <;> simp at hi <;> simp [execOp, ha.eval hx, Instr.makeInterface, run_underlying h1]) h
/-- len of a slice. -/
theorem r_len [Wide F] {x : Operand} {t e : TypeId} {A : Option Addr} {m c : Nat} [Und P t (.slice e)] (hx : ev σ x = some (.slice A m c)) (hdN : Nat.blt d N = true)
    (h : J N ds w0 W ((d, .int .i64 m) :: σ) H K) : OJ F n P N ds w0 W σ H ⟨some d, .call ⟨.builtin .len, #[x], #[t]⟩, ty, pos, aft, gd⟩ K Q :=
  o_val (by simp) rfl hdN (fun a w ha _ => by
    have h1 := Und.h (P := P) (t := t)
    simp [execOp, ha.eval hx, resolve, invoke, builtin, Builtin.len_, run_underlying h1, goInt]) h
theorem r_lenArr [Wide F] {x : Operand} {t e : TypeId} {m : Nat} {v : Value} [Und P t (.array m e)] (hx : ev σ x = some v) (hdN : Nat.blt d N = true)
    (h : J N ds w0 W ((d, .int .i64 m) :: σ) H K) : OJ F n P N ds w0 W σ H ⟨some d, .call ⟨.builtin .len, #[x], #[t]⟩, ty, pos, aft, gd⟩ K Q :=
  o_val (by simp) rfl hdN (fun a w ha _ => by
    have h1 := Und.h (P := P) (t := t)
    simp [execOp, ha.eval hx, resolve, invoke, builtin, Builtin.len_, run_underlying h1, goInt]) h
theorem r_min [Wide F] {x y : Operand} {ts : Array TypeId} {k : IntKind} {p q : Int} (hx : ev σ x = some (.int k p)) (hy : ev σ y = some (.int k q)) (hdN : Nat.blt d N = true)
    (h : J N ds w0 W ((d, .int k (min p q)) :: σ) H K) : OJ F n P N ds w0 W σ H ⟨some d, .call ⟨.builtin .min, #[x, y], ts⟩, ty, pos, aft, gd⟩ K Q :=
  o_val (by simp) rfl hdN (fun a w ha _ => by
    have e : (if q < p then q else p) = min p q := by omega
    simp [execOp, ha.eval hx, ha.eval hy, resolve, invoke, builtin, Builtin.min_, Builtin.min2, e]) h
theorem r_max [Wide F] {x y : Operand} {ts : Array TypeId} {k : IntKind} {p q : Int} (hx : ev σ x = some (.int k p)) (hy : ev σ y = some (.int k q)) (hdN : Nat.blt d N = true)
    (h : J N ds w0 W ((d, .int k (max p q)) :: σ) H K) : OJ F n P N ds w0 W σ H ⟨some d, .call ⟨.builtin .max, #[x, y], ts⟩, ty, pos, aft, gd⟩ K Q :=
  o_val (by simp) rfl hdN (fun a w ha _ => by
    have e : (if p < q then q else p) = max p q := by omega
    simp [execOp, ha.eval hx, ha.eval hy, resolve, invoke, builtin, Builtin.max_, Builtin.max2, e]) h
theorem r_indexAt [Wide F] {x y : Operand} {t e : TypeId} {b q m c sz bs : Nat} {z : Value} {k : IntKind} {v : Int} (i : Nat) [Und P t (.slice e)] [hI : Inf P e sz bs z] (hx : ev σ x = some (.slice (some ⟨b, q, none⟩) m c)) (hy : ev σ y = some (.int k v)) (hv : v = (i : Int)) (hi : i < m) (hdN : Nat.blt d N = true)
    (h : J N ds w0 W ((d, .pointer (some ⟨b, q + i * sz, none⟩)) :: σ) H K) : OJ F n P N ds w0 W σ H ⟨some d, .indexAddr t x y, ty, pos, aft, gd⟩ K Q :=
  o_val (by simp) rfl hdN (fun a w ha _ => by
    subst hv
    have h1 := Und.h (P := P) (t := t)
    obtain ⟨ii, h2, -, h3, -⟩ := hI.h
    simp [execOp, ha.eval hx, ha.eval hy, Instr.indexAt, run_underlying h1, asIntOf, sizeOf, typeInfo, h2, h3, hi, add_none]) h
/-- The address of a slice's element. -/
theorem r_indexAddr [Wide F] {x y : Operand} {t e : TypeId} {b q m c sz bs : Nat} {z : Value} {k : IntKind} {i : Nat} [Und P t (.slice e)] [hI : Inf P e sz bs z] (hx : ev σ x = some (.slice (some ⟨b, q, none⟩) m c)) (hy : ev σ y = some (.int k i)) (hi : i < m) (hdN : Nat.blt d N = true)
    (h : J N ds w0 W ((d, .pointer (some ⟨b, q + i * sz, none⟩)) :: σ) H K) : OJ F n P N ds w0 W σ H ⟨some d, .indexAddr t x y, ty, pos, aft, gd⟩ K Q :=
  o_val (by simp) rfl hdN (fun a w ha _ => by
    have h1 := Und.h (P := P) (t := t)
    obtain ⟨ii, h2, -, h3, -⟩ := hI.h
    simp [execOp, ha.eval hx, ha.eval hy, Instr.indexAt, run_underlying h1, asIntOf, sizeOf, typeInfo, h2, h3, hi, add_none]) h
end

instance : Wide Fence.wide := ⟨wd_wide⟩
instance {F : Fence} [h : Wide F] (l : Nat) : Wide (F.inRound l) := ⟨h.out.round l⟩
end Go.Proofs.Ytpmomimaihjmjaa
