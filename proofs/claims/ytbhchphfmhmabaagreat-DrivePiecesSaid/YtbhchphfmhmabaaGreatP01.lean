import Derived.Test.YtbhchphfmhmabaaGreatP00
import Derived.Test.YtbhchphfmhmabaaGreatRows
import Derived.WalkKit
import Derived.TacticsIn
import Derived.TacticsInMore
import Derived.OrdersIn
import Derived.Below
import Derived.Deep.Draws
import Derived.Laws.AppendOwn
import Derived.Laws.OwnMore
import Derived.Laws.Rows
import Derived.Laws.Tables
import Derived.Laws.MakeOwn
import Derived.Maps.AppendAt
import Derived.OwnWalkIn
import Derived.Deep.LoopGhost
import Derived.Deep.MidRow
import Derived.Laws.Entries
import Derived.Great.BuildSlice
import Derived.Deep.AppendLies
import Derived.Laws.ResultCell
set_option maxHeartbeats 512000000
set_option maxRecDepth 4000
set_option linter.unusedVariables false
set_option linter.unusedSimpArgs false
namespace Go.Proofs.YtbhchphfmhmabaaGreat
structure Zw(G:Prop):Prop where
 h:G
theorem gR{G:Prop}(h:G:=by(repeat' (first|(first|(first|refine rW ?_|refine cc ?_|((first|refine sF rfl rfl rfl ?_ ?_|refine lss rfl rfl ?_ ?_|refine sH rfl rfl rfl ?_ ?_|refine rZ rfl rfl rfl rfl rfl ?_ rfl ?_);(next=>first|exact trivial|omega);intros)|refine rT rfl ?_|refine rR rfl ?_|refine rS rfl ?_|refine qX ?_|refine rX rfl rfl rfl ?_|refine rY rfl rfl ?_|refine sA rfl rfl (by kernel_rfl) rfl ?_|(refine sI rfl rfl rfl rfl (by kernel_rfl) rfl rfl ?_;intros)|(refine sJ rfl rfl ?_;intros)|(refine sD rfl (by omega) ?_;rintro _ rfl)|(refine sE rfl (by assumption) (by omega) ?_;rintro _ _ rfl _)|(refine nI rfl (by decide) (by decide +kernel) ?_;(repeat (first|(refine kM rfl rfl rfl ?_ ?_;(next=>first|exact trivial|omega))|refine pT rfl rfl rfl ?_|(refine pU rfl rfl rfl ?_ ?_;(next=>first|exact trivial|omega))));refine lH ?_)|(refine rQ rfl (by decide) (by decide +kernel) ?_;(repeat (first|(refine sQ rfl rfl rfl ?_ ?_;(next=>first|exact trivial|omega))|refine sR rfl rfl rfl ?_));refine sP ?_))|(refine uZ rfl rfl rfl ?_ ?_;(next=>first|exact trivial|omega))|refine uW rfl rfl (by kernel_rfl) rfl ?_|(refine uX rfl rfl rfl ?_ ?_;(next=>first|exact trivial|omega))|refine tQ rfl rfl rfl rfl ?_|refine tP rfl rfl rfl rfl ?_|((fail_if_success refine mG true rfl rfl rfl ?_);(fail_if_success refine mG false rfl rfl rfl ?_);refine uV rfl rfl rfl ?_ ?_<;>intro _<;>try (exfalso;first|contradiction|omega))|(refine tH rfl ?_ ?_<;>intro _<;>try (exfalso;first|contradiction|omega))|(refine sG rfl rfl rfl ?_ ?_;(next=>first|exact trivial|omega)))|(first|(refine kM rfl rfl rfl ?_ ?_;(next=>first|exact trivial|omega))|refine hbd rfl rfl (by kernel_rfl) rfl ?_|refine aU7 rfl rfl rfl rfl ?_|refine aU6 rfl rfl rfl rfl ?_|refine pT rfl rfl rfl ?_|(refine hcv rfl rfl rfl ?_ ?_;(next=>first|exact trivial|omega))|((fail_if_success refine aKi true rfl rfl rfl ?_);(fail_if_success refine aKi false rfl rfl rfl ?_);refine aU5 rfl rfl rfl ?_ ?_<;>intro _<;>try (exfalso;first|contradiction|omega))|(refine pU rfl rfl rfl ?_ ?_;(next=>first|exact trivial|omega))|refine lH ?_)|(first|(refine fM rfl rfl rfl ?_ ?_;(next=>first|exact trivial|omega))|refine aP1 rfl rfl rfl rfl ?_|refine aP0 rfl rfl rfl rfl ?_|refine fN rfl rfl rfl ?_|((fail_if_success refine aDx true rfl rfl rfl ?_);(fail_if_success refine aDx false rfl rfl rfl ?_);refine aOz rfl rfl rfl ?_ ?_<;>intro _<;>try (exfalso;first|contradiction|omega))|refine fC ?_)|(first|refine wV ?_|refine wU _ rfl rfl ?_|refine vS ?_ ?_|exact vT|refine aHk (by decide +kernel) ?_|refine wW aA.au ?_)|refine nI rfl (by decide) (by decide +kernel) ?_|refine aQz rfl rfl (by decide) (by decide +kernel) ?_|fail));all_goals (refine Zw.h ?_;apply id ⟨?_⟩)):G:=h
theorem bI{G:Prop}(h:G:=by(repeat (first|refine rW ?_|refine cc ?_|((first|refine sF rfl rfl rfl ?_ ?_|refine lss rfl rfl ?_ ?_|refine sH rfl rfl rfl ?_ ?_|refine rZ rfl rfl rfl rfl rfl ?_ rfl ?_);(next=>first|exact trivial|omega);intros)|refine rT rfl ?_|refine rR rfl ?_|refine rS rfl ?_|refine qX ?_|refine rX rfl rfl rfl ?_|refine rY rfl rfl ?_|refine sA rfl rfl (by kernel_rfl) rfl ?_|(refine sI rfl rfl rfl rfl (by kernel_rfl) rfl rfl ?_;intros)|(refine sJ rfl rfl ?_;intros)|(refine sD rfl (by omega) ?_;rintro _ rfl)|(refine sE rfl (by assumption) (by omega) ?_;rintro _ _ rfl _)|(refine nI rfl (by decide) (by decide +kernel) ?_;(repeat (first|(refine kM rfl rfl rfl ?_ ?_;(next=>first|exact trivial|omega))|refine pT rfl rfl rfl ?_|(refine pU rfl rfl rfl ?_ ?_;(next=>first|exact trivial|omega))));refine lH ?_)|(refine rQ rfl (by decide) (by decide +kernel) ?_;(repeat (first|(refine sQ rfl rfl rfl ?_ ?_;(next=>first|exact trivial|omega))|refine sR rfl rfl rfl ?_));refine sP ?_)|(refine sG rfl rfl rfl ?_ ?_;(next=>first|exact trivial|omega))|refine tQ rfl rfl rfl rfl ?_|refine tP rfl rfl rfl rfl ?_));all_goals (refine Zw.h ?_;apply id ⟨?_⟩)):G:=h
theorem aB{G:Prop}(h:G:=by(repeat' (first|(first|(first|refine rW ?_|refine cc ?_|((first|refine sF rfl rfl rfl ?_ ?_|refine lss rfl rfl ?_ ?_|refine sH rfl rfl rfl ?_ ?_|refine rZ rfl rfl rfl rfl rfl ?_ rfl ?_);(next=>first|exact trivial|omega);intros)|refine rT rfl ?_|refine rR rfl ?_|refine rS rfl ?_|refine qX ?_|refine rX rfl rfl rfl ?_|refine rY rfl rfl ?_|refine sA rfl rfl (by kernel_rfl) rfl ?_|(refine sI rfl rfl rfl rfl (by kernel_rfl) rfl rfl ?_;intros)|(refine sJ rfl rfl ?_;intros)|(refine sD rfl (by omega) ?_;rintro _ rfl)|(refine sE rfl (by assumption) (by omega) ?_;rintro _ _ rfl _)|(refine nI rfl (by decide) (by decide +kernel) ?_;(repeat (first|(refine kM rfl rfl rfl ?_ ?_;(next=>first|exact trivial|omega))|refine pT rfl rfl rfl ?_|(refine pU rfl rfl rfl ?_ ?_;(next=>first|exact trivial|omega))));refine lH ?_)|(refine rQ rfl (by decide) (by decide +kernel) ?_;(repeat (first|(refine sQ rfl rfl rfl ?_ ?_;(next=>first|exact trivial|omega))|refine sR rfl rfl rfl ?_));refine sP ?_))|(refine uZ rfl rfl rfl ?_ ?_;(next=>first|exact trivial|omega))|refine uW rfl rfl (by kernel_rfl) rfl ?_|(refine uX rfl rfl rfl ?_ ?_;(next=>first|exact trivial|omega))|refine tQ rfl rfl rfl rfl ?_|refine tP rfl rfl rfl rfl ?_|((fail_if_success refine mG true rfl rfl rfl ?_);(fail_if_success refine mG false rfl rfl rfl ?_);refine uV rfl rfl rfl ?_ ?_<;>intro _<;>try (exfalso;first|contradiction|omega))|(refine tH rfl ?_ ?_<;>intro _<;>try (exfalso;first|contradiction|omega))|(refine sG rfl rfl rfl ?_ ?_;(next=>first|exact trivial|omega)))|fail));all_goals (refine Zw.h ?_;apply id ⟨?_⟩)):G:=h
theorem aX{G:Prop}(h:G:=by(repeat (first|refine rW ?_|refine cc ?_|((first|refine sF rfl rfl rfl ?_ ?_|refine lss rfl rfl ?_ ?_|refine sH rfl rfl rfl ?_ ?_|refine rZ rfl rfl rfl rfl rfl ?_ rfl ?_);(next=>first|exact trivial|omega);intros)|refine rT rfl ?_|refine rR rfl ?_|refine rS rfl ?_|refine qX ?_|refine rX rfl rfl rfl ?_|refine rY rfl rfl ?_|refine sA rfl rfl (by kernel_rfl) rfl ?_|(refine sI rfl rfl rfl rfl (by kernel_rfl) rfl rfl ?_;intros)|(refine sJ rfl rfl ?_;intros)|(refine sD rfl (by omega) ?_;rintro _ rfl)|(refine sE rfl (by assumption) (by omega) ?_;rintro _ _ rfl _)|(refine nI rfl (by decide) (by decide +kernel) ?_;(repeat (first|(refine kM rfl rfl rfl ?_ ?_;(next=>first|exact trivial|omega))|refine pT rfl rfl rfl ?_|(refine pU rfl rfl rfl ?_ ?_;(next=>first|exact trivial|omega))));refine lH ?_)|(refine rQ rfl (by decide) (by decide +kernel) ?_;(repeat (first|(refine sQ rfl rfl rfl ?_ ?_;(next=>first|exact trivial|omega))|refine sR rfl rfl rfl ?_));refine sP ?_)|(refine sG rfl rfl rfl ?_ ?_;(next=>first|exact trivial|omega))));all_goals (refine Zw.h ?_;apply id ⟨?_⟩)):G:=h
theorem xB{G:Prop}(h:G:=by(repeat' (first|refine zS ?_|refine wV ?_|(first|(refine dE 0 rfl rfl rfl rfl rfl rfl ?_ ?_ ?_ ?_;(next=>first|exact trivial|omega);(next=>decide +kernel);(next=>first|exact aA.refl _|exact aA.au))|(refine dE 1 rfl rfl rfl rfl rfl rfl ?_ ?_ ?_ ?_;(next=>first|exact trivial|omega);(next=>decide +kernel);(next=>first|exact aA.refl _|exact aA.au))|(refine dE 2 rfl rfl rfl rfl rfl rfl ?_ ?_ ?_ ?_;(next=>first|exact trivial|omega);(next=>decide +kernel);(next=>first|exact aA.refl _|exact aA.au))|(refine dE 3 rfl rfl rfl rfl rfl rfl ?_ ?_ ?_ ?_;(next=>first|exact trivial|omega);(next=>decide +kernel);(next=>first|exact aA.refl _|exact aA.au))|(refine dE 4 rfl rfl rfl rfl rfl rfl ?_ ?_ ?_ ?_;(next=>first|exact trivial|omega);(next=>decide +kernel);(next=>first|exact aA.refl _|exact aA.au))|(refine dE 5 rfl rfl rfl rfl rfl rfl ?_ ?_ ?_ ?_;(next=>first|exact trivial|omega);(next=>decide +kernel);(next=>first|exact aA.refl _|exact aA.au))|(refine dE 6 rfl rfl rfl rfl rfl rfl ?_ ?_ ?_ ?_;(next=>first|exact trivial|omega);(next=>decide +kernel);(next=>first|exact aA.refl _|exact aA.au))|(refine dE 7 rfl rfl rfl rfl rfl rfl ?_ ?_ ?_ ?_;(next=>first|exact trivial|omega);(next=>decide +kernel);(next=>first|exact aA.refl _|exact aA.au))|(refine gD 0 rfl rfl rfl rfl rfl ?_ ?_ ?_;(next=>decide +kernel);(next=>first|exact aA.refl _|exact aA.au))|(refine gD 1 rfl rfl rfl rfl rfl ?_ ?_ ?_;(next=>decide +kernel);(next=>first|exact aA.refl _|exact aA.au))|(refine gD 2 rfl rfl rfl rfl rfl ?_ ?_ ?_;(next=>decide +kernel);(next=>first|exact aA.refl _|exact aA.au))|(refine gD 3 rfl rfl rfl rfl rfl ?_ ?_ ?_;(next=>decide +kernel);(next=>first|exact aA.refl _|exact aA.au))|(refine gD 4 rfl rfl rfl rfl rfl ?_ ?_ ?_;(next=>decide +kernel);(next=>first|exact aA.refl _|exact aA.au))|(refine gD 5 rfl rfl rfl rfl rfl ?_ ?_ ?_;(next=>decide +kernel);(next=>first|exact aA.refl _|exact aA.au))|(refine gD 6 rfl rfl rfl rfl rfl ?_ ?_ ?_;(next=>decide +kernel);(next=>first|exact aA.refl _|exact aA.au))|(refine gD 7 rfl rfl rfl rfl rfl ?_ ?_ ?_;(next=>decide +kernel);(next=>first|exact aA.refl _|exact aA.au))|((fail_if_success refine aO7 true rfl rfl rfl rfl rfl ?_);(fail_if_success refine aO7 false rfl rfl rfl rfl rfl ?_);refine aHj rfl rfl rfl rfl rfl ?_ ?_<;>intro _<;>try (exfalso;first|contradiction|omega)))|(refine wU _ rfl rfl ?_)|refine vS ?_ ?_|exact vT|(refine wW ?_ ?_;(next=>first|exact aA.refl _|exact aA.au);(refine yI (rest':=?_) ?_ ?_;rotate_left;(next=>repeat (first|exact xR _ _|(refine xS (r':=?_) ?_ ?_;rotate_left;(next=>decide))))))|(first|(first|refine rW ?_|refine cc ?_|((first|refine sF rfl rfl rfl ?_ ?_|refine lss rfl rfl ?_ ?_|refine sH rfl rfl rfl ?_ ?_|refine rZ rfl rfl rfl rfl rfl ?_ rfl ?_);(next=>first|exact trivial|omega);intros)|refine rT rfl ?_|refine rR rfl ?_|refine rS rfl ?_|refine qX ?_|refine rX rfl rfl rfl ?_|refine rY rfl rfl ?_|refine sA rfl rfl (by kernel_rfl) rfl ?_|(refine sI rfl rfl rfl rfl (by kernel_rfl) rfl rfl ?_;intros)|(refine sJ rfl rfl ?_;intros)|(refine sD rfl (by omega) ?_;rintro _ rfl)|(refine sE rfl (by assumption) (by omega) ?_;rintro _ _ rfl _)|(refine nI rfl (by decide) (by decide +kernel) ?_;(repeat (first|(refine kM rfl rfl rfl ?_ ?_;(next=>first|exact trivial|omega))|refine pT rfl rfl rfl ?_|(refine pU rfl rfl rfl ?_ ?_;(next=>first|exact trivial|omega))));refine lH ?_)|(refine rQ rfl (by decide) (by decide +kernel) ?_;(repeat (first|(refine sQ rfl rfl rfl ?_ ?_;(next=>first|exact trivial|omega))|refine sR rfl rfl rfl ?_));refine sP ?_))|(refine uZ rfl rfl rfl ?_ ?_;(next=>first|exact trivial|omega))|refine uW rfl rfl (by kernel_rfl) rfl ?_|(refine uX rfl rfl rfl ?_ ?_;(next=>first|exact trivial|omega))|refine tQ rfl rfl rfl rfl ?_|refine tP rfl rfl rfl rfl ?_|((fail_if_success refine mG true rfl rfl rfl ?_);(fail_if_success refine mG false rfl rfl rfl ?_);refine uV rfl rfl rfl ?_ ?_<;>intro _<;>try (exfalso;first|contradiction|omega))|(refine tH rfl ?_ ?_<;>intro _<;>try (exfalso;first|contradiction|omega))|(refine sG rfl rfl rfl ?_ ?_;(next=>first|exact trivial|omega)))|fail));all_goals (refine Zw.h ?_;apply id ⟨?_⟩)):G:=h
theorem gO{G:Prop}(h:G:=by(repeat' (first|refine zS ?_|refine wV ?_|(first|(refine dE 0 rfl rfl rfl rfl rfl rfl ?_ ?_ ?_ ?_;(next=>first|exact trivial|omega);(next=>decide +kernel);(next=>first|exact aA.refl _|exact aA.au))|(refine dE 1 rfl rfl rfl rfl rfl rfl ?_ ?_ ?_ ?_;(next=>first|exact trivial|omega);(next=>decide +kernel);(next=>first|exact aA.refl _|exact aA.au))|(refine dE 2 rfl rfl rfl rfl rfl rfl ?_ ?_ ?_ ?_;(next=>first|exact trivial|omega);(next=>decide +kernel);(next=>first|exact aA.refl _|exact aA.au))|(refine dE 3 rfl rfl rfl rfl rfl rfl ?_ ?_ ?_ ?_;(next=>first|exact trivial|omega);(next=>decide +kernel);(next=>first|exact aA.refl _|exact aA.au))|(refine dE 4 rfl rfl rfl rfl rfl rfl ?_ ?_ ?_ ?_;(next=>first|exact trivial|omega);(next=>decide +kernel);(next=>first|exact aA.refl _|exact aA.au))|(refine dE 5 rfl rfl rfl rfl rfl rfl ?_ ?_ ?_ ?_;(next=>first|exact trivial|omega);(next=>decide +kernel);(next=>first|exact aA.refl _|exact aA.au))|(refine dE 6 rfl rfl rfl rfl rfl rfl ?_ ?_ ?_ ?_;(next=>first|exact trivial|omega);(next=>decide +kernel);(next=>first|exact aA.refl _|exact aA.au))|(refine dE 7 rfl rfl rfl rfl rfl rfl ?_ ?_ ?_ ?_;(next=>first|exact trivial|omega);(next=>decide +kernel);(next=>first|exact aA.refl _|exact aA.au))|(refine gD 0 rfl rfl rfl rfl rfl ?_ ?_ ?_;(next=>decide +kernel);(next=>first|exact aA.refl _|exact aA.au))|(refine gD 1 rfl rfl rfl rfl rfl ?_ ?_ ?_;(next=>decide +kernel);(next=>first|exact aA.refl _|exact aA.au))|(refine gD 2 rfl rfl rfl rfl rfl ?_ ?_ ?_;(next=>decide +kernel);(next=>first|exact aA.refl _|exact aA.au))|(refine gD 3 rfl rfl rfl rfl rfl ?_ ?_ ?_;(next=>decide +kernel);(next=>first|exact aA.refl _|exact aA.au))|(refine gD 4 rfl rfl rfl rfl rfl ?_ ?_ ?_;(next=>decide +kernel);(next=>first|exact aA.refl _|exact aA.au))|(refine gD 5 rfl rfl rfl rfl rfl ?_ ?_ ?_;(next=>decide +kernel);(next=>first|exact aA.refl _|exact aA.au))|(refine gD 6 rfl rfl rfl rfl rfl ?_ ?_ ?_;(next=>decide +kernel);(next=>first|exact aA.refl _|exact aA.au))|(refine gD 7 rfl rfl rfl rfl rfl ?_ ?_ ?_;(next=>decide +kernel);(next=>first|exact aA.refl _|exact aA.au))|((fail_if_success refine aDp true rfl rfl rfl rfl rfl ?_);(fail_if_success refine aDp false rfl rfl rfl rfl rfl ?_);refine aHj rfl rfl rfl rfl rfl ?_ ?_<;>intro _<;>try (exfalso;first|contradiction|omega)))|(refine wU _ rfl rfl ?_)|refine vS ?_ ?_|exact vT|(refine wW ?_ ?_;(next=>first|exact aA.refl _|exact aA.au);(refine yI (rest':=?_) ?_ ?_;rotate_left;(next=>repeat (first|exact xR _ _|(refine xS (r':=?_) ?_ ?_;rotate_left;(next=>decide))))))|(first|(first|refine rW ?_|refine cc ?_|((first|refine sF rfl rfl rfl ?_ ?_|refine lss rfl rfl ?_ ?_|refine sH rfl rfl rfl ?_ ?_|refine rZ rfl rfl rfl rfl rfl ?_ rfl ?_);(next=>first|exact trivial|omega);intros)|refine rT rfl ?_|refine rR rfl ?_|refine rS rfl ?_|refine qX ?_|refine rX rfl rfl rfl ?_|refine rY rfl rfl ?_|refine sA rfl rfl (by kernel_rfl) rfl ?_|(refine sI rfl rfl rfl rfl (by kernel_rfl) rfl rfl ?_;intros)|(refine sJ rfl rfl ?_;intros)|(refine sD rfl (by omega) ?_;rintro _ rfl)|(refine sE rfl (by assumption) (by omega) ?_;rintro _ _ rfl _)|(refine nI rfl (by decide) (by decide +kernel) ?_;(repeat (first|(refine kM rfl rfl rfl ?_ ?_;(next=>first|exact trivial|omega))|refine pT rfl rfl rfl ?_|(refine pU rfl rfl rfl ?_ ?_;(next=>first|exact trivial|omega))));refine lH ?_)|(refine rQ rfl (by decide) (by decide +kernel) ?_;(repeat (first|(refine sQ rfl rfl rfl ?_ ?_;(next=>first|exact trivial|omega))|refine sR rfl rfl rfl ?_));refine sP ?_))|(refine uZ rfl rfl rfl ?_ ?_;(next=>first|exact trivial|omega))|refine uW rfl rfl (by kernel_rfl) rfl ?_|(refine uX rfl rfl rfl ?_ ?_;(next=>first|exact trivial|omega))|refine tQ rfl rfl rfl rfl ?_|refine tP rfl rfl rfl rfl ?_|((fail_if_success refine mG true rfl rfl rfl ?_);(fail_if_success refine mG false rfl rfl rfl ?_);refine uV rfl rfl rfl ?_ ?_<;>intro _<;>try (exfalso;first|contradiction|omega))|(refine tH rfl ?_ ?_<;>intro _<;>try (exfalso;first|contradiction|omega))|(refine sG rfl rfl rfl ?_ ?_;(next=>first|exact trivial|omega)))|fail));all_goals (refine Zw.h ?_;apply id ⟨?_⟩)):G:=h
theorem jR{G:Prop}(h:G:=by(repeat' (first|refine zS ?_|refine wV ?_|(first|(refine dE 0 rfl rfl rfl rfl rfl rfl ?_ ?_ ?_ ?_;(next=>first|exact trivial|omega);(next=>decide +kernel);(next=>first|exact aA.refl _|exact aA.au))|(refine dE 1 rfl rfl rfl rfl rfl rfl ?_ ?_ ?_ ?_;(next=>first|exact trivial|omega);(next=>decide +kernel);(next=>first|exact aA.refl _|exact aA.au))|(refine dE 2 rfl rfl rfl rfl rfl rfl ?_ ?_ ?_ ?_;(next=>first|exact trivial|omega);(next=>decide +kernel);(next=>first|exact aA.refl _|exact aA.au))|(refine dE 3 rfl rfl rfl rfl rfl rfl ?_ ?_ ?_ ?_;(next=>first|exact trivial|omega);(next=>decide +kernel);(next=>first|exact aA.refl _|exact aA.au)))|(refine wU _ rfl rfl ?_)|refine vS ?_ ?_|exact vT|(refine wW ?_ ?_;(next=>first|exact aA.refl _|exact aA.au);(refine yI (rest':=?_) ?_ ?_;rotate_left;(next=>repeat (first|exact xR _ _|(refine xS (r':=?_) ?_ ?_;rotate_left;(next=>decide))))))|(first|(first|refine rW ?_|refine cc ?_|((first|refine sF rfl rfl rfl ?_ ?_|refine lss rfl rfl ?_ ?_|refine sH rfl rfl rfl ?_ ?_|refine rZ rfl rfl rfl rfl rfl ?_ rfl ?_);(next=>first|exact trivial|omega);intros)|refine rT rfl ?_|refine rR rfl ?_|refine rS rfl ?_|refine qX ?_|refine rX rfl rfl rfl ?_|refine rY rfl rfl ?_|refine sA rfl rfl (by kernel_rfl) rfl ?_|(refine sI rfl rfl rfl rfl (by kernel_rfl) rfl rfl ?_;intros)|(refine sJ rfl rfl ?_;intros)|(refine sD rfl (by omega) ?_;rintro _ rfl)|(refine sE rfl (by assumption) (by omega) ?_;rintro _ _ rfl _)|(refine nI rfl (by decide) (by decide +kernel) ?_;(repeat (first|(refine kM rfl rfl rfl ?_ ?_;(next=>first|exact trivial|omega))|refine pT rfl rfl rfl ?_|(refine pU rfl rfl rfl ?_ ?_;(next=>first|exact trivial|omega))));refine lH ?_)|(refine rQ rfl (by decide) (by decide +kernel) ?_;(repeat (first|(refine sQ rfl rfl rfl ?_ ?_;(next=>first|exact trivial|omega))|refine sR rfl rfl rfl ?_));refine sP ?_))|(refine uZ rfl rfl rfl ?_ ?_;(next=>first|exact trivial|omega))|refine uW rfl rfl (by kernel_rfl) rfl ?_|(refine uX rfl rfl rfl ?_ ?_;(next=>first|exact trivial|omega))|refine tQ rfl rfl rfl rfl ?_|refine tP rfl rfl rfl rfl ?_|((fail_if_success refine mG true rfl rfl rfl ?_);(fail_if_success refine mG false rfl rfl rfl ?_);refine uV rfl rfl rfl ?_ ?_<;>intro _<;>try (exfalso;first|contradiction|omega))|(refine tH rfl ?_ ?_<;>intro _<;>try (exfalso;first|contradiction|omega))|(refine sG rfl rfl rfl ?_ ?_;(next=>first|exact trivial|omega)))|fail));all_goals (refine Zw.h ?_;apply id ⟨?_⟩)):G:=h
theorem xA{G:Prop}(h:G:=by(repeat' (first|(first|(first|refine rW ?_|refine cc ?_|((first|refine sF rfl rfl rfl ?_ ?_|refine lss rfl rfl ?_ ?_|refine sH rfl rfl rfl ?_ ?_|refine rZ rfl rfl rfl rfl rfl ?_ rfl ?_);(next=>first|exact trivial|omega);intros)|refine rT rfl ?_|refine rR rfl ?_|refine rS rfl ?_|refine qX ?_|refine rX rfl rfl rfl ?_|refine rY rfl rfl ?_|refine sA rfl rfl (by kernel_rfl) rfl ?_|(refine sI rfl rfl rfl rfl (by kernel_rfl) rfl rfl ?_;intros)|(refine sJ rfl rfl ?_;intros)|(refine sD rfl (by omega) ?_;rintro _ rfl)|(refine sE rfl (by assumption) (by omega) ?_;rintro _ _ rfl _)|(refine nI rfl (by decide) (by decide +kernel) ?_;(repeat (first|(refine kM rfl rfl rfl ?_ ?_;(next=>first|exact trivial|omega))|refine pT rfl rfl rfl ?_|(refine pU rfl rfl rfl ?_ ?_;(next=>first|exact trivial|omega))));refine lH ?_)|(refine rQ rfl (by decide) (by decide +kernel) ?_;(repeat (first|(refine sQ rfl rfl rfl ?_ ?_;(next=>first|exact trivial|omega))|refine sR rfl rfl rfl ?_));refine sP ?_))|(refine uZ rfl rfl rfl ?_ ?_;(next=>first|exact trivial|omega))|refine uW rfl rfl (by kernel_rfl) rfl ?_|(refine uX rfl rfl rfl ?_ ?_;(next=>first|exact trivial|omega))|refine tQ rfl rfl rfl rfl ?_|refine tP rfl rfl rfl rfl ?_|((fail_if_success refine mG true rfl rfl rfl ?_);(fail_if_success refine mG false rfl rfl rfl ?_);refine uV rfl rfl rfl ?_ ?_<;>intro _<;>try (exfalso;first|contradiction|omega))|(refine tH rfl ?_ ?_<;>intro _<;>try (exfalso;first|contradiction|omega))|(refine sG rfl rfl rfl ?_ ?_;(next=>first|exact trivial|omega)))|(first|(refine fM rfl rfl rfl ?_ ?_;(next=>first|exact trivial|omega))|refine aP1 rfl rfl rfl rfl ?_|refine aP0 rfl rfl rfl rfl ?_|refine fN rfl rfl rfl ?_|((fail_if_success refine aDx true rfl rfl rfl ?_);(fail_if_success refine aDx false rfl rfl rfl ?_);refine aOz rfl rfl rfl ?_ ?_<;>intro _<;>try (exfalso;first|contradiction|omega))|refine fC ?_)|(first|refine wV ?_|refine wU _ rfl rfl ?_|refine vS ?_ ?_|exact vT|refine aHk (by decide +kernel) ?_|refine wW aA.au ?_)|fail));all_goals (refine Zw.h ?_;apply id ⟨?_⟩)):G:=h
theorem mK{G:Prop}(h:G:=by(repeat (first|(refine kM rfl rfl rfl ?_ ?_;(next=>first|exact trivial|omega))|refine pT rfl rfl rfl ?_|(refine pU rfl rfl rfl ?_ ?_;(next=>first|exact trivial|omega))));all_goals (refine Zw.h ?_;apply id ⟨?_⟩)):G:=h
theorem bCv{G:Prop}(h:G:=by(first|exact(aP.here _ _)|exact(aP.there _ (aP.here _ _))|exact(aP.there _ (aP.there _ (aP.here _ _)))|exact(aP.there _ (aP.there _ (aP.there _ (aP.here _ _))))|exact(aP.there _ (aP.there _ (aP.there _ (aP.there _ (aP.here _ _)))))|exact(aP.there _ (aP.there _ (aP.there _ (aP.there _ (aP.there _ (aP.here _ _))))))|exact(aP.there _ (aP.there _ (aP.there _ (aP.there _ (aP.there _ (aP.there _ (aP.here _ _)))))))|exact(aP.there _ (aP.there _ (aP.there _ (aP.there _ (aP.there _ (aP.there _ (aP.there _ (aP.here _ _))))))))|exact(aP.there _ (aP.there _ (aP.there _ (aP.there _ (aP.there _ (aP.there _ (aP.there _ (aP.there _ (aP.here _ _)))))))))|exact(aP.there _ (aP.there _ (aP.there _ (aP.there _ (aP.there _ (aP.there _ (aP.there _ (aP.there _ (aP.there _ (aP.here _ _))))))))))|exact(aP.there _ (aP.there _ (aP.there _ (aP.there _ (aP.there _ (aP.there _ (aP.there _ (aP.there _ (aP.there _ (aP.there _ (aP.here _ _)))))))))))|exact(aP.there _ (aP.there _ (aP.there _ (aP.there _ (aP.there _ (aP.there _ (aP.there _ (aP.there _ (aP.there _ (aP.there _ (aP.there _ (aP.here _ _))))))))))))|exact(aP.there _ (aP.there _ (aP.there _ (aP.there _ (aP.there _ (aP.there _ (aP.there _ (aP.there _ (aP.there _ (aP.there _ (aP.there _ (aP.there _ (aP.here _ _)))))))))))))|exact(aP.there _ (aP.there _ (aP.there _ (aP.there _ (aP.there _ (aP.there _ (aP.there _ (aP.there _ (aP.there _ (aP.there _ (aP.there _ (aP.there _ (aP.there _ (aP.here _ _)))))))))))))));all_goals (refine Zw.h ?_;apply id ⟨?_⟩)):G:=h
theorem cF{G:Prop}(h:G:=by(repeat (first|exact .here _ _|apply aP.there));all_goals (refine Zw.h ?_;apply id ⟨?_⟩)):G:=h
theorem cZ{G:Prop}(h:G:=by((repeat (first|refine aKy rfl ?_|refine aKw rfl ?_));refine aKx ?_);all_goals (refine Zw.h ?_;apply id ⟨?_⟩)):G:=h
theorem bK{G:Prop}(h:G:=by(refine eC (.nil _) ?_;(repeat (first|refine aKy rfl ?_|refine aKw rfl ?_));refine aKx ?_);all_goals (refine Zw.h ?_;apply id ⟨?_⟩)):G:=h
theorem aP7{G:Prop}(h:G:=by(first|(refine dE 0 rfl rfl rfl rfl rfl rfl ?_ ?_ ?_ ?_;(next=>first|exact trivial|omega);(next=>decide +kernel);(next=>first|exact aA.refl _|exact aA.au))|(refine dE 1 rfl rfl rfl rfl rfl rfl ?_ ?_ ?_ ?_;(next=>first|exact trivial|omega);(next=>decide +kernel);(next=>first|exact aA.refl _|exact aA.au))|(refine dE 2 rfl rfl rfl rfl rfl rfl ?_ ?_ ?_ ?_;(next=>first|exact trivial|omega);(next=>decide +kernel);(next=>first|exact aA.refl _|exact aA.au))|(refine dE 3 rfl rfl rfl rfl rfl rfl ?_ ?_ ?_ ?_;(next=>first|exact trivial|omega);(next=>decide +kernel);(next=>first|exact aA.refl _|exact aA.au))|(refine dE 4 rfl rfl rfl rfl rfl rfl ?_ ?_ ?_ ?_;(next=>first|exact trivial|omega);(next=>decide +kernel);(next=>first|exact aA.refl _|exact aA.au))|(refine dE 5 rfl rfl rfl rfl rfl rfl ?_ ?_ ?_ ?_;(next=>first|exact trivial|omega);(next=>decide +kernel);(next=>first|exact aA.refl _|exact aA.au))|(refine dE 6 rfl rfl rfl rfl rfl rfl ?_ ?_ ?_ ?_;(next=>first|exact trivial|omega);(next=>decide +kernel);(next=>first|exact aA.refl _|exact aA.au))|(refine dE 7 rfl rfl rfl rfl rfl rfl ?_ ?_ ?_ ?_;(next=>first|exact trivial|omega);(next=>decide +kernel);(next=>first|exact aA.refl _|exact aA.au))|(refine dE 8 rfl rfl rfl rfl rfl rfl ?_ ?_ ?_ ?_;(next=>first|exact trivial|omega);(next=>decide +kernel);(next=>first|exact aA.refl _|exact aA.au))|(refine dE 9 rfl rfl rfl rfl rfl rfl ?_ ?_ ?_ ?_;(next=>first|exact trivial|omega);(next=>decide +kernel);(next=>first|exact aA.refl _|exact aA.au))|(refine dE 10 rfl rfl rfl rfl rfl rfl ?_ ?_ ?_ ?_;(next=>first|exact trivial|omega);(next=>decide +kernel);(next=>first|exact aA.refl _|exact aA.au))|(refine dE 11 rfl rfl rfl rfl rfl rfl ?_ ?_ ?_ ?_;(next=>first|exact trivial|omega);(next=>decide +kernel);(next=>first|exact aA.refl _|exact aA.au))|(refine dE 12 rfl rfl rfl rfl rfl rfl ?_ ?_ ?_ ?_;(next=>first|exact trivial|omega);(next=>decide +kernel);(next=>first|exact aA.refl _|exact aA.au))|(refine dE 13 rfl rfl rfl rfl rfl rfl ?_ ?_ ?_ ?_;(next=>first|exact trivial|omega);(next=>decide +kernel);(next=>first|exact aA.refl _|exact aA.au)));all_goals (refine Zw.h ?_;apply id ⟨?_⟩)):G:=h
theorem bCw{G:Prop}(h:G:=by(first|(refine gD 0 rfl rfl rfl rfl rfl ?_ ?_ ?_;(next=>decide +kernel);(next=>first|exact aA.refl _|exact aA.au))|(refine gD 1 rfl rfl rfl rfl rfl ?_ ?_ ?_;(next=>decide +kernel);(next=>first|exact aA.refl _|exact aA.au))|(refine gD 2 rfl rfl rfl rfl rfl ?_ ?_ ?_;(next=>decide +kernel);(next=>first|exact aA.refl _|exact aA.au))|(refine gD 3 rfl rfl rfl rfl rfl ?_ ?_ ?_;(next=>decide +kernel);(next=>first|exact aA.refl _|exact aA.au))|(refine gD 4 rfl rfl rfl rfl rfl ?_ ?_ ?_;(next=>decide +kernel);(next=>first|exact aA.refl _|exact aA.au))|(refine gD 5 rfl rfl rfl rfl rfl ?_ ?_ ?_;(next=>decide +kernel);(next=>first|exact aA.refl _|exact aA.au))|(refine gD 6 rfl rfl rfl rfl rfl ?_ ?_ ?_;(next=>decide +kernel);(next=>first|exact aA.refl _|exact aA.au))|(refine gD 7 rfl rfl rfl rfl rfl ?_ ?_ ?_;(next=>decide +kernel);(next=>first|exact aA.refl _|exact aA.au))|(refine gD 8 rfl rfl rfl rfl rfl ?_ ?_ ?_;(next=>decide +kernel);(next=>first|exact aA.refl _|exact aA.au))|(refine gD 9 rfl rfl rfl rfl rfl ?_ ?_ ?_;(next=>decide +kernel);(next=>first|exact aA.refl _|exact aA.au))|(refine gD 10 rfl rfl rfl rfl rfl ?_ ?_ ?_;(next=>decide +kernel);(next=>first|exact aA.refl _|exact aA.au))|(refine gD 11 rfl rfl rfl rfl rfl ?_ ?_ ?_;(next=>decide +kernel);(next=>first|exact aA.refl _|exact aA.au))|(refine gD 12 rfl rfl rfl rfl rfl ?_ ?_ ?_;(next=>decide +kernel);(next=>first|exact aA.refl _|exact aA.au))|(refine gD 13 rfl rfl rfl rfl rfl ?_ ?_ ?_;(next=>decide +kernel);(next=>first|exact aA.refl _|exact aA.au)));all_goals (refine Zw.h ?_;apply id ⟨?_⟩)):G:=h
theorem cE{G:Prop}(h:G:=by(repeat' (first|refine zS ?_|refine wV ?_|(first|refine aP7)|(refine wU _ rfl rfl ?_)|refine vS ?_ ?_|exact vT|(refine wW ?_ ?_;(next=>first|exact aA.refl _|exact aA.au);(refine yI (rest':=?_) ?_ ?_;rotate_left;(next=>repeat (first|exact xR _ _|(refine xS (r':=?_) ?_ ?_;rotate_left;(next=>decide))))))|(first|(first|refine rW ?_|refine cc ?_|((first|refine sF rfl rfl rfl ?_ ?_|refine lss rfl rfl ?_ ?_|refine sH rfl rfl rfl ?_ ?_|refine rZ rfl rfl rfl rfl rfl ?_ rfl ?_);(next=>first|exact trivial|omega);intros)|refine rT rfl ?_|refine rR rfl ?_|refine rS rfl ?_|refine qX ?_|refine rX rfl rfl rfl ?_|refine rY rfl rfl ?_|refine sA rfl rfl (by kernel_rfl) rfl ?_|(refine sI rfl rfl rfl rfl (by kernel_rfl) rfl rfl ?_;intros)|(refine sJ rfl rfl ?_;intros)|(refine sD rfl (by omega) ?_;rintro _ rfl)|(refine sE rfl (by assumption) (by omega) ?_;rintro _ _ rfl _)|(refine nI rfl (by decide) (by decide +kernel) ?_;(repeat (first|(refine kM rfl rfl rfl ?_ ?_;(next=>first|exact trivial|omega))|refine pT rfl rfl rfl ?_|(refine pU rfl rfl rfl ?_ ?_;(next=>first|exact trivial|omega))));refine lH ?_)|(refine rQ rfl (by decide) (by decide +kernel) ?_;(repeat (first|(refine sQ rfl rfl rfl ?_ ?_;(next=>first|exact trivial|omega))|refine sR rfl rfl rfl ?_));refine sP ?_))|(refine uZ rfl rfl rfl ?_ ?_;(next=>first|exact trivial|omega))|refine uW rfl rfl (by kernel_rfl) rfl ?_|(refine uX rfl rfl rfl ?_ ?_;(next=>first|exact trivial|omega))|refine tQ rfl rfl rfl rfl ?_|refine tP rfl rfl rfl rfl ?_|((fail_if_success refine mG true rfl rfl rfl ?_);(fail_if_success refine mG false rfl rfl rfl ?_);refine uV rfl rfl rfl ?_ ?_<;>intro _<;>try (exfalso;first|contradiction|omega))|(refine tH rfl ?_ ?_<;>intro _<;>try (exfalso;first|contradiction|omega))|(refine sG rfl rfl rfl ?_ ?_;(next=>first|exact trivial|omega)))|fail));all_goals (refine Zw.h ?_;apply id ⟨?_⟩)):G:=h
theorem aBc{G:Prop}(h:G:=by(repeat' (first|refine zS ?_|refine wV ?_|(first|refine aP7|refine bCw|((fail_if_success refine aDp true rfl rfl rfl rfl rfl ?_);(fail_if_success refine aDp false rfl rfl rfl rfl rfl ?_);refine aHj rfl rfl rfl rfl rfl ?_ ?_<;>intro _<;>try (exfalso;first|contradiction|omega)))|(refine wU _ rfl rfl ?_)|refine vS ?_ ?_|exact vT|(refine wW ?_ ?_;(next=>first|exact aA.refl _|exact aA.au);(refine yI (rest':=?_) ?_ ?_;rotate_left;(next=>repeat (first|exact xR _ _|(refine xS (r':=?_) ?_ ?_;rotate_left;(next=>decide))))))|(first|(first|refine rW ?_|refine cc ?_|((first|refine sF rfl rfl rfl ?_ ?_|refine lss rfl rfl ?_ ?_|refine sH rfl rfl rfl ?_ ?_|refine rZ rfl rfl rfl rfl rfl ?_ rfl ?_);(next=>first|exact trivial|omega);intros)|refine rT rfl ?_|refine rR rfl ?_|refine rS rfl ?_|refine qX ?_|refine rX rfl rfl rfl ?_|refine rY rfl rfl ?_|refine sA rfl rfl (by kernel_rfl) rfl ?_|(refine sI rfl rfl rfl rfl (by kernel_rfl) rfl rfl ?_;intros)|(refine sJ rfl rfl ?_;intros)|(refine sD rfl (by omega) ?_;rintro _ rfl)|(refine sE rfl (by assumption) (by omega) ?_;rintro _ _ rfl _)|(refine nI rfl (by decide) (by decide +kernel) ?_;(repeat (first|(refine kM rfl rfl rfl ?_ ?_;(next=>first|exact trivial|omega))|refine pT rfl rfl rfl ?_|(refine pU rfl rfl rfl ?_ ?_;(next=>first|exact trivial|omega))));refine lH ?_)|(refine rQ rfl (by decide) (by decide +kernel) ?_;(repeat (first|(refine sQ rfl rfl rfl ?_ ?_;(next=>first|exact trivial|omega))|refine sR rfl rfl rfl ?_));refine sP ?_))|(refine uZ rfl rfl rfl ?_ ?_;(next=>first|exact trivial|omega))|refine uW rfl rfl (by kernel_rfl) rfl ?_|(refine uX rfl rfl rfl ?_ ?_;(next=>first|exact trivial|omega))|refine tQ rfl rfl rfl rfl ?_|refine tP rfl rfl rfl rfl ?_|((fail_if_success refine mG true rfl rfl rfl ?_);(fail_if_success refine mG false rfl rfl rfl ?_);refine uV rfl rfl rfl ?_ ?_<;>intro _<;>try (exfalso;first|contradiction|omega))|(refine tH rfl ?_ ?_<;>intro _<;>try (exfalso;first|contradiction|omega))|(refine sG rfl rfl rfl ?_ ?_;(next=>first|exact trivial|omega)))|fail));all_goals (refine Zw.h ?_;apply id ⟨?_⟩)):G:=h
open Go.RowKit
def aI:List (Nat×Value)→Nat→Option Value
 | [],_=>none
 | (k,v)::r,t=>match Nat.beq k t with|true=>some v|false=>aI r t
structure Tm(N:Nat)(ds:List Deferred)(σ:List (Nat×Value))(a:Act):Prop where
 size:a.tmps.size=N
 defers:a.defers=ds
 at_:∀t v,aI σ t=some v→a.tmps[t]? = some v
theorem nO(k t:Nat)(v:Value)(σ:List (Nat×Value)):aI ((k,v)::σ) t=if k=t then some v else aI σ t:=by
 simp only[aI];by_cases h:k=t
 ·subst h;simp
 ·rw[if_neg h];have:Nat.beq k t=false:=by
   cases hb:Nat.beq k t with
   | false=>rfl
   | true=>exact absurd (Nat.eq_of_beq_eq_true hb) h
  rw[this]
theorem Tm.put{N:Nat}{ds:List Deferred}{σ:List (Nat×Value)}{a:Act}(h:Tm N ds σ a)(d:Nat)(v:Value)(hd:d<N):Tm N ds ((d,v)::σ) (a.put (some d) v):=by
 refine⟨by simp[Act.put,h.size],by simp[Act.put,h.defers],fun t u ht=>?_⟩;rw[nO]at ht;simp only[Act.put,Array.getElem?_setIfInBounds];by_cases hk:d=t
 ·subst hk;rw[if_pos rfl]at ht ⊢;rw[if_pos (by rw[h.size];exact hd)];exact ht
 ·rw[if_neg hk]at ht ⊢;exact h.at_ t u ht
theorem Tm.put_none{N:Nat}{ds:List Deferred}{σ:List (Nat×Value)}{a:Act}(h:Tm N ds σ a)(v:Value):Tm N ds σ (a.put none v):=h
def uF:List (Nat×Value)→List (Nat×Value)→Prop
 | [],_=>True
 | (k,v)::r,σ=>aI σ k=some v∧uF r σ
theorem uF.look_{τ σ:List (Nat×Value)}(h:uF τ σ)(t:Nat)(v:Value)(ht:aI τ t=some v):aI σ t=some v:=by
 induction τ with
 | nil=>simp[aI]at ht
 | cons x r ih =>
  obtain⟨k,u⟩:=x;rw[nO]at ht;by_cases hk:k=t
  ·rw[if_pos hk]at ht;subst hk;obtain rfl:=by simpa using ht
   exact h.1
  ·rw[if_neg hk]at ht;exact ih h.2 ht
theorem Tm.part{N:Nat}{ds:List Deferred}{τ σ:List (Nat×Value)}{a:Act}(h:Tm N ds σ a)(hp:uF τ σ):Tm N ds τ a :=
 ⟨h.size,h.defers,fun t v ht=>h.at_ t v (hp.look_ t v ht)⟩
def ev(σ:List (Nat×Value)):Operand→Option Value
 | .tmp t=>aI σ t
 | .const v=>some v
 | .global g=>some (.pointer (some ⟨g,0,none⟩))
 | .func f=>some (.func (.func f) #[] #[])
theorem Tm.eval{N:Nat}{ds:List Deferred}{σ:List (Nat×Value)}{a:Act}(h:Tm N ds σ a){x:Operand}{v:Value}(hx:ev σ x=some v):a.eval x=v:=by
 cases x with
 | tmp t =>
  have:=h.at_ t v hx;simp[Act.eval,this]
 | const u=>simpa [ev,Act.eval] using hx
 | global g=>simpa [ev,Act.eval] using hx
 | func f=>simpa [ev,Act.eval] using hx
inductive HE where
 | blk (b:Nat) (t:TypeId) (cs:List Value)
 | row (v:Value) (e:TypeId) (size n:Nat) (xs:List Value)
 | obj (b:Nat) (o:Obj)
 | loop (b N:Nat) (σ:List (Nat×Value)) (ps:Array Tmp) (assign body:Code) (st:LoopState) (pend:Option Code)
def HE.block:HE→Option Nat
 | .blk b _ _=>some b
 | .row v _ _ _ _=>v.ownBlock
 | .obj b _=>some b
 | .loop b _ _ _ _ _ _ _=>some b
def aPg(N:Nat)(σ:List (Nat×Value))(ps:Array Tmp)(assign body:Code)(st:LoopState)(pend:Option Code)(r:Loop):Prop :=
 r.state=st∧r.pending=pend∧r.params=ps∧r.assign=assign∧r.body=body∧r.tmps.size=N∧∀t v,aI σ t=some v→r.tmps[t]? = some v
def HE.holds(w:World):HE→Prop
 | .blk b t cs=>w.heap[b]? = some (.cells cs.toArray t (0,0))
 | .row v e size n xs=>w.ownsRow 0 e size v n xs
 | .obj b o=>w.heap[b]? = some o
 | .loop b N σ ps assign body st pend=>∃r,w.heap[b]? = some (.loop r)∧aPg N σ ps assign body st pend r
def HE.apart(x y:HE):Prop:=x.block=none∨x.block≠y.block
structure aZ(H:List HE)(w:World):Prop where
 holds:∀x∈H,x.holds w
 apart:H.Pairwise HE.apart
structure St(w0:World)(W:Nat→Prop)(H:List HE)(w:World):Prop where
 os:w.os=w0.os
 tape:w.tape=w0.tape
 output:w.output=w0.output
 size:w0.heap.size≤w.heap.size
 old:∀b,b<w0.heap.size→¬W b→w.heap[b]? = w0.heap[b]?
 own:aZ H w
 mine:∀x∈H,∀b,x.block=some b→W b∨w0.heap.size≤b
def bB(H:List HE)(b:Nat):Prop:=∃x∈H,x.block=some b
theorem HE.apart_symm{x y:HE}(h:x.apart y):y.apart x:=by
 rcases h with h|h
 ·by_cases hy:y.block=none
  ·exact .inl hy
  ·exact .inr (by rw[h];exact hy)
 ·exact .inr (Ne.symm h)
theorem HE.lt{x:HE}{w:World}(h:x.holds w){b:Nat}(hb:x.block=some b):b<w.heap.size:=by
 have key:∀(g:Nat) (o:Obj),w.heap[g]? = some o→g<w.heap.size:=fun g o hg=>(Array.getElem?_eq_some_iff.1 hg).1;cases x with
 | blk g t cs=>simp only[HE.block,Option.some.injEq]at hb;subst hb;exact key _ _ h
 | row v e size n xs =>
  rcases h.2 with⟨rfl,_⟩ | ⟨g,cap,cur,rfl,_,hg,_⟩
  ·simp[HE.block,Value.ownBlock]at hb
  ·simp only[HE.block,Value.ownBlock,Option.some.injEq]at hb;subst hb;exact key _ _ hg
 | obj g o=>simp only[HE.block,Option.some.injEq]at hb;subst hb;exact key _ _ h
 | loop g N σ ps assign body st pend=>simp only[HE.block,Option.some.injEq]at hb;subst hb;obtain⟨r,hr,_⟩:=h;exact key _ _ hr
theorem HE.keep{x:HE}{w w':World}(h:x.holds w)(hk:∀b,x.block=some b→w'.heap[b]? = w.heap[b]?):x.holds w':=by
 cases x with
 | blk g t cs=>exact(hk g rfl).trans h
 | row v e size n xs =>
  refine⟨h.1,?_⟩;rcases h.2 with h0 | ⟨g,cap,cur,rfl,hb,hg,hr⟩
  ·exact .inl h0
  ·exact .inr ⟨g,cap,cur,rfl,hb,(hk g rfl).trans hg,hr⟩
 | obj g o=>exact(hk g rfl).trans h
 | loop g N σ ps assign body st pend=>obtain⟨r,hr,h2⟩:=h;exact⟨r,(hk g rfl).trans hr,h2⟩
theorem St.start{H:List HE}{w:World}(h:aZ H w):St w (bB H) H w :=
 ⟨rfl,rfl,rfl,Nat.le_refl _,fun _ _ _=>rfl,h,fun x hx b hb=>.inl ⟨x,hx,hb⟩⟩
inductive aP:List HE→HE→List HE→Prop
 | here (x:HE) (r:List HE):aP (x::r) x r
 | there (y:HE) {r:List HE} {x:HE} {r':List HE} (h:aP r x r'):aP (y::r) x (y::r')
theorem aP.perm{H:List HE}{x:HE}{R:List HE}(h:aP H x R):H.Perm (x::R):=by
 induction h with
 | here=>exact .refl _
 | there y _ ih=>exact((ih.cons y).trans (.swap _ _ _))
inductive aA:List HE→List HE→Prop
 | nil (H:List HE):aA [] H
 | cons {x:HE} {S H R:List HE} (h:aP H x R) (k:aA S R):aA (x::S) H
inductive aC:List HE→List HE→List HE→Prop
 | nil (H:List HE):aC H [] H
 | cons {x:HE} {S H R T:List HE} (h:aP H x R) (k:aC R S T):aC H (x::S) T
theorem aC.perm{H S R:List HE}(h:aC H S R):H.Perm (S++R):=by
 induction h with
 | nil=>exact .refl _
 | cons h _ ih=>exact h.perm.trans (ih.cons _)
theorem aA.split{S H:List HE}(h:aA S H):∃R,aC H S R:=by
 induction h with
 | nil H=>exact⟨H,.nil H⟩
 | cons h _ ih=>exact let ⟨R,hr⟩:=ih;⟨R,.cons h hr⟩
theorem aA.skip{S H:List HE}(h:aA S H)(y:HE):aA S (y::H):=by
 induction h generalizing y with
 | nil H=>exact .nil _
 | cons h _ ih=>exact .cons (.there y h) (ih y)
theorem aA.refl(H:List HE):aA H H:=by
 induction H with
 | nil=>exact .nil _
 | cons x r ih=>exact .cons (.here x r) ih
theorem aZ.perm{H H':List HE}{w:World}(h:aZ H w)(hp:H.Perm H'):aZ H' w :=
 ⟨fun x hx=>h.holds x (hp.mem_iff.2 hx),(hp.pairwise_iff fun hxy=>HE.apart_symm hxy).1 h.apart⟩
theorem St.perm{w0 w:World}{W:Nat→Prop}{H H':List HE}(h:St w0 W H w)(hp:H.Perm H'):St w0 W H' w :=
 ⟨h.os,h.tape,h.output,h.size,h.old,h.own.perm hp,fun x hx=>h.mine x (hp.mem_iff.2 hx)⟩
theorem St.left{w0 w:World}{W:Nat→Prop}{S R:List HE}(h:St w0 W (S++R) w):St w0 W S w :=
 ⟨h.os,h.tape,h.output,h.size,h.old,⟨fun x hx=>h.own.holds x (List.mem_append_left _ hx),(List.pairwise_append.1 h.own.apart).1⟩,fun x hx=>h.mine x (List.mem_append_left _ hx)⟩
theorem St.sub{w0 w:World}{W:Nat→Prop}{S H:List HE}(h:St w0 W H w)(hs:aA S H):St w0 W S w :=
 let ⟨_,hr⟩:=hs.split
 (h.perm hr.perm).left
theorem St.call{w0 w w':World}{W:Nat→Prop}{H S R S':List HE}(h:St w0 W H w)(hs:aC H S R)(k:St w (bB S) S' w'):St w0 W (S'++R) w':=by
 have h1:=h.perm hs.perm;have hdis:∀x∈R,∀b,x.block=some b→¬bB S b:=by
  rintro x hx b hb ⟨y,hy,hyb⟩;have:=(List.pairwise_append.1 h1.own.apart).2.2 y hy x hx;rcases this with h0|h0
  ·rw[h0]at hyb;cases hyb
  ·exact h0 (by rw[hyb,hb])
 have hlt:∀x∈R,∀b,x.block=some b→b<w.heap.size:=fun x hx b hb=>HE.lt (h1.own.holds x (List.mem_append_right _ hx)) hb;refine⟨k.os.trans h.os,k.tape.trans h.tape,k.output.trans h.output,Nat.le_trans h.size k.size,fun b hb hW=>?_,⟨fun x hx=>?_,?_⟩,fun x hx b hb=>?_⟩
 ·by_cases hS:bB S b
  ·obtain⟨y,hy,hyb⟩:=hS;rcases h1.mine y (List.mem_append_left _ hy) b hyb with h0|h0
   ·exact absurd h0 hW
   ·omega
  ·exact(k.old b (Nat.lt_of_lt_of_le hb h.size) hS).trans (h.old b hb hW)
 ·rcases List.mem_append.1 hx with hx|hx
  ·exact k.own.holds x hx
  ·exact HE.keep (h1.own.holds x (List.mem_append_right _ hx)) fun b hb=>k.old b (hlt x hx b hb) (hdis x hx b hb)
 ·refine List.pairwise_append.2 ⟨k.own.apart,(List.pairwise_append.1 h1.own.apart).2.1,fun x hx y hy=>?_⟩;cases hxb:x.block with
  | none=>exact .inl hxb
  | some b =>
   refine .inr fun he=>?_;rw[hxb]at he;rcases k.mine x hx b hxb with h0|h0
   ·exact hdis y hy b he.symm h0
   ·have:=hlt y hy b he.symm;omega
 ·rcases List.mem_append.1 hx with hx|hx
  ·rcases k.mine x hx b hb with⟨y,hy,hyb⟩|h0
   ·exact h1.mine y (List.mem_append_left _ hy) b hyb
   ·exact .inr (Nat.le_trans h.size h0)
  ·exact h1.mine x (List.mem_append_right _ hx) b hb
theorem St.drew{w0 w:World}{W:Nat→Prop}{H:List HE}(h:St w0 W H w):St w0 W H { w with drawn:=w.drawn+1 } :=
 ⟨h.os,h.tape,h.output,h.size,h.old,⟨fun x hx=>HE.keep (h.own.holds x hx) fun _ _=>rfl,h.own.apart⟩,h.mine⟩
theorem St.alloc{w0 w:World}{W:Nat→Prop}{H:List HE}(h:St w0 W H w)(cs:List Value)(t:TypeId):St w0 W (.blk w.heap.size t cs::H) (w.alloc (.cells cs.toArray t)):=by
 refine⟨h.os,h.tape,h.output,Nat.le_trans h.size aE,fun b hb hW=>(Below.heap_alloc w _ b (Nat.lt_of_lt_of_le hb h.size)).trans (h.old b hb hW),⟨fun x hx=>?_,?_⟩,fun x hx b hb=>?_⟩
 ·rcases List.mem_cons.1 hx with rfl|hx
  ·exact heap_alloc_new w _
  ·exact HE.keep (h.own.holds x hx) fun b hb=>Below.heap_alloc w _ b (HE.lt (h.own.holds x hx) hb)
 ·refine List.pairwise_cons.2 ⟨fun y hy=>.inr fun he=>?_,h.own.apart⟩;have:=HE.lt (h.own.holds y hy) he.symm;simp at this
 ·rcases List.mem_cons.1 hx with rfl|hx
  ·simp only[HE.block,Option.some.injEq]at hb;subst hb;exact .inr h.size
  ·exact h.mine x hx b hb
theorem St.turn{w0 w w':World}{W:Nat→Prop}{H R:List HE}{x y:HE}(h:St w0 W H w)(hx:aP H x R)(hy:y.holds w')
  (hos:w'.os=w.os) (ht:w'.tape=w.tape) (ho:w'.output=w.output) (hsz:w.heap.size≤w'.heap.size)
  (hk:∀b,b<w.heap.size→x.block≠some b→w'.heap[b]? = w.heap[b]?) (hb:y.block=x.block∨∃b,y.block=some b∧w.heap.size≤b):St w0 W (y::R) w':=by
 have h1:=h.perm hx.perm;have hap:=List.pairwise_cons.1 h1.own.apart;have hne:∀z∈R,∀b,z.block=some b→x.block≠some b:=fun z hz b hzb he=>by
  rcases hap.1 z hz with h0|h0
  ·rw[h0]at he;cases he
  ·exact h0 (he.trans hzb.symm)
 have hlt:∀z∈R,∀b,z.block=some b→b<w.heap.size:=fun z hz b hzb=>HE.lt (h1.own.holds z (List.mem_cons_of_mem _ hz)) hzb;refine⟨hos.trans h.os,ht.trans h.tape,ho.trans h.output,Nat.le_trans h.size hsz,fun b hb hW=>?_,⟨fun z hz=>?_,?_⟩,fun z hz b hzb=>?_⟩
 ·by_cases hxb:x.block=some b
  ·rcases h1.mine x (List.mem_cons_self ..) b hxb with h0|h0
   ·exact absurd h0 hW
   ·omega
  ·exact(hk b (Nat.lt_of_lt_of_le hb h.size) hxb).trans (h.old b hb hW)
 ·rcases List.mem_cons.1 hz with rfl|hz
  ·exact hy
  ·exact HE.keep (h1.own.holds z (List.mem_cons_of_mem _ hz)) fun b hzb=>hk b (hlt z hz b hzb) (hne z hz b hzb)
 ·refine List.pairwise_cons.2 ⟨fun z hz=>?_,hap.2⟩;rcases hb with hb | ⟨b,hyb,hge⟩
  ·rcases hap.1 z hz with h0|h0
   ·exact .inl (hb.trans h0)
   ·exact .inr (by rw[hb];exact h0)
  ·refine .inr fun he=>?_;have:=hlt z hz b (he.symm.trans hyb);omega
 ·rcases List.mem_cons.1 hz with rfl|hz
  ·rcases hb with hb | ⟨b',hyb,hge⟩
   ·exact h1.mine x (List.mem_cons_self ..) b (hb.symm.trans hzb)
   ·rw[hyb]at hzb;injection hzb with hzb;subst hzb;exact .inr (Nat.le_trans h.size hge)
  ·exact h1.mine z (List.mem_cons_of_mem _ hz) b hzb
def J(N:Nat)(ds:List Deferred)(w0:World)(W:Nat→Prop)(σ:List (Nat×Value))(H:List HE)(Q:Act→World→Prop):Prop :=
 ∀a w,Tm N ds σ a→St w0 W H w→Q a w
structure Wd(F:Fence):Prop where
 fn:∀f,F.fn f
 depth:F.depth=none
theorem bCa:Wd Fence.wide:=⟨fun _=>trivial,rfl⟩
theorem Wd.round{F:Fence}(h:Wd F)(l:Nat):Wd (F.inRound l):=⟨h.fn,h.depth⟩
section code
variable {F:Fence} {n:Nat} {P:Program} {N:Nat} {ds:List Deferred} {w0:World} {W:Nat→Prop} {σ:List (Nat×Value)} {H:List HE} {Q K:Exit→Act→World→Prop} {k:Act→World→Prop}
theorem J.mono{Q Q':Act→World→Prop}(h:J N ds w0 W σ H Q)(hq:∀a w,Q a w→Q' a w):J N ds w0 W σ H Q':=fun a w ha hw=>hq a w (h a w ha hw)
theorem aBx{x y:Code}(h:J N ds w0 W σ H (x.wpIn F n P (Exit.then (y.wpIn F n P Q) Q))):J N ds w0 W σ H ((Code.seq x y).wpIn F n P Q) :=
 fun a w ha hw=>wpIn_seq (h a w ha hw)
theorem aRd(h:J N ds w0 W σ H (Q .normal)):J N ds w0 W σ H (Code.skip.wpIn F n P Q):=fun a w ha hw=>wpIn_skip (h a w ha hw)
theorem aRa(h:J N ds w0 W σ H (Q .ret)):J N ds w0 W σ H (Code.ret.wpIn F n P Q):=fun a w ha hw=>wpIn_ret (h a w ha hw)
theorem aR1{id:Nat}(h:J N ds w0 W σ H (Q (.exit id))):J N ds w0 W σ H ((Code.exit id).wpIn F n P Q):=fun a w ha hw=>wpIn_exit (h a w ha hw)
theorem aIt{id:Nat}{c:Code}(h:J N ds w0 W σ H (c.wpIn F n P (Exit.inBlock id Q))):J N ds w0 W σ H ((Code.block id c).wpIn F n P Q):=fun a w ha hw=>wpIn_block (h a w ha hw)
theorem fB{c:Operand}{x y:Code}{e:Bool}(hc:ev σ c=some (.bool e))(ht:e=true→J N ds w0 W σ H (x.wpIn F n P Q))(hf:e=false→J N ds w0 W σ H (y.wpIn F n P Q)):
  J N ds w0 W σ H ((Code.cond c x y).wpIn F n P Q) :=
 fun a w ha hw=>wpIn_cond_split (ha.eval hc) (fun h=>ht h a w ha hw) (fun h=>hf h a w ha hw)
theorem rT{c:Operand}{x y:Code}(hc:ev σ c=some (.bool true))(ht:J N ds w0 W σ H (x.wpIn F n P Q)):J N ds w0 W σ H ((Code.cond c x y).wpIn F n P Q) :=
 fun a w ha hw=>wpIn_cond_true (ha.eval hc) (ht a w ha hw)
theorem rR{c:Operand}{x y:Code}(hc:ev σ c=some (.bool false))(hf:J N ds w0 W σ H (y.wpIn F n P Q)):J N ds w0 W σ H ((Code.cond c x y).wpIn F n P Q) :=
 fun a w ha hw=>wpIn_cond_false (ha.eval hc) (hf a w ha hw)
theorem aR7{id:Nat}{l:List Oper}(h:J N ds w0 W σ H (wpListIn F n P l.toArray Q l)):J N ds w0 W σ H ((Code.region id l.toArray false).wpIn F n P Q) :=
 fun a w ha hw=>wpIn_region_lit (h a w ha hw)
theorem aRf(h:J N ds w0 W σ H k):J N ds w0 W σ H (Exit.then k Q .normal):=h
theorem aRg(h:J N ds w0 W σ H (Q .ret)):J N ds w0 W σ H (Exit.then k Q .ret):=h
theorem aRe{id:Nat}(h:J N ds w0 W σ H (Q (.exit id))):J N ds w0 W σ H (Exit.then k Q (.exit id)):=h
theorem aR3{id:Nat}(h:J N ds w0 W σ H (Q .normal)):J N ds w0 W σ H (Exit.inBlock id Q .normal):=h
theorem aR4{id:Nat}(h:J N ds w0 W σ H (Q .ret)):J N ds w0 W σ H (Exit.inBlock id Q .ret):=h
theorem aR2{id:Nat}(h:J N ds w0 W σ H (Q .normal)):J N ds w0 W σ H (Exit.inBlock id Q (.exit id)):=fun a w ha hw=>by simp only[Exit.inBlock,if_pos];exact h a w ha hw
theorem rS{id id':Nat}(hne:Nat.beq id' id=false)(h:J N ds w0 W σ H (Q (.exit id'))):J N ds w0 W σ H (Exit.inBlock id Q (.exit id')):=fun a w ha hw=>by
 have:¬id'=id:=fun e=>by subst e;simp at hne
 simp only[Exit.inBlock,if_neg this];exact h a w ha hw
theorem cG{c:Code}{X:Type}(R:X→Prop)(σI:X→List (Nat×Value))(HI:X→List HE)(μ:X→Nat)(x0:X)(h0:R x0)(hp:uF (σI x0) σ)(hs:aA (HI x0) H)
  (round:∀x,R x→J N ds w0 W (σI x) (HI x) (c.wpIn F n P (Exit.then (fun a w=>∃y,R y∧μ y<μ x∧Tm N ds (σI y) a∧St w0 W (HI y) w) Q))) :
  J N ds w0 W σ H ((Code.loop c).wpIn F n P Q):=by
 intro a w ha hw;have key:∀x a w,R x→Tm N ds (σI x) a→St w0 W (HI x) w→(Code.loop c).wpIn F n P Q a w:=by
   intro x a w hR ha hw;let p:Act→World→Nat→Prop:=fun a' w' k=>∃y,μ y=k∧R y∧Tm N ds (σI y) a'∧St w0 W (HI y) w';refine wpIn_loop (fun a' w'=>∃k,p a' w' k) (fun a' w'=>leastOf (p a' w')) ⟨_,x,rfl,hR,ha,hw⟩ ?_;rintro a1 w1 hex;obtain⟨⟨z,hz,hzR,hza,hzw⟩,-⟩:=leastOf_spec hex;refine wpIn_mono (round z hzR a1 w1 hza hzw) ?_;rintro e a2 w2 hq;cases e with
   | normal =>
    obtain⟨y2,h1,h2,h3,h4⟩:=hq;have hex2:∃k,p a2 w2 k:=⟨_,y2,rfl,h1,h3,h4⟩;have:=(leastOf_spec hex2).2 _ ⟨y2,rfl,h1,h3,h4⟩;exact⟨hex2,oo⟩
   | _=>exact hq
 exact key x0 a w h0 (ha.part hp) (hw.sub hs)
theorem aR6{c:Code}{X:Type}(R:X→Prop)(DS:X→List Deferred)(σI:X→List (Nat×Value))(HI:X→List HE)(μ:X→Nat)(x0:X)(h0:R x0)(hds:DS x0=ds)(hp:uF (σI x0) σ)(hs:aA (HI x0) H)
  (round:∀x,R x→J N (DS x) w0 W (σI x) (HI x) (c.wpIn F n P (Exit.then (fun a w=>∃y,R y∧μ y<μ x∧Tm N (DS y) (σI y) a∧St w0 W (HI y) w) Q))) :
  J N ds w0 W σ H ((Code.loop c).wpIn F n P Q):=by
 subst hds;intro a w ha hw;have key:∀x a w,R x→Tm N (DS x) (σI x) a→St w0 W (HI x) w→(Code.loop c).wpIn F n P Q a w:=by
   intro x a w hR ha hw;let p:Act→World→Nat→Prop:=fun a' w' k=>∃y,μ y=k∧R y∧Tm N (DS y) (σI y) a'∧St w0 W (HI y) w';refine wpIn_loop (fun a' w'=>∃k,p a' w' k) (fun a' w'=>leastOf (p a' w')) ⟨_,x,rfl,hR,ha,hw⟩ ?_;rintro a1 w1 hex;obtain⟨⟨z,hz,hzR,hza,hzw⟩,-⟩:=leastOf_spec hex;refine wpIn_mono (round z hzR a1 w1 hza hzw) ?_;rintro e a2 w2 hq;cases e with
   | normal =>
    obtain⟨y2,h1,h2,h3,h4⟩:=hq;have hex2:∃k,p a2 w2 k:=⟨_,y2,rfl,h1,h3,h4⟩;have:=(leastOf_spec hex2).2 _ ⟨y2,rfl,h1,h3,h4⟩;exact⟨hex2,oo⟩
   | _=>exact hq
 exact key x0 a w h0 (ha.part hp) (hw.sub hs)
theorem aEo{X:Type}{R M:X→Prop}{DS:X→List Deferred}{σI:X→List (Nat×Value)}{HI:X→List HE}(y:X)(hR:R y)(hμ:M y)(hds:DS y=ds)(hp:uF (σI y) σ)(hs:aA (HI y) H):
  J N ds w0 W σ H (fun a w=>∃y,R y∧M y∧Tm N (DS y) (σI y) a∧St w0 W (HI y) w) :=
 fun _ _ ha hw=>⟨y,hR,hμ,by rw[hds];exact ha.part hp,hw.sub hs⟩
theorem aR{X:Type}{R M:X→Prop}{σI:X→List (Nat×Value)}{HI:X→List HE}(y:X)(hR:R y)(hμ:M y)(hp:uF (σI y) σ)(hs:aA (HI y) H):
  J N ds w0 W σ H (fun a w=>∃y,R y∧M y∧Tm N ds (σI y) a∧St w0 W (HI y) w) :=
 fun _ _ ha hw=>⟨y,hR,hμ,ha.part hp,hw.sub hs⟩
end code
class aU(F:Fence):Prop where out:Wd F
class aN(P:Program)(t:TypeId)(d:outParam TypeDesc):Prop where h:P.underlying t=some d
class bF(P:Program)(t:TypeId)(size bytes:outParam Nat)(z:outParam Value):Prop where h:∃i,P.info? t=some i∧i.zero=some z∧i.size=size∧i.bytes=bytes
class Cl(P:Program)(f:FuncId):Prop where h:∀args w,(callFunc f args).run P w=.ok (.enter f args) w
class Fa(P:Program)(s f:Nat)(off:outParam Nat):Prop where h:∃fs fld i,P.underlying s=some (.struct fs)∧fs[f]? = some fld∧P.info? fld.type=some i∧i.size≠0∧fld.offset=off
def oO:TypeDesc→Bool
 | .struct _ | .array _ _=>true
 | _=>false
def bT(ops:Array Oper)(σ:List (Nat×Value))(o:Oper):Option Bool :=
 match o.guard with
 | none=>some true
 | some (j,b) =>
  match (ops[j]?).bind (·.dst) with
  | some t=>match aI σ t with
   | some (.bool c)=>some (c==b)
   | some (.tuple _)=>some false
   | _=>none
  | none=>none
def OJ(F:Fence)(n:Nat)(P:Program)(N:Nat)(ds:List Deferred)(w0:World)(W:Nat→Prop)(σ:List (Nat×Value))(H:List HE)(o:Oper)(K:Act→World→Prop)(Q:Exit→Act→World→Prop):Prop :=
 J N ds w0 W σ H (fun a w=>o.wpIn F n P a w K Q)
section
variable {F:Fence} {n:Nat} {P:Program} {N:Nat} {ds:List Deferred} {w0:World} {W:Nat→Prop} {σ:List (Nat×Value)} {H:List HE} {Q:Exit→Act→World→Prop} {K:Act→World→Prop}
variable {ops:Array Oper} {rest:List Oper} {o:Oper}
theorem aB9{e:Bool}{a:Act}(ha:Tm N ds σ a)(hw:bT ops σ o=some e):Region.wanted o (yielded ops a.tmps)=e:=by
 unfold bT at hw;unfold Region.wanted;cases hg:o.guard with
 | none=>simp[hg]at hw;simp[hw]
 | some g =>
  obtain⟨j,b⟩:=g;simp only[hg]at hw ⊢;cases ht:(ops[j]?).bind (·.dst) with
  | none=>simp[ht]at hw
  | some t =>
   simp only[ht]at hw;cases hl:aI σ t with
   | none=>simp[hl]at hw
   | some v =>
    simp only[hl]at hw;cases v<;>simp at hw
    case bool c =>
     have hc:=ha.at_ t _ hl;simp only[yielded,ht,Option.bind_some,hc];rw[← hw];cases c<;>cases b<;>rfl
    case tuple vs =>
     have hc:=ha.at_ t _ hl;simp only[yielded,ht,Option.bind_some,hc];rw[hw];rfl
theorem qX(h:J N ds w0 W σ H (Q .normal)):J N ds w0 W σ H (wpListIn F n P ops Q []):=fun a w ha hw=>wpListIn_nil (h a w ha hw)
theorem jZ(hw:bT ops σ o=some true)(h:OJ F n P N ds w0 W σ H o (wpListIn F n P ops Q rest) Q):J N ds w0 W σ H (wpListIn F n P ops Q (o::rest)) :=
 fun a w ha hs=>wpListIn_step fun K hK=>by rw[if_pos (aB9 ha hw)];exact Oper.wpIn_mono hK (h a w ha hs)
theorem rX[hF:aU F]{d:Nat}(hw:bT ops σ o=some false)(hd:o.dst=some d)(hdN:Nat.blt d N=true)(h:J N ds w0 W ((d,undef)::σ) H (wpListIn F n P ops Q rest)):J N ds w0 W σ H (wpListIn F n P ops Q (o::rest)) :=
 fun a w ha hs=>wpListIn_step fun K hK=>by rw[aB9 ha hw];refine⟨fun f _=>hF.out.fn f,hK _ _ ?_⟩;rw[hd];exact h _ _ (ha.put d undef (by simpa using hdN)) hs
theorem rY[hF:aU F](hw:bT ops σ o=some false)(hd:o.dst=none)(h:J N ds w0 W σ H (wpListIn F n P ops Q rest)):J N ds w0 W σ H (wpListIn F n P ops Q (o::rest)) :=
 fun a w ha hs=>wpListIn_step fun K hK=>by rw[aB9 ha hw];refine⟨fun f _=>hF.out.fn f,hK _ _ ?_⟩;rw[hd];exact h _ _ (ha.put_none undef) hs
theorem nM(t:Nat){c:Bool}{q:Act→World→Prop}(hl:aI σ t=some (.bool c))(ht:c=true→J N ds w0 W ((t,.bool true)::σ) H q)(hf:c=false→J N ds w0 W ((t,.bool false)::σ) H q):J N ds w0 W σ H q:=by
 intro a w ha hw;cases c with
 | true =>
  refine ht rfl a w ⟨ha.size,ha.defers,fun s v hs=>?_⟩ hw;rw[nO]at hs;by_cases h:t=s
  ·subst h;rw[if_pos rfl]at hs;obtain rfl:=by simpa using hs
   exact ha.at_ t _ hl
  ·rw[if_neg h]at hs;exact ha.at_ s v hs
 | false =>
  refine hf rfl a w ⟨ha.size,ha.defers,fun s v hs=>?_⟩ hw;rw[nO]at hs;by_cases h:t=s
  ·subst h;rw[if_pos rfl]at hs;obtain rfl:=by simpa using hs
   exact ha.at_ t _ hl
  ·rw[if_neg h]at hs;exact ha.at_ s v hs
theorem eY(t:Nat)(v:Value){q:Act→World→Prop}(hl:aI σ t=some v){v':Value}(he:v=v')(h:J N ds w0 W ((t,v')::σ) H q):J N ds w0 W σ H q:=by
 subst he;intro a w ha hw;refine h a w ⟨ha.size,ha.defers,fun s u hs=>?_⟩ hw;rw[nO]at hs;by_cases h:t=s
 ·subst h;rw[if_pos rfl]at hs;obtain rfl:=by simpa using hs
  exact ha.at_ t _ hl
 ·rw[if_neg h]at hs;exact ha.at_ s u hs
theorem jP{H':List HE}{q:Act→World→Prop}(hp:aA H' H)(h:J N ds w0 W σ H' q):J N ds w0 W σ H q:=fun a w ha hw=>h a w ha (hw.sub hp)
theorem dW[hF:aU F]{d:Nat}{v:Value}(hnd:∀c,o.op≠.defer c)(hd:o.dst=some d)(hdN:Nat.blt d N=true)
  (hrun:∀a w,Tm N ds σ a→St w0 W H w→(execOp a.eval o).run P w=.ok (.value v) w) (h:J N ds w0 W ((d,v)::σ) H K):OJ F n P N ds w0 W σ H o K Q:=by
 intro a w ha hw;refine⟨fun f _=>hF.out.fn f,?_⟩;rw[Oper.semAt_plain F _ _ hnd,hrun a w ha hw,Oper.uponIn_value,hd];exact h _ _ (ha.put d v (by simpa using hdN)) hw
variable {d:Nat} {ty:TypeId} {pos:String} {aft:Array Edge} {gd:Option (Nat×Bool)}
theorem aZ7[aU F]{x:Operand}{v:Value}(hx:ev σ x=some v)(hdN:Nat.blt d N=true)(h:J N ds w0 W ((d,v)::σ) H K):OJ F n P N ds w0 W σ H ⟨some d,.move x,ty,pos,aft,gd⟩ K Q :=
 dW aE rfl hdN (fun a w ha _=>by simp[execOp,ha.eval hx]) h
theorem aYr[aU F]{x:Operand}{v:Value}(hx:ev σ x=some v)(hdN:Nat.blt d N=true)(h:J N ds w0 W ((d,v)::σ) H K):OJ F n P N ds w0 W σ H ⟨some d,.assign x,ty,pos,aft,gd⟩ K Q :=
 dW aE rfl hdN (fun a w ha _=>by simp[execOp,ha.eval hx]) h
theorem aGx[aU F]{c x y:Operand}{v:Value}(hc:ev σ c=some (.bool true))(hx:ev σ x=some v)(hdN:Nat.blt d N=true)(h:J N ds w0 W ((d,v)::σ) H K):OJ F n P N ds w0 W σ H ⟨some d,.pick c x y,ty,pos,aft,gd⟩ K Q :=
 dW aE rfl hdN (fun a w ha _=>by simp[execOp,ha.eval hx,ha.eval hc,asBool]) h
theorem aGw[aU F]{c x y:Operand}{v:Value}(hc:ev σ c=some (.bool false))(hx:ev σ y=some v)(hdN:Nat.blt d N=true)(h:J N ds w0 W ((d,v)::σ) H K):OJ F n P N ds w0 W σ H ⟨some d,.pick c x y,ty,pos,aft,gd⟩ K Q :=
 dW aE rfl hdN (fun a w ha _=>by simp[execOp,ha.eval hx,ha.eval hc,asBool]) h
theorem aZ9[aU F]{x:Operand}{p:Addr}(hx:ev σ x=some (.pointer (some p)))(hdN:Nat.blt d N=true)(h:J N ds w0 W ((d,.pointer (some p))::σ) H K):OJ F n P N ds w0 W σ H ⟨some d,.nilCheck x,ty,pos,aft,gd⟩ K Q :=
 dW aE rfl hdN (fun a w ha _=>by simp[execOp,ha.eval hx]) h
def tF(op:BinOp)(k:IntKind)(a b:Int):Option Value :=
 match op with
 | .add=>some (.int k (k.wrap (a+b)))
 | .sub=>some (.int k (k.wrap (a-b)))
 | .mul=>some (.int k (k.wrap (a*b)))
 | .and=>some (.int k (bits .and k a b))
 | .or=>some (.int k (bits .or k a b))
 | .xor=>some (.int k (bits .xor k a b))
 | .andNot=>some (.int k (bits .andNot k a b))
 | .eql=>some (.bool (a==b))
 | .neq=>some (.bool (a != b))
 | .lss=>some (.bool (decide (a<b)))
 | .leq=>some (.bool (decide (a≤b)))
 | .gtr=>some (.bool (decide (b<a)))
 | .geq=>some (.bool (decide (b≤a)))
 | _=>none
theorem aN5{op:BinOp}{k:IntKind}{a b:Int}{v:Value}(h:tF op k a b=some v)(t:TypeId)(x y:Operand)(w:World):
  (do eqGuard op t x y (.int k a) (.int k b);binOp op t (.int k a) (.int k b):Sem Value).run P w=.ok v w:=by
 cases op<;>simp[tF]at h<;>subst h<;>simp[eqGuard,binOp,Op.intArith,Op.intBits,Op.intCmp,bits]
theorem oI[aU F]{op:BinOp}{t u:TypeId}{x y:Operand}{k:IntKind}{a b:Int}{v:Value}(hx:ev σ x=some (.int k a))(hy:ev σ y=some (.int k b))(hv:tF op k a b=some v)(hdN:Nat.blt d N=true)
  (h:J N ds w0 W ((d,v)::σ) H K):OJ F n P N ds w0 W σ H ⟨some d,.binOp op t x y u,ty,pos,aft,gd⟩ K Q :=
 dW aE rfl hdN (fun a w ha _=>by have:=aN5 (P:=P) hv t x y w;simp only[execOp,ha.eval hx,ha.eval hy];rw[Sem.run_bind,this];rfl) h
@[reducible] def bG:IntKind→Int→Prop
 | .i64,c=>-9223372036854775808≤c∧c≤9223372036854775807
 | .i32,c=>-2147483648≤c∧c≤2147483647
 | .i16,c=>-32768≤c∧c≤32767
 | .i8,c=>-128≤c∧c≤127
 | .u64,c=>0≤c∧c≤18446744073709551615
 | .u32,c=>0≤c∧c≤4294967295
 | .u16,c=>0≤c∧c≤65535
 | .u8,c=>0≤c∧c≤255
theorem mJ{k:IntKind}{c:Int}(h:bG k c):k.wrap c=c:=by cases k<;>simp only[bG]at h<;>simp[IntKind.wrap,IntKind.bits,IntKind.signed]<;>omega
@[reducible] def vO:IntKind→Nat→Prop
 | .i64,b | .u64,b=>b≤64
 | .i32,b | .u32,b=>b≤32
 | .i16,b | .u16,b=>b≤16
 | .i8,b | .u8,b=>b≤8
theorem xX{k:IntKind}{b:Nat}(h:vO k b):b≤k.bits:=by cases k<;>exact h
def aIi(op:BinOp)(a b:Int):Option Int :=
 match op with
 | .add=>some (a+b)
 | .sub=>some (a-b)
 | .mul=>some (a*b)
 | _=>none
theorem aGr[aU F]{op:BinOp}{t u:TypeId}{x y:Operand}{k:IntKind}{a b c:Int}(hx:ev σ x=some (.int k a))(hy:ev σ y=some (.int k b))(hv:aIi op a b=some c)(hc:bG k c)(hdN:Nat.blt d N=true)
  (h:J N ds w0 W ((d,.int k c)::σ) H K):OJ F n P N ds w0 W σ H ⟨some d,.binOp op t x y u,ty,pos,aft,gd⟩ K Q :=
 oI hx hy (by cases op<;>simp[aIi]at hv<;>subst hv<;>simp[tF,mJ hc]) hdN h
theorem aMv[aU F]{t u:TypeId}{x y:Operand}{k:IntKind}{a b:Int}(hx:ev σ x=some (.int k a))(hy:ev σ y=some (.int k b))(hb:b≠0)(hdN:Nat.blt d N=true)
  (h:J N ds w0 W ((d,.int k (k.wrap (a.tdiv b)))::σ) H K):OJ F n P N ds w0 W σ H ⟨some d,.binOp .quo t x y u,ty,pos,aft,gd⟩ K Q :=
 dW aE rfl hdN (fun a w ha _=>by simp[execOp,ha.eval hx,ha.eval hy,eqGuard,binOp,Op.intDiv,hb]) h
theorem aZa[aU F]{t u:TypeId}{x y:Operand}{k:IntKind}{a b:Int}(hx:ev σ x=some (.int k a))(hy:ev σ y=some (.int k b))(hb:b≠0)(hdN:Nat.blt d N=true)
  (h:J N ds w0 W ((d,.int k (a.tmod b))::σ) H K):OJ F n P N ds w0 W σ H ⟨some d,.binOp .rem t x y u,ty,pos,aft,gd⟩ K Q :=
 dW aE rfl hdN (fun a w ha _=>by simp[execOp,ha.eval hx,ha.eval hy,eqGuard,binOp,Op.intDiv,hb]) h
theorem aMw[aU F]{t u:TypeId}{x y:Operand}{k:IntKind}{a b:Int}(hx:ev σ x=some (.int k a))(hy:ev σ y=some (.int k b))(ha0:0≤a)(hb:0<b)(hc:bG k a)(hdN:Nat.blt d N=true)
  (h:J N ds w0 W ((d,.int k (a/b))::σ) H K):OJ F n P N ds w0 W σ H ⟨some d,.binOp .quo t x y u,ty,pos,aft,gd⟩ K Q :=
 aMv hx hy oo hdN (by
  rw[Int.tdiv_eq_ediv_of_nonneg ha0,mJ]
  ·exact h
  ·have h1:0≤a/b:=Int.ediv_nonneg ha0 oo;have h2:a/b≤a:=Int.ediv_le_self _ ha0;cases k<;>simp only[bG]at hc ⊢<;>omega)
theorem aZb[aU F]{t u:TypeId}{x y:Operand}{k:IntKind}{a b:Int}(hx:ev σ x=some (.int k a))(hy:ev σ y=some (.int k b))(ha0:0≤a)(hb:0<b)(hdN:Nat.blt d N=true)
  (h:J N ds w0 W ((d,.int k (a%b))::σ) H K):OJ F n P N ds w0 W σ H ⟨some d,.binOp .rem t x y u,ty,pos,aft,gd⟩ K Q :=
 aZa hx hy oo hdN (by rw[Int.tmod_eq_emod_of_nonneg ha0];exact h)
theorem aGy[aU F]{t u:TypeId}{x y:Operand}{k k':IntKind}{a b:Int}(hx:ev σ x=some (.int k a))(hy:ev σ y=some (.int k' b))(hb:0≤b)(hdN:Nat.blt d N=true)
  (h:J N ds w0 W ((d,.int k (k.wrap (a*2^(min b.toNat k.bits))))::σ) H K):OJ F n P N ds w0 W σ H ⟨some d,.binOp .shl t x y u,ty,pos,aft,gd⟩ K Q :=
 dW aE rfl hdN (fun a w ha _=>by simp[execOp,ha.eval hx,ha.eval hy,eqGuard,binOp,Op.shift,show ¬b<0 by omega]) h
theorem aGz[aU F]{t u:TypeId}{x y:Operand}{k k':IntKind}{a b:Int}(hx:ev σ x=some (.int k a))(hy:ev σ y=some (.int k' b))(hb:0≤b)(hdN:Nat.blt d N=true)
  (h:J N ds w0 W ((d,.int k (a.fdiv (2^(min b.toNat k.bits))))::σ) H K):OJ F n P N ds w0 W σ H ⟨some d,.binOp .shr t x y u,ty,pos,aft,gd⟩ K Q :=
 dW aE rfl hdN (fun a w ha _=>by simp[execOp,ha.eval hx,ha.eval hy,eqGuard,binOp,Op.shift,show ¬b<0 by omega]) h
theorem aN7(w:World)(d:Nat){t:TypeId}(a b:Bool)(ht:P.underlying t=some .bool):(Op.equalIn (d+1) t (.bool a) (.bool b)).run P w=.ok (a==b) w:=by simp[Op.equalIn,run_underlying ht]
theorem aN6(w:World){t:TypeId}(a b:Bool)(ht:P.underlying t=some .bool):(binOp .eql t (.bool a) (.bool b)).run P w=.ok (.bool (a==b)) w:=by simp only[binOp];simp[Op.equal,Op.maxDepth,aN7 w 9999 a b ht]
theorem aN9(w:World){t:TypeId}(a b:Bool)(ht:P.underlying t=some .bool):(binOp .neq t (.bool a) (.bool b)).run P w=.ok (.bool (!(a==b))) w:=by simp only[binOp];simp[Op.equal,Op.maxDepth,aN7 w 9999 a b ht]
theorem aDh(op:BinOp)(t:TypeId)(x y:Operand)(a b:Bool)(w:World):(eqGuard op t x y (.bool a) (.bool b)).run P w=.ok () w:=by cases op<;>rfl
theorem aZc[aU F]{t u:TypeId}{x y:Operand}{k k':IntKind}{a b:Nat}(hx:ev σ x=some (.int k (a:Int)))(hy:ev σ y=some (.int k' (b:Int)))(hb:b≤k.bits)(hdN:Nat.blt d N=true)
  (h:J N ds w0 W ((d,.int k ((a/2^b:Nat):Int))::σ) H K):OJ F n P N ds w0 W σ H ⟨some d,.binOp .shr t x y u,ty,pos,aft,gd⟩ K Q :=
 aGz hx hy oo hdN (by
  rw[Int.toNat_natCast,Nat.min_eq_left hb,Int.fdiv_eq_ediv_of_nonneg _ (Int.le_of_lt (Int.pow_pos od))];have e:((a:Int)/2^b)=((a/2^b:Nat):Int):=by push_cast;rfl
  rw[e];exact h)
theorem aMq[aU F]{t u:TypeId}{x y:Operand}{p q:Bool}[aN P t .bool](hx:ev σ x=some (.bool p))(hy:ev σ y=some (.bool q))(hdN:Nat.blt d N=true)
  (h:J N ds w0 W ((d,.bool (p==q))::σ) H K):OJ F n P N ds w0 W σ H ⟨some d,.binOp .eql t x y u,ty,pos,aft,gd⟩ K Q :=
 dW aE rfl hdN (fun a w ha _=>by have:=aN6 w p q (aN.h (P:=P) (t:=t));simp only[execOp,ha.eval hx,ha.eval hy,Sem.run_bind,aDh,Result.andThen_ok,this,Sem.run_pure]) h
theorem aMt[aU F]{t u:TypeId}{x y:Operand}{p q:Bool}[aN P t .bool](hx:ev σ x=some (.bool p))(hy:ev σ y=some (.bool q))(hdN:Nat.blt d N=true)
  (h:J N ds w0 W ((d,.bool (!(p==q)))::σ) H K):OJ F n P N ds w0 W σ H ⟨some d,.binOp .neq t x y u,ty,pos,aft,gd⟩ K Q :=
 dW aE rfl hdN (fun a w ha _=>by have:=aN9 w p q (aN.h (P:=P) (t:=t));simp only[execOp,ha.eval hx,ha.eval hy,Sem.run_bind,aDh,Result.andThen_ok,this,Sem.run_pure]) h
theorem aGv[aU F]{t:TypeId}{x:Operand}{a:Bool}(hx:ev σ x=some (.bool a))(hdN:Nat.blt d N=true)
  (h:J N ds w0 W ((d,.bool (!a))::σ) H K):OJ F n P N ds w0 W σ H ⟨some d,.unOp .not t x,ty,pos,aft,gd⟩ K Q :=
 dW aE rfl hdN (fun a w ha _=>by simp[execOp,ha.eval hx,Op.unary]) h
theorem aMu[aU F]{t:TypeId}{x:Operand}{k:IntKind}{a:Int}(hx:ev σ x=some (.int k a))(hdN:Nat.blt d N=true)
  (h:J N ds w0 W ((d,.int k (k.wrap (0-a)))::σ) H K):OJ F n P N ds w0 W σ H ⟨some d,.unOp .neg t x,ty,pos,aft,gd⟩ K Q :=
 dW aE rfl hdN (fun a w ha _=>by simp[execOp,ha.eval hx,Op.unary,Op.intArith]) h
theorem aZ8[aU F]{t:TypeId}{x:Operand}{k:IntKind}{a:Int}(hx:ev σ x=some (.int k a))(hc:bG k (-a))(hdN:Nat.blt d N=true)
  (h:J N ds w0 W ((d,.int k (-a))::σ) H K):OJ F n P N ds w0 W σ H ⟨some d,.unOp .neg t x,ty,pos,aft,gd⟩ K Q :=
 aMu hx hdN (by rw[Int.zero_sub,mJ hc];exact h)
theorem aMp[aU F]{s t:TypeId}{x:Operand}{k k':IntKind}{a:Int}{dd:TypeDesc}[aN P s dd][aN P t (.int k')](hx:ev σ x=some (.int k a))(hdN:Nat.blt d N=true)
  (h:J N ds w0 W ((d,.int k' (k'.wrap a))::σ) H K):OJ F n P N ds w0 W σ H ⟨some d,.convert s t x,ty,pos,aft,gd⟩ K Q :=
 dW aE rfl hdN (fun a w ha _=>by have h1:=aN.h (P:=P) (t:=s);have h2:=aN.h (P:=P) (t:=t);simp[execOp,ha.eval hx,convert,run_underlying h1,run_underlying h2,Conv.intToInt]) h
theorem aYv[aU F]{s t:TypeId}{x:Operand}{k k':IntKind}{a:Int}{dd:TypeDesc}[aN P s dd][aN P t (.int k')](hx:ev σ x=some (.int k a))(hc:bG k' a)(hdN:Nat.blt d N=true)
  (h:J N ds w0 W ((d,.int k' a)::σ) H K):OJ F n P N ds w0 W σ H ⟨some d,.convert s t x,ty,pos,aft,gd⟩ K Q :=
 aMp hx hdN (by rw[mJ hc];exact h)
theorem pL(b o j:Nat):(⟨b,o,none⟩:Addr).add j=⟨b,o+j,none⟩:=by unfold Addr.add;split<;>simp_all
theorem aYz[aU F]{s f off b q:Nat}{x:Operand}[hfa:Fa P s f off](hx:ev σ x=some (.pointer (some ⟨b,q,none⟩)))(hdN:Nat.blt d N=true)
  (h:J N ds w0 W ((d,.pointer (some ⟨b,q+off,none⟩))::σ) H K):OJ F n P N ds w0 W σ H ⟨some d,.fieldAddr s x f,ty,pos,aft,gd⟩ K Q :=
 dW aE rfl hdN (fun a w ha _=>by obtain⟨fs,fld,i,h1,h2,h3,h4,h5⟩:=hfa.h;simp[execOp,ha.eval hx,Instr.fieldAt,run_underlying h1,h2,Instr.sureAddr,fieldPlace,sizeOf,typeInfo,h3,h4,h5,pL]) h
theorem aYy[aU F]{x:Operand}{i:Nat}{vs:Array Value}{v:Value}(hx:ev σ x=some (.tuple vs))(hv:vs[i]? = some v)(hdN:Nat.blt d N=true)
  (h:J N ds w0 W ((d,v)::σ) H K):OJ F n P N ds w0 W σ H ⟨some d,.extract x i,ty,pos,aft,gd⟩ K Q :=
 dW aE rfl hdN (fun a w ha _=>by simp[execOp,ha.eval hx,Instr.extract,hv]) h
theorem aZ4[aU F]{fn:Fn}{first captured:Array Operand}{xs ys:Array Value}(hx:∀a,Tm N ds σ a→first.map a.eval=xs∧captured.map a.eval=ys)(hdN:Nat.blt d N=true)
  (h:J N ds w0 W ((d,.func fn xs ys)::σ) H K):OJ F n P N ds w0 W σ H ⟨some d,.makeFunc fn first captured,ty,pos,aft,gd⟩ K Q :=
 dW aE rfl hdN (fun a w ha _=>by obtain⟨h1,h2⟩:=hx a ha;have e1:(Array.map (fun x=>a.eval x) first)=xs:=h1;have e2:(Array.map (fun x=>a.eval x) captured)=ys:=h2;simp[execOp,Instr.makeFunc,e1,e2]) h
theorem aZ2[aU F]{x:Operand}{t e:TypeId}{A:Option Addr}{m c:Nat}[aN P t (.slice e)](hx:ev σ x=some (.slice A m c))(hdN:Nat.blt d N=true)
  (h:J N ds w0 W ((d,.int .i64 m)::σ) H K):OJ F n P N ds w0 W σ H ⟨some d,.call ⟨.builtin .len,#[x],#[t]⟩,ty,pos,aft,gd⟩ K Q :=
 dW aE rfl hdN (fun a w ha _=>by have h1:=aN.h (P:=P) (t:=t);simp[execOp,ha.eval hx,resolve,invoke,builtin,Builtin.len_,run_underlying h1,goInt]) h
theorem aZ6[aU F]{x y:Operand}{ts:Array TypeId}{k:IntKind}{p q:Int}(hx:ev σ x=some (.int k p))(hy:ev σ y=some (.int k q))(hdN:Nat.blt d N=true)
  (h:J N ds w0 W ((d,.int k (min p q))::σ) H K):OJ F n P N ds w0 W σ H ⟨some d,.call ⟨.builtin .min,#[x,y],ts⟩,ty,pos,aft,gd⟩ K Q :=
 dW aE rfl hdN (fun a w ha _=>by have e:(if q<p then q else p)=min p q:=oo;simp[execOp,ha.eval hx,ha.eval hy,resolve,invoke,builtin,Builtin.min_,Builtin.min2,e]) h
theorem aZ5[aU F]{x y:Operand}{ts:Array TypeId}{k:IntKind}{p q:Int}(hx:ev σ x=some (.int k p))(hy:ev σ y=some (.int k q))(hdN:Nat.blt d N=true)
  (h:J N ds w0 W ((d,.int k (max p q))::σ) H K):OJ F n P N ds w0 W σ H ⟨some d,.call ⟨.builtin .max,#[x,y],ts⟩,ty,pos,aft,gd⟩ K Q :=
 dW aE rfl hdN (fun a w ha _=>by have e:(if p<q then q else p)=max p q:=oo;simp[execOp,ha.eval hx,ha.eval hy,resolve,invoke,builtin,Builtin.max_,Builtin.max2,e]) h
theorem aZ1[aU F]{x y:Operand}{t e:TypeId}{b q m c sz bs:Nat}{z:Value}{k:IntKind}{v:Int}(i:Nat)[aN P t (.slice e)][hI:bF P e sz bs z](hx:ev σ x=some (.slice (some ⟨b,q,none⟩) m c))(hy:ev σ y=some (.int k v))(hv:v=(i:Int))(hi:i<m)(hdN:Nat.blt d N=true)
  (h:J N ds w0 W ((d,.pointer (some ⟨b,q+i*sz,none⟩))::σ) H K):OJ F n P N ds w0 W σ H ⟨some d,.indexAddr t x y,ty,pos,aft,gd⟩ K Q :=
 dW aE rfl hdN (fun a w ha _=>by subst hv;have h1:=aN.h (P:=P) (t:=t);obtain⟨ii,h2,-,h3,-⟩:=hI.h;simp[execOp,ha.eval hx,ha.eval hy,Instr.indexAt,run_underlying h1,asIntOf,sizeOf,typeInfo,h2,h3,hi,pL]) h
theorem aZ0[aU F]{x y:Operand}{t e:TypeId}{b q m c sz bs:Nat}{z:Value}{k:IntKind}{i:Nat}[aN P t (.slice e)][hI:bF P e sz bs z](hx:ev σ x=some (.slice (some ⟨b,q,none⟩) m c))(hy:ev σ y=some (.int k i))(hi:i<m)(hdN:Nat.blt d N=true)
  (h:J N ds w0 W ((d,.pointer (some ⟨b,q+i*sz,none⟩))::σ) H K):OJ F n P N ds w0 W σ H ⟨some d,.indexAddr t x y,ty,pos,aft,gd⟩ K Q :=
 dW aE rfl hdN (fun a w ha _=>by have h1:=aN.h (P:=P) (t:=t);obtain⟨ii,h2,-,h3,-⟩:=hI.h;simp[execOp,ha.eval hx,ha.eval hy,Instr.indexAt,run_underlying h1,asIntOf,sizeOf,typeInfo,h2,h3,hi,pL]) h
end
instance:aU Fence.wide:=⟨bCa⟩
instance {F:Fence}[h:aU F](l:Nat):aU (F.inRound l):=⟨h.out.round l⟩
def mL(w0:World)(W:Nat→Prop)(H:List HE)(b o:Nat)(v:Value):Prop:=∀w,St w0 W H w→w.cell? ⟨b,o,none⟩=some v
def mO(w0:World)(W:Nat→Prop)(H:List HE)(b o:Nat)(cs:List Value):Prop:=∀w,St w0 W H w→w.rangeAt b o cs
section
variable {w0 w:World} {W:Nat→Prop} {H R:List HE} {b o:Nat} {t:TypeId} {cs:List Value} {v:Value}
theorem St.has{x:HE}(h:St w0 W H w)(hx:aP H x R):x.holds w:=(h.perm hx.perm).own.holds x (List.mem_cons_self ..)
theorem mL.blk(hm:aP H (.blk b t cs) R)(hc:cs[o]? = some v):mL w0 W H b o v:=fun w hw=>by have:w.heap[b]? = some (.cells cs.toArray t (0,0)):=hw.has hm;rw[cell_of_row w b o _ t (0,0) this];simpa using hc
theorem mL.row{n c e s:Nat}{xs:List Value}(hm:aP H (.row (.slice (some ⟨b,0,none⟩) n c) e s n xs) R)(hc:xs[o]? = some v):mL w0 W H b o v:=fun w hw=>by
 obtain⟨hl,h⟩:=hw.has hm;rcases h with⟨h0,_⟩ | ⟨g,cap,cur,hv,_,hg,hnc,_,hcs,hx⟩
 ·cases h0
 ·injection hv with h1 _ _;injection h1 with h1;injection h1 with h1 _ _;subst h1;rw[cell_of_row w b o _ _ (0,0) hg];have ho:o<n*s:=by rw[← hl];exact(List.getElem?_eq_some_iff.1 hc).1
  rw[← hx,List.getElem?_take_of_lt ho]at hc;simpa using hc
theorem mL.old(hb:b<w0.heap.size)(hW:¬W b)(hc:w0.cell? ⟨b,o,none⟩=some v):mL w0 W H b o v:=fun w hw =>
 (World.cell?_of_block (w:=w0) (a:=⟨b,o,none⟩) (hw.old b hb hW)).trans hc
theorem mO.of_cells(h:∀j u,cs[j]? = some u→mL w0 W H b (o+j) u):mO w0 W H b o cs:=fun w hw j u hu=>h j u hu w hw
theorem mO.blk{all:List Value}(hm:aP H (.blk b t all) R)(hc:∀j u,cs[j]? = some u→all[o+j]? = some u):mO w0 W H b o cs:=.of_cells fun j u hu=>.blk hm (hc j u hu)
theorem mO.cut{all:List Value}{sz:Nat}(hm:aP H (.blk b t all) R)(hc:(all.drop o).take sz=cs):mO w0 W H b o cs:=.blk hm fun j u hu=>by
 subst hc;rw[List.getElem?_take]at hu;split at hu
 ·rwa [List.getElem?_drop]at hu
 ·cases hu
end
def Ro(w0:World)(W:Nat→Prop)(size:Nat)(u:Value)(m:Nat)(xs:List Value):Prop :=
 ∃A c,u=.slice A m c∧m≤c∧c≤maxLen∧xs.length=m*size∧(0<m→∃b off,A=some ⟨b,off,none⟩∧b<w0.heap.size∧¬W b∧∀j v,xs[j]? = some v→w0.cell? ⟨b,off+j,none⟩=some v)
def xL(w0:World)(W:Nat→Prop)(H:List HE)(size:Nat)(u:Value)(m:Nat)(xs:List Value):Prop :=
 ∃A c,u=.slice A m c∧m≤c∧c≤maxLen∧xs.length=m*size∧(0<m→∃b off,A=some ⟨b,off,none⟩∧∀j v,xs[j]? = some v→mL w0 W H b (off+j) v)
theorem Ro.nil(w0:World)(W:Nat→Prop)(size:Nat):Ro w0 W size (.slice none 0 0) 0 []:=⟨none,0,rfl,Nat.le_refl _,by simp[maxLen],aE,fun h=>absurd h oo⟩
theorem Ro.src{w0:World}{W:Nat→Prop}{size m:Nat}{u:Value}{xs:List Value}(h:Ro w0 W size u m xs)(H:List HE):xL w0 W H size u m xs:=by obtain⟨A,c,h1,h2,h3,h4,h5⟩:=h;exact⟨A,c,h1,h2,h3,h4,fun hm=>let ⟨b,off,e1,e2,e3,e4⟩:=h5 hm;⟨b,off,e1,fun j v hv=>.old e2 e3 (e4 j v hv)⟩⟩
theorem xL.row{w0:World}{W:Nat→Prop}{H R:List HE}{size m c e:Nat}{A:Option Addr}{xs:List Value}{w1:World}(hw:St w0 W H w1)(hm:aP H (.row (.slice A m c) e size m xs) R):xL w0 W H size (.slice A m c) m xs:=by
 obtain⟨hl,h⟩:=hw.has hm;rcases h with⟨h0,h1⟩ | ⟨g,cap,cur,hv,_,hg,hnc,hcm,hcs,hx⟩
 ·injection h0 with e1 e2 e3;subst e1 e2 e3;exact⟨none,0,rfl,Nat.le_refl _,by simp[maxLen],hl,fun h=>absurd h oo⟩
 ·injection hv with e1 e2 e3;subst e1 e3;exact⟨_,_,rfl,hnc,hcm,hl,fun _=>⟨g,0,rfl,fun j v hv=>by rw[Nat.zero_add];exact .row hm hv⟩⟩
theorem Ro.go{w0 w:World}{W:Nat→Prop}{H S R:List HE}{size m:Nat}{u:Value}{xs:List Value}(h:Ro w0 W size u m xs)(hw:St w0 W H w)(hs:aC H S R):Ro w (bB S) size u m xs:=by
 obtain⟨A,c,h1,h2,h3,h4,h5⟩:=h;refine⟨A,c,h1,h2,h3,h4,fun hm=>?_⟩;obtain⟨b,off,e1,e2,e3,e4⟩:=h5 hm;refine⟨b,off,e1,Nat.lt_of_lt_of_le e2 hw.size,?_,fun j v hv=>mL.old e2 e3 (e4 j v hv) w hw⟩;rintro⟨x,hx,hxb⟩;rcases(hw.perm hs.perm).mine x (List.mem_append_left _ hx) b hxb with h0|h0
 ·exact e3 h0
 ·omega
theorem Ro.row{w0 w:World}{W:Nat→Prop}{H S R T:List HE}{size m c e:Nat}{A:Option Addr}{xs:List Value}(hw:St w0 W H w)(hs:aC H S R)(hm:aP R (.row (.slice A m c) e size m xs) T):Ro w (bB S) size (.slice A m c) m xs:=by
 have h1:=hw.perm hs.perm;have hmem:HE.row (.slice A m c) e size m xs∈R:=hm.perm.mem_iff.2 (List.mem_cons_self ..);obtain⟨hl,h⟩:=h1.own.holds _ (List.mem_append_right _ hmem);rcases h with⟨h0,_⟩ | ⟨g,cap,cur,hv,_,hg,hnc,hcm,hcs,hx⟩
 ·injection h0 with e1 e2 e3;subst e1 e2 e3;exact⟨none,0,rfl,Nat.le_refl _,by simp[maxLen],hl,fun h=>absurd h oo⟩
 ·injection hv with e1 e2 e3;subst e1 e3;refine⟨_,_,rfl,hnc,hcm,hl,fun _=>⟨g,0,rfl,(Array.getElem?_eq_some_iff.1 hg).1,?_,fun j v hv=>?_⟩⟩
  ·rintro⟨x,hx',hxb⟩;rcases(List.pairwise_append.1 h1.own.apart).2.2 x hx' _ hmem with h0|h0
   ·rw[h0]at hxb;cases hxb
   ·exact h0 (by rw[hxb];rfl)
  ·rw[cell_of_row w g _ _ _ (0,0) hg];have hj:j<m*size:=by rw[← hl];exact(List.getElem?_eq_some_iff.1 hv).1
   rw[← hx,List.getElem?_take_of_lt hj]at hv;simpa using hv
section
variable {F:Fence} {n:Nat} {P:Program} {N:Nat} {ds:List Deferred} {w0:World} {W:Nat→Prop} {σ:List (Nat×Value)} {H R:List HE} {Q:Exit→Act→World→Prop} {K:Act→World→Prop}
variable {d:Nat} {ty:TypeId} {pos:String} {aft:Array Edge} {gd:Option (Nat×Bool)} {o:Oper}
theorem aN8{t:TypeId}{dd:TypeDesc}(hu:P.underlying t=some dd)(ha:oO dd=false){p:Addr}{v:Value}{w:World}(hc:w.cell? p=some v):(loadVar t p).run P w=.ok v w:=by
 have hagg:(isAgg t).run P w=.ok false w:=by unfold isAgg;rw[Sem.run_bind,run_underlying hu w];cases dd<;>simp[oO]at ha<;>rfl
 simp[loadVar,Sem.run_bind,hagg,hc]
theorem aGt[aU F]{t:TypeId}{dd:TypeDesc}{x:Operand}{b q:Nat}{v:Value}[aN P t dd](hx:ev σ x=some (.pointer (some ⟨b,q,none⟩)))(ha:oO dd=false)(hc:mL w0 W H b q v)(hdN:Nat.blt d N=true)
  (h:J N ds w0 W ((d,v)::σ) H K):OJ F n P N ds w0 W σ H ⟨some d,.load t x,ty,pos,aft,gd⟩ K Q :=
 dW aE rfl hdN (fun a w ha' hw=>by simp[execOp,ha'.eval hx,Instr.loadAt,Instr.sureAddr,aN8 (aN.h (P:=P) (t:=t)) ha (hc w hw)]) h
theorem bF.size{t sz bs:Nat}{z:Value}[h:bF P t sz bs z]:(P.info? t).map (·.size)=some sz:=by obtain⟨i,h1,-,h2,-⟩:=h.h;simp[h1,h2]
theorem aGu[aU F]{t sz bs:Nat}{z:Value}{dd:TypeDesc}{x:Operand}{b q:Nat}{cs:List Value}[aN P t dd][bF P t sz bs z](hx:ev σ x=some (.pointer (some ⟨b,q,none⟩)))(ha:oO dd=true)(hc:mO w0 W H b q cs)(hl:cs.length=sz)(hdN:Nat.blt d N=true)
  (h:J N ds w0 W ((d,.agg cs.toArray)::σ) H K):OJ F n P N ds w0 W σ H ⟨some d,.load t x,ty,pos,aft,gd⟩ K Q :=
 dW aE rfl hdN (fun a w ha' hw=>by
  have hr:dd.isRow=true:=by cases dd<;>simp_all [oO]
  have:=run_loadAt_mid (P:=P) w b q t cs dd (hc w hw) (aN.h (P:=P) (t:=t)) hr (by rw[hl];exact bF.size);simp[execOp,ha'.eval hx,this]) h
theorem aAy[hF:aU F]{d:Nat}(hnd:∀c,o.op≠.defer c)(hd:o.dst=some d)(hdN:Nat.blt d N=true)(f:Nat→Value)(cs:List Value)(t:TypeId)
  (hrun:∀a w,Tm N ds σ a→St w0 W H w→(execOp a.eval o).run P w=.ok (.value (f w.heap.size)) (w.alloc (.cells cs.toArray t)))
  (h:∀b,J N ds w0 W ((d,f b)::σ) (.blk b t cs::H) K):OJ F n P N ds w0 W σ H o K Q:=by
 intro a w ha hw;refine⟨fun f _=>hF.out.fn f,?_⟩;rw[Oper.semAt_plain F _ _ hnd,hrun a w ha hw,Oper.uponIn_value,hd];exact h _ _ _ (ha.put d _ (by simpa using hdN)) (hw.alloc cs t)
theorem aYp[aU F]{e sz bs:Nat}{z:Value}{zs:List Value}[hI:bF P e sz bs z](hz:z.cells.toList=zs)(hdN:Nat.blt d N=true)
  (h:∀b,J N ds w0 W ((d,.pointer (some ⟨b,0,none⟩))::σ) (.blk b e zs::H) K):OJ F n P N ds w0 W σ H ⟨some d,.alloc e,ty,pos,aft,gd⟩ K Q :=
 aAy aE rfl hdN (fun b=>.pointer (some ⟨b,0,none⟩)) zs e (fun a w _ _=>by obtain⟨i,h1,h2,-⟩:=hI.h;subst hz;simp[execOp,Instr.alloc,zeroValue,typeInfo,h1,h2,newVar,newRow]) h
theorem aYs[aU F]{e:Nat}{x:Operand}{v:Value}{vs:List Value}(hx:ev σ x=some v)(hv:v.cells.toList=vs)(hdN:Nat.blt d N=true)
  (h:∀b,J N ds w0 W ((d,.pointer (some ⟨b,0,none⟩))::σ) (.blk b e vs::H) K):OJ F n P N ds w0 W σ H ⟨some d,.box e x,ty,pos,aft,gd⟩ K Q :=
 aAy aE rfl hdN (fun b=>.pointer (some ⟨b,0,none⟩)) vs e (fun a w ha _=>by subst hv;simp[execOp,ha.eval hx,Instr.box,newVar,newRow]) h
theorem St.rowed{w:World}{b e sz m:Nat}{cs:List Value}(h:St w0 W (.blk b e cs::H) w)(hl:cs.length=m*sz)(hm:m≤maxLen):St w0 W (.row (.slice (some ⟨b,0,none⟩) m m) e sz m cs::H) w:=by refine h.turn (.here _ _) ?_ rfl rfl rfl (Nat.le_refl _) (fun _ _ _=>rfl) (.inl rfl);have:=h.own.holds _ (List.mem_cons_self ..);exact⟨hl,.inr ⟨b,m,cs.toArray,rfl,Nat.zero_le _,this,Nat.le_refl _,hm,by simpa using hl,by simp[← hl]⟩⟩
theorem aFu{b e sz m:Nat}{cs:List Value}{q:Act→World→Prop}(hl:cs.length=m*sz)(hm:m≤maxLen)(h:J N ds w0 W σ (.row (.slice (some ⟨b,0,none⟩) m m) e sz m cs::H) q):J N ds w0 W σ (.blk b e cs::H) q :=
 fun a w ha hw=>h a w ha (hw.rowed hl hm)
def qU(σ:List (Nat×Value)):List (Nat×Operand)→Option (List (Nat×Value))
 | []=>some []
 | (i,x)::r=>match ev σ x,qU σ r with
  | some v,some vs=>some ((i,v)::vs)
  | _,_=>none
theorem aCf{a:Act}(ha:Tm N ds σ a):∀{l:List (Nat×Operand)} {vs:List (Nat×Value)},qU σ l=some vs→l.map (fun p=>(p.1,a.eval p.2))=vs
 | [],vs,h=>by simp[qU]at h;simp[h]
 | (i,x)::r,vs,h=>by
  simp only[qU]at h;cases hx:ev σ x with
  | none=>simp[hx]at h
  | some v =>
   cases hr:qU σ r with
   | none=>simp[hx,hr]at h
   | some us =>
    simp[hx,hr]at h;subst h;simp[ha.eval hx,aCf ha hr]
theorem aYt[aU F]{t e sz bs len:Nat}{z:Value}{parts:Array (Nat×Operand)}{vs:List (Nat×Value)}{cs:List Value}[aN P t (.slice e)][hI:bF P e sz bs z](hv:qU σ parts.toList=some vs)
  (hs:Nat.ble (len*sz) 16777216=true) (hp:Nat.beq (len*sz) 0=false)
  (hf:Instr.fill (fun i=>some (i*sz,sz)) ((Array.range (len*sz)).map (z.cells[· % z.cells.size]!)) vs=some cs.toArray) (hl:cs.length=len*sz) (hdN:Nat.blt d N=true)
  (h:∀b,J N ds w0 W ((d,.slice (some ⟨b,0,none⟩) len len)::σ) (.row (.slice (some ⟨b,0,none⟩) len len) e sz len cs::H) K):OJ F n P N ds w0 W σ H ⟨some d,.buildSlice t len parts,ty,pos,aft,gd⟩ K Q :=
 aAy aE rfl hdN (fun b=>.slice (some ⟨b,0,none⟩) len len) cs e (fun a w ha _=>by
  obtain⟨i,h1,h2,h3,-⟩:=hI.h;have hp':¬len*sz=0:=fun e0=>by rw[e0]at hp;cases hp
  have:=run_buildSlice (P:=P) w t e len (parts.map fun (i,x)=>(i,a.eval x)) cs.toArray i z (aN.h (P:=P) (t:=t)) h1 h2 (by rw[h3];have:=Nat.le_of_ble_eq_true hs;omega) (by rw[h3];exact hp')
   (by rw[h3,Array.toList_map];rw[show (List.map (fun x:Nat×Operand=>match x with|(i,x)=>(i,a.eval x)) parts.toList)=vs from aCf ha hv];exact hf)
  simp only[execOp,Sem.run_bind,this,Result.andThen_ok,Sem.run_pure]) (fun b=>aFu hl (by
   have h1:len≤len*sz:=by
    rcases Nat.eq_zero_or_pos sz with h0|h0
    ·subst h0;cases hp
    ·exact Nat.le_mul_of_pos_right _ h0
   have:=Nat.le_of_ble_eq_true hs;simp only[maxLen];omega) (h b))
theorem aYu[aU F]{t e sz bs:Nat}{z:Value}[aN P t (.slice e)][hI:bF P e sz bs z](hdN:Nat.blt d N=true)
  (h:∀b,J N ds w0 W ((d,.slice (some ⟨b,0,none⟩) 0 0)::σ) (.row (.slice (some ⟨b,0,none⟩) 0 0) e sz 0 []::H) K):OJ F n P N ds w0 W σ H ⟨some d,.buildSlice t 0 #[],ty,pos,aft,gd⟩ K Q :=
 aAy aE rfl hdN (fun b=>.slice (some ⟨b,0,none⟩) 0 0) [] e (fun a w ha _=>by
  obtain⟨i,h1,h2,h3,-⟩:=hI.h;simp[execOp,Instr.buildSlice,run_underlying (aN.h (P:=P) (t:=t)),sizeOf,typeInfo,h1,Instr.fill,newRow];have e0:(Array.range 0).map (fun _=>(default:Value))=#[]:=by apply Array.ext<;>simp
  rw[e0]) (fun b=>aFu aE (by simp[maxLen]) (h b))
theorem aZd[aU F]{t e sz bs len:Nat}{z:Value}{parts:Array (Nat×Operand)}{vs:List (Nat×Value)}{cs:List Value}[aN P t (.slice e)][hI:bF P e sz bs z](hv:qU σ parts.toList=some vs)
  (hcs:vs.flatMap (fun p=>p.2.cells.toList)=cs) (hs:Nat.ble (len*sz) 16777216=true) (hp:Nat.beq (len*sz) 0=false)
  (hf:Instr.fill (fun i=>some (i*sz,sz)) ((Array.range (len*sz)).map (z.cells[· % z.cells.size]!)) vs=some (vs.flatMap (fun p=>p.2.cells.toList)).toArray) (hl:cs.length=len*sz) (hdN:Nat.blt d N=true)
  (h:∀b,J N ds w0 W ((d,.slice (some ⟨b,0,none⟩) len len)::σ) (.row (.slice (some ⟨b,0,none⟩) len len) e sz len cs::H) K):OJ F n P N ds w0 W σ H ⟨some d,.buildSlice t len parts,ty,pos,aft,gd⟩ K Q:=by
 subst hcs;exact aYt hv hs hp hf hl hdN h
theorem aG9[hF:aU F](hnd:∀c,o.op≠.defer c)(hd:o.dst=none){H':List HE}
  (hrun:∀a w,Tm N ds σ a→St w0 W H w→∃w',(execOp a.eval o).run P w=.ok .skip w'∧St w0 W H' w') (h:J N ds w0 W σ H' K):OJ F n P N ds w0 W σ H o K Q:=by
 intro a w ha hw;obtain⟨w',hr,hw'⟩:=hrun a w ha hw;refine⟨fun f _=>hF.out.fn f,?_⟩;rw[Oper.semAt_plain F _ _ hnd,hr,Oper.uponIn_skip,hd];exact h _ _ (ha.put_none _) hw'
theorem aNa{t sz bs:Nat}{z:Value}[hI:bF P t sz bs z](hsz:sz=1){p:Addr}{v old:Value}{w:World}(h1:v.oneCell'=true)(hc:w.cell? p=some old)(hf:w.frozen? p=false):(Instr.storeAt t (.pointer (some p)) v).run P w=.ok () (w.setCell p v):=by
 obtain⟨i,e1,-,e2,-⟩:=hI.h;have hvs:v.cells=#[v]:=by cases v<;>simp[Value.oneCell']at h1<;>rfl
 have ha:p.add 0=p:=by simp[Addr.add]
 simp[Instr.storeAt,Instr.sureAddr,storeVar,sizeOf,typeInfo,e1,e2,hsz,hvs,storeCells,ha,run_store P w p v _ h1,stored,hc,hf]
theorem bAm{w:World}{b o:Nat}{t:TypeId}{cs:List Value}{v:Value}(h:w.heap[b]? = some (.cells cs.toArray t (0,0))):(w.setCell ⟨b,o,none⟩ v).heap[b]? = some (.cells (cs.set o v).toArray t (0,0)):=by simp[World.setCell,Array.getElem?_modify,h]
theorem aK9{w:World}{b o:Nat}{t:TypeId}{cs:Array Value}(h:w.heap[b]? = some (.cells cs t (0,0))):w.frozen? ⟨b,o,none⟩=false:=by simp[World.frozen?,h]
theorem aZe[aU F]{t sz bs:Nat}{z:Value}{x y:Operand}{b q tb:Nat}{v:Value}{cs cs':List Value}[bF P t sz bs z](hsz:Nat.beq sz 1=true)(hx:ev σ x=some (.pointer (some ⟨b,q,none⟩)))(hy:ev σ y=some v)(h1:v.oneCell'=true)
  (hm:aP H (.blk b tb cs) R) (hq':Nat.blt q cs.length=true) (hcs:cs.set q v=cs')
  (h:J N ds w0 W σ (.blk b tb cs'::R) K):OJ F n P N ds w0 W σ H ⟨none,.store t x y,ty,pos,aft,gd⟩ K Q :=
 aG9 aE rfl (fun a w ha hw=>by
  have hq:q<cs.length:=by simpa using hq'
  have hb:w.heap[b]? = some (.cells cs.toArray tb (0,0)):=hw.has hm;have hc:w.cell? ⟨b,q,none⟩=some cs[q]:=by rw[cell_of_row w b q _ tb (0,0) hb];simp[hq]
  refine⟨w.setCell ⟨b,q,none⟩ v,by simp[execOp,ha.eval hx,ha.eval hy,aNa (P:=P) (t:=t) (Nat.eq_of_beq_eq_true hsz) h1 hc (aK9 hb)],?_⟩;subst hcs;refine hw.turn hm (bAm hb) rfl rfl rfl (by simp[World.setCell]) (fun k _ hk=>Below.heap_setCell _ _ _ _ (fun e=>hk (by rw[e];rfl))) (.inl rfl)) h
theorem aZg[aU F]{t sz bs:Nat}{z:Value}{x y:Operand}{b q e s m c:Nat}{v:Value}{xs:List Value}[bF P t sz bs z](hsz:Nat.beq sz 1=true)(hx:ev σ x=some (.pointer (some ⟨b,q,none⟩)))(hy:ev σ y=some v)(h1:v.oneCell'=true)
  (hm:aP H (.row (.slice (some ⟨b,0,none⟩) m c) e s m xs) R) (hq:q<xs.length)
  (h:J N ds w0 W σ (.row (.slice (some ⟨b,0,none⟩) m c) e s m (xs.set q v)::R) K):OJ F n P N ds w0 W σ H ⟨none,.store t x y,ty,pos,aft,gd⟩ K Q :=
 aG9 aE rfl (fun a w ha hw=>by
  obtain⟨hl,h'⟩:=hw.has hm;rcases h' with⟨h0,_⟩ | ⟨g,cap,cur,hv,hb0,hg,hnc,hcm,hcs,hxx⟩
  ·cases h0
  injection hv with e1 _ e3;injection e1 with e1;injection e1 with e1 _ _;subst e1;subst e3;have hqc:q<cur.size:=by rw[← hxx]at hq;simp at hq;omega
  have hc:w.cell? ⟨b,q,none⟩=some cur[q]:=by rw[cell_of_row w b q _ e (0,0) hg];simp[hqc]
  refine⟨w.setCell ⟨b,q,none⟩ v,by simp[execOp,ha.eval hx,ha.eval hy,aNa (P:=P) (t:=t) (Nat.eq_of_beq_eq_true hsz) h1 hc (aK9 hg)],?_⟩;refine hw.turn hm ?_ rfl rfl rfl (by simp[World.setCell]) (fun k _ hk=>Below.heap_setCell _ _ _ _ (fun e=>hk (by rw[e];rfl))) (.inl rfl);refine⟨by simpa using hl,.inr ⟨b,c,cur.setIfInBounds q v,rfl,hb0,?_,hnc,hcm,by simpa using hcs,?_⟩⟩
  ·simp[World.setCell,Array.getElem?_modify,hg]
  ·rw[Array.toList_setIfInBounds,List.take_set,hxx]) h
theorem aXp{w:World}{base:Nat}{e:TypeId}{s m:Nat}{v:Value}{xs:List Value}(h:w.ownsRow base e s v m xs):∃A c,v=.slice A m c:=by
 rcases h.2 with⟨rfl,rfl⟩ | ⟨g,cap,cur,rfl,_⟩
 ·exact⟨none,0,rfl⟩
 ·exact⟨_,_,rfl⟩
theorem bAf(w:World)(base:Nat)(t ty e:TypeId)(i:TypeInfo)(size:Nat)(ht:P.underlying t=some (.slice e))(hi:P.info? e=some i)
  (v:Value) (m:Nat) (xs:List Value) (hown:w.ownsRow base e size v m xs) (c:Nat):(Builtin.append_ #[t,t] ty #[v,.slice none 0 c]).run P w=.ok v w:=by
 rcases hown.2 with⟨rfl,rfl⟩ | ⟨g,cap,cur,rfl,_,_,hnc,_⟩
 ·simp[Builtin.append_,run_underlying ht,sizeOf,typeInfo,hi,Builtin.lenOf,Builtin.firstCells]
 ·simp[Builtin.append_,run_underlying ht,sizeOf,typeInfo,hi,Builtin.lenOf,Builtin.firstCells,hnc,storeCells]
theorem bAg{w:World}{t ty' e size bytes:Nat}{z:Value}[aN P t (.slice e)][hI:bF P e size bytes z](hzs:z.cells.size=size)(hsz:0<size)
  {v:Value} {m:Nat} {xs:List Value} (hown:w.ownsRow 0 e size v m xs) {u:Value} {k:Nat} {news:List Value} (hw:St w0 W H w) (hr:xL w0 W H size u k news) (h1:∀u∈news,u.oneCell'=true)
  (h63:m+k≤maxLen) (hbytes:(m+k)*bytes≤140737488355328) :
  ∃v' w',(Builtin.append_ #[t,t] ty' #[v,u]).run P w=.ok v' w'∧w'.ownsRow 0 e size v' (m+k) (xs++news)∧w.grownBy w' v.ownBlock∧(v'.ownBlock=v.ownBlock∨v'.ownBlock=some w.heap.size):=by
 obtain⟨i,hi,hz,hsize,hby⟩:=hI.h;have ht:=aN.h (P:=P) (t:=t);obtain⟨A,c,rfl,hkc,hcm,hl,hc⟩:=hr;rcases Nat.eq_zero_or_pos k with h0|h0
 ·subst h0;have hn:news=[]:=List.eq_nil_of_length_eq_zero (by simpa using hl);subst hn;rcases A with _|ad
  ·exact⟨v,w,bAf w 0 t ty' e i size ht hi v m xs hown c,by simpa using hown,World.grownBy.refl w _,.inl rfl⟩
  ·obtain⟨v',w',hrun,h2,h3,_,h5⟩:=run_append_own_at (P:=P) w 0 t ty' e i z size bytes ht hi hz hsize hby hzs hsz v m xs hown ad 0 c [] hl aE h1 h63 hbytes (Nat.zero_le _);exact⟨v',w',hrun,h2,h3,h5⟩
 ·obtain⟨b,off,rfl,hcell⟩:=hc h0;obtain⟨v',w',hrun,h2,h3,_,h5⟩:=run_append_own_at (P:=P) w 0 t ty' e i z size bytes ht hi hz hsize hby hzs hsz v m xs hown ⟨b,off,none⟩ k c news hl
   (fun j u hu=>by rw[pL];exact hcell j u hu w hw) h1 h63 hbytes (Nat.zero_le _)
  exact⟨v',w',hrun,h2,h3,h5⟩
theorem aYq[hF:aU F]{t e size bytes:Nat}{z:Value}{x y:Operand}{v u:Value}{m k:Nat}{xs news:List Value}[aN P t (.slice e)][bF P e size bytes z](hx:ev σ x=some v)(hy:ev σ y=some u)
  (hm:aP H (.row v e size m xs) R) (hr:∀w,St w0 W H w→xL w0 W H size u k news) (h1:∀u∈news,u.oneCell'=true) (hzs:Nat.beq z.cells.size size=true) (hsz:Nat.blt 0 size=true)
  (h63:m+k≤maxLen) (hbytes:(m+k)*bytes≤140737488355328) (hdN:Nat.blt d N=true)
  (h:∀A c,J N ds w0 W ((d,.slice A (m+k) c)::σ) (.row (.slice A (m+k) c) e size (m+k) (xs++news)::R) K) :
  OJ F n P N ds w0 W σ H ⟨some d,.call ⟨.builtin .append,#[x,y],#[t,t]⟩,ty,pos,aft,gd⟩ K Q:=by
 intro a w ha hw;have hown:w.ownsRow 0 e size v m xs:=hw.has hm;obtain⟨v',w',hrun,h2,h3,h4⟩:=bAg (P:=P) (t:=t) (ty':=ty) (Nat.eq_of_beq_eq_true hzs) (by simpa using hsz) hown hw (hr w hw) h1 h63 hbytes;obtain⟨A,c,rfl⟩:=aXp h2;refine⟨fun f _=>hF.out.fn f,?_⟩;rw[Oper.semAt_plain F _ _ aE];simp only[execOp,resolve,invoke,builtin,Sem.run_bind,Sem.run_pure,Result.andThen_ok,List.map_toArray,List.map_cons,List.map_nil,ha.eval hx,ha.eval hy,hrun,Oper.uponIn_value];refine h A c _ _ (ha.put d _ (by simpa using hdN)) (hw.turn hm h2 h3.os h3.tape h3.output h3.size (fun b hb hne=>h3.block b hb (fun e=>hne e.symm)) ?_);rcases h4 with h4|h4
 ·exact .inl h4
 ·exact .inr ⟨_,h4,Nat.le_refl _⟩
theorem dH{e size:Nat}{q:Act→World→Prop}(h:J N ds w0 W σ (.row (.slice none 0 0) e size 0 []::H) q):J N ds w0 W σ H q:=fun a w ha hw =>
 h a w ha ⟨hw.os,hw.tape,hw.output,hw.size,hw.old,⟨fun x hx=>by
  rcases List.mem_cons.1 hx with rfl|hx
  ·exact⟨aE,.inl ⟨rfl,rfl⟩⟩
  ·exact hw.own.holds x hx,List.pairwise_cons.2 ⟨fun y _=>.inl rfl,hw.own.apart⟩⟩,fun x hx b hb=>by
  rcases List.mem_cons.1 hx with rfl|hx
  ·simp[HE.block,Value.ownBlock]at hb
  ·exact hw.mine x hx b hb⟩
theorem aUw{A:Option Addr}{m c e s:Nat}{xs:List Value}{q:Act→World→Prop}(hm:aP H (.row (.slice A m c) e s m xs) R)(hpos:0<m)(h:∀g,A=some ⟨g,0,none⟩→J N ds w0 W σ H q):J N ds w0 W σ H q:=by
 intro a w ha hw;obtain⟨-,h'⟩:=hw.has hm;rcases h' with⟨h0,hm0⟩ | ⟨g,cap,cur,hv,-⟩
 ·omega
 ·injection hv with e1 _ _;exact h g e1 a w ha hw
def aG(k:Nat):List Value→List (Nat×Value)
 | []=>[]
 | v::r=>(k,v)::aG (k+1) r
theorem aFw:∀(l:List Value) (k t:Nat) (v:Value),aI (aG k l) t=some v→k≤t∧l[t-k]? = some v
 | [],k,t,v,h=>by simp[aG,aI]at h
 | u::r,k,t,v,h=>by
  rw[aG,nO]at h;by_cases hk:k=t
  ·subst hk;rw[if_pos rfl]at h;simpa using h
  ·rw[if_neg hk]at h;obtain⟨h1,h2⟩:=aFw r (k+1) t v h;refine⟨oo,?_⟩;rw[show t-k=(t-(k+1))+1 from by omega,List.getElem?_cons_succ];exact h2
theorem aUv{f:FuncId}{fn:Func}{c:Code}{S:List HE}{args:List Value}{w:World}{Rr:Ending→World→Prop}[hF:aU F](hf:P.funcs[f]? = some fn)(hb:fn.body=some c)(hN:fn.ntmps=N)(hle:Nat.ble args.length N=true)(hro:F.round=none)(hown:aZ S w)
  (h:J N [] w (bB S) (aG 0 args) S (c.wpIn F n P (bodyPost P fn Rr))):CallsIn F n P f args.toArray w Rr:=by
 refine callsIn_of_wp hf hb (hF.out.fn f) (h _ _ ⟨?_,rfl,fun t v ht=>?_⟩ (St.start hown)) hro
 ·have:=Nat.le_of_ble_eq_true hle;simp[hN];omega
 ·obtain⟨-,h2⟩:=aFw _ _ _ _ ht;rw[Nat.sub_zero]at h2;rw[Array.getElem?_append_left (by simpa using (List.getElem?_eq_some_iff.1 h2).1)];simpa using h2
theorem aFt{fn:Func}{S':List HE}{Rl:Value→List HE→Prop}(hres:fn.results=#[])(hs:aA S' H)(hR:Rl (.tuple #[]) S'):J N [] w0 W σ H (bodyPost P fn (fun e w'=>∃v S',e=.returned v∧Rl v S'∧St w0 W S' w') .ret) :=
 fun a w ha hw=>⟨ha.defers,_,results_none hres _ _ _,_,S',rfl,hR,hw.sub hs⟩
theorem nN{fn:Func}{S':List HE}{Rl:Value→List HE→Prop}(hres:fn.results=#[])(hs:aA S' H)(hR:Rl (.tuple #[]) S'):J N [] w0 W σ H (bodyPost P fn (fun e w'=>∃v S',e=.returned v∧Rl v S'∧St w0 W S' w') .normal) :=
 fun a w ha hw=>⟨ha.defers,_,results_none hres _ _ _,_,S',rfl,hR,hw.sub hs⟩
theorem qV{a:Act}{t:Nat}{v:Value}(ha:Tm N ds σ a)(h:aI σ t=some v):a.tmps.getD t undef=v:=by simp[ha.at_ t v h]
theorem aM{fn:Func}{t:Tmp}{v:Value}{S':List HE}{Rl:Value→List HE→Prop}(hres:fn.results=#[.tmp t])(hv:aI σ t=some v)(hs:aA S' H)(hR:Rl v S'):J N [] w0 W σ H (bodyPost P fn (fun e w'=>∃v S',e=.returned v∧Rl v S'∧St w0 W S' w') .ret) :=
 fun a w ha hw=>⟨ha.defers,_,results_tmp hres _ _ _,_,S',by rw[qV ha hv],hR,hw.sub hs⟩
theorem cY{fn:Func}{t u:Tmp}{v x:Value}{S':List HE}{Rl:Value→List HE→Prop}(hres:fn.results=#[.tmp t,.tmp u])(hv:aI σ t=some v)(hx:aI σ u=some x)(hs:aA S' H)(hR:Rl (.tuple #[v,x]) S'):J N [] w0 W σ H (bodyPost P fn (fun e w'=>∃v S',e=.returned v∧Rl v S'∧St w0 W S' w') .ret) :=
 fun a w ha hw=>⟨ha.defers,_,results_tmp2 hres _ _ _,_,S',by rw[qV ha hv,qV ha hx],hR,hw.sub hs⟩
end
section
variable {F:Fence} {n:Nat} {P:Program} {N:Nat} {ds:List Deferred} {w0:World} {W:Nat→Prop} {σ:List (Nat×Value)} {H:List HE} {Q:Exit→Act→World→Prop}
def QJ(F:Fence)(n:Nat)(P:Program)(N:Nat)(ds:List Deferred)(w0:World)(W:Nat→Prop)(σ:List (Nat×Value))(H:List HE)(o:Oper)(d:Nat)(v:Value):Prop :=
 ∀K Q,J N ds w0 W ((d,v)::σ) H K→OJ F n P N ds w0 W σ H o K Q
theorem bC5{o:Oper}{a b:Act}{K K':Act→World→Prop}{Q':Exit→Act→World→Prop}{r:Result Next}
  (h:o.uponIn F n P a K (fun _ _ _=>False) r) (hd:∀x w',¬K (({ a with defers:=x::a.defers }:Act).put o.dst undef) w') (hK:∀v w',K (a.put o.dst v) w'→K' (b.put o.dst v) w'):o.uponIn F n P b K' Q' r:=by
 have key:∀(v:Ending) (w':World),(match v,w' with
  | .returned v,w''=>K (a.put o.dst v) w''
  | .panicked _,_=>False
  | .outgrown,_=>LetsOut (fun _ _ _=>False))→(match v,w' with
  | .returned v,w''=>K' (b.put o.dst v) w''
  | .panicked chain,w''=>Q' (.panic chain) b w''
  | .outgrown,_=>LetsOut Q'):=by
  intro v w' hv;cases v with
  | returned v=>exact hK _ _ hv
  | panicked c=>exact hv.elim
  | outgrown=>obtain⟨_,_,h0⟩:=hv;exact h0.elim
 cases r with
 | ok x w' =>
  cases x<;>simp only[Oper.uponIn]at h ⊢
  case value v=>exact hK _ _ h
  case skip=>exact hK _ _ h
  case enter f args=>exact⟨h.1,h.2.mono key⟩
  case round l f t a b=>exact⟨h.1,h.2.mono key⟩
  case defer d=>exact(hd _ _ h).elim
  case row r args=>exact⟨h.1,h.2.mono fun v w' hv=>hK _ _ hv⟩
 | halt x w' =>
  cases x<;>simp only[Oper.uponIn]at h ⊢
def cN(ops:Array Oper)(j i:Nat):Bool :=
 match ops[j]? with
 | some o=>o.after.any fun e=>Region.binds .any e&&e.on==i
 | none=>false
def gK(o:Oper):Bool:=match o.op with | .select ..=>false | .defer _=>false|_=>true
def aF1(ops:Array Oper)(m:Nat):Bool :=
 Nat.ble m ops.size &&
 ((List.range m).all fun i=>match ops[i]? with
  | some o=>o.dst.isSome&&gK o&&((List.range m).all fun j=>match ops[j]? with
   | some p=>(Nat.beq j i||p.dst != o.dst)&&(match p.dst with|some d=>!(o.looksAt ops).contains d||(Nat.blt j i&&cN ops i j)|none=>true)
   | none=>true)
  | none=>true) &&
 (m==ops.size||(List.range m).all fun i=>(List.range (m+1)).any fun j=>Nat.blt i j&&cN ops j i) &&
 ((List.range (ops.size-m-1)).all fun k=>cN ops (m+k+1) (m+k)) &&
 ((List.range ops.size).all fun k=>match ops[k]? with
  | some o=>o.after.all fun e=>!Region.binds .any e||Nat.blt e.on k
  | none=>true)
def bM(F:Fence)(n:Nat)(P:Program)(N:Nat)(ds:List Deferred)(w0:World)(W:Nat→Prop)(H:List HE)(ops:Array Oper):List Oper→List (Nat×Value)→(List (Nat×Value)→Prop)→Prop
 | [],σ,T=>T σ
 | o::rest,σ,T=>∃d v,o.dst=some d∧d<N∧((bT ops σ o=some true∧QJ F n P N ds w0 W σ H o d v)∨(bT ops σ o=some false∧v=undef))∧bM F n P N ds w0 W H ops rest ((d,v)::σ) T
theorem lH{ops:Array Oper}{T:List (Nat×Value)→Prop}(h:T σ):bM F n P N ds w0 W H ops [] σ T:=h
theorem xV{ops:Array Oper}{T:List (Nat×Value)→Prop}{o:Oper}{rest:List Oper}{d:Nat}{v:Value}(hd:o.dst=some d)(hdN:Nat.blt d N=true)(hw:bT ops σ o=some true)(hq:∀K Q,J N ds w0 W ((d,v)::σ) H K→OJ F n P N ds w0 W σ H o K Q)
  (h:bM F n P N ds w0 W H ops rest ((d,v)::σ) T):bM F n P N ds w0 W H ops (o::rest) σ T:=⟨d,v,hd,by simpa using hdN,.inl ⟨hw,hq⟩,h⟩
theorem pT{ops:Array Oper}{T:List (Nat×Value)→Prop}{o:Oper}{rest:List Oper}{d:Nat}(hd:o.dst=some d)(hdN:Nat.blt d N=true)(hw:bT ops σ o=some false)
  (h:bM F n P N ds w0 W H ops rest ((d,undef)::σ) T):bM F n P N ds w0 W H ops (o::rest) σ T:=⟨d,undef,hd,by simpa using hdN,.inr ⟨hw,rfl⟩,h⟩
theorem bM.vals{ops:Array Oper}{T:List (Nat×Value)→Prop}: ∀(l:List Oper) (k:Nat) (σ:List (Nat×Value)),(∀j,j<l.length→l[j]? = ops[k+j]?)→bM F n P N ds w0 W H ops l σ T →
  ∃(vs:List (Nat×Value)),vs.length=l.length∧T (vs.reverse++σ)∧∀j d v,vs[j]? = some (d,v)→∃o,ops[k+j]? = some o∧o.dst=some d∧d<N ∧
   ((bT ops ((vs.take j).reverse++σ) o=some true∧QJ F n P N ds w0 W ((vs.take j).reverse++σ) H o d v)∨(bT ops ((vs.take j).reverse++σ) o=some false∧v=undef))
 | [],k,σ,_,h=>⟨[],rfl,h,aE⟩
 | o::rest,k,σ,hl,h=>by
  obtain⟨d,v,hd,hdN,hq,hr⟩:=h;obtain⟨vs,h1,h2,h3⟩:=bM.vals rest (k+1) ((d,v)::σ) (fun j hj=>by have:=hl (j+1) (Nat.succ_lt_succ hj);simpa [Nat.add_assoc,Nat.add_comm 1 j] using this) hr;refine⟨(d,v)::vs,by simp[h1],by simpa using h2,fun j d' v' hj=>?_⟩;cases j with
  | zero =>
   simp at hj;obtain⟨rfl,rfl⟩:=hj;refine⟨o,by simpa using (hl 0 aE).symm,hd,hdN,by simpa using hq⟩
  | succ j =>
   obtain⟨o',e1,e2,e3,e4⟩:=h3 j d' v' (by simpa using hj);refine⟨o',by rw[← e1,Nat.add_assoc,Nat.add_comm 1 j],e2,e3,by simpa using e4⟩
theorem zE(l σ:List (Nat×Value))(t:Nat):aI (l++σ) t=(aI l t).or (aI σ t):=by
 induction l with
 | nil=>simp[aI]
 | cons x r ih =>
  obtain⟨k,v⟩:=x;rw[List.cons_append,nO,nO];split
  ·rfl
  ·exact ih
theorem zF{l:List (Nat×Value)}{t:Nat}{v:Value}(h:aI l t=some v):(t,v)∈l:=by
 induction l with
 | nil=>simp[aI]at h
 | cons x r ih =>
  obtain⟨k,u⟩:=x;rw[nO]at h;split at h
  ·rename_i hk;subst hk;obtain rfl:=by simpa using h
   exact List.mem_cons_self ..
  ·exact List.mem_cons_of_mem _ (ih h)
theorem aAr{l:List (Nat×Value)}{t:Nat}(h:aI l t=none):∀v,(t,v) ∉ l:=by
 induction l with
 | nil=>simp
 | cons x r ih =>
  obtain⟨k,u⟩:=x;rw[nO]at h;split at h
  ·cases h
  ·rename_i hk;intro v hv;rcases List.mem_cons.1 hv with e|e
   ·injection e with e1 _;exact hk e1.symm
   ·exact ih h v e
def rE:List (Nat×Value)→Act→Act
 | [],a=>a
 | (d,v)::r,a=>(rE r a).put (some d) v
theorem aGn:∀(l:List (Nat×Value)) {a:Act} {σ:List (Nat×Value)},(∀p∈l,p.1<N)→Tm N ds σ a→Tm N ds (l++σ) (rE l a)
 | [],a,σ,_,h=>h
 | (d,v)::r,a,σ,hl,h=>(aGn r (fun p hp=>hl p (List.mem_cons_of_mem _ hp)) h).put d v (hl (d,v) (List.mem_cons_self ..))
theorem aD9:∀(l:List (Nat×Value)) {a:Act} {t:Nat},(∀p∈l,p.1<N)→a.tmps.size=N→(rE l a).tmps[t]? = (aI l t).or a.tmps[t]?∧(rE l a).tmps.size=N∧(rE l a).defers=a.defers
 | [],a,t,_,h=>by simp[rE,aI,h]
 | (d,v)::r,a,t,hl,h=>by
  obtain⟨h1,h2,h3⟩:=aD9 r (t:=t) (fun p hp=>hl p (List.mem_cons_of_mem _ hp)) h;refine⟨?_,by simp[rE,Act.put,h2],by simp[rE,Act.put,h3]⟩;simp only[rE,Act.put,Array.getElem?_setIfInBounds];rw[nO];by_cases hk:d=t
  ·subst hk;rw[if_pos rfl,if_pos (by rw[h2];exact hl (d,v) (List.mem_cons_self ..)),if_pos rfl];rfl
  ·rw[if_neg hk,if_neg hk,h1]
def oP(ops:Array Oper)(j:Nat):Bool :=
 match ops[j]? with
 | some o=>o.after.all fun e=>!Region.binds .any e||Nat.blt e.on j
 | none=>true
theorem pQ{listed:Array Bool}{j:Nat}{b:Bool}(h:listed[j]? = some b)(d:Bool):listed.getD j d=b:=by rw[Array.getElem?_eq_some_iff]at h;obtain⟨hb,hb2⟩:=h;simp[Array.getD,hb,hb2]
theorem aDf{ops:Array Oper}{listed:Array Bool}{k:Nat}(hk:k<ops.size)(hb:oP ops k=true)(hu:listed[k]? = some false)(hl:∀j,j<k→listed[j]? = some true):k∈Region.ready .any ops listed:=by have hok:ops[k]? = some ops[k]:=Array.getElem?_eq_getElem hk;refine mem_ready.2 ⟨pQ hu _,ops[k],hok,fun e he hbe=>?_⟩;unfold oP at hb;rw[hok]at hb;simp only[Array.all_eq_true_iff_forall_mem]at hb;have:=hb e he;rw[hbe]at this;exact pQ (hl e.on (by simpa using this)) _
theorem aG6{ops:Array Oper}{listed:Array Bool}{i j:Nat}(he:cN ops j i=true)(hu:listed[i]? = some false):j ∉ Region.ready .any ops listed:=by intro hj;obtain⟨-,o,ho,h⟩:=mem_ready.1 hj;unfold cN at he;rw[ho]at he;simp only[Array.any_eq_true']at he;obtain⟨e,hemem,hee⟩:=he;simp only[Bool.and_eq_true,beq_iff_eq]at hee;have:=h e hemem hee.1;rw[hee.2,pQ hu]at this;cases this
theorem aOa{ops:Array Oper}{m:Nat}(hc:∀k,m≤k→k+1<ops.size→cN ops (k+1) k=true)(hb:∀k,oP ops k=true):
  ∀(l:List Oper) (k fuel:Nat) (listed:Array Bool) (a:Act) (w:World),m≤k→k+l.length=ops.size→(∀j,l[j]? = ops[k+j]?)→l.length≤fuel→listed.size=ops.size→(∀j,j<k→listed[j]? = some true)→(∀j,k≤j→j<ops.size→listed[j]? = some false) →
   wpListIn F n P ops Q l a w→wpAnyIn F n P .any ops Q fuel listed a w
 | [],k,fuel,listed,a,w,hmk,hkl,hl,hf,hsz,h1,h2,h=>by
  have hr:Region.ready .any ops listed=[]:=by apply List.eq_nil_iff_forall_not_mem.2;intro j hj;obtain⟨hj1,o,ho,-⟩:=mem_ready.1 hj;have hjs:j<ops.size:=(Array.getElem?_eq_some_iff.1 ho).1;simp at hkl;rw[pQ (h1 j oo)]at hj1;cases hj1
  exact wpAnyIn_done hr h fuel
 | o::rest,k,0,listed,a,w,_,_,_,hf,_,_,_,_=>by simp at hf
 | o::rest,k,fuel+1,listed,a,w,hmk,hkl,hl,hf,hsz,h1,h2,h=>by
  have hk:k<ops.size:=by simp at hkl;omega
  have hok:ops[k]? = some o:=by simpa using (hl 0).symm
  have honly:∀i∈Region.ready .any ops listed,i=k:=by
   intro i hi;obtain⟨hi1,oi,hoi,-⟩:=mem_ready.1 hi;have his:i<ops.size:=(Array.getElem?_eq_some_iff.1 hoi).1;rcases Nat.lt_trichotomy i k with hlt|rfl|hgt
   ·rw[pQ (h1 i hlt)]at hi1;cases hi1
   ·rfl
   ·exfalso;obtain⟨i',rfl⟩:∃i',i=i'+1:=⟨i-1,oo⟩;exact aG6 (hc i' oo his) (h2 i' oo oo) hi
  have step:wpOpIn F n P ops Q k (wpAnyIn F n P .any ops Q fuel (listed.setIfInBounds k true)) a w:=by
   refine wpOpIn_step hok fun K' hK'=>?_;simp only[wpListIn]at h;have hnext:∀a w,wpListIn F n P ops Q rest a w→K' a w:=fun a w hh=>hK' _ _ (
    aOa hc hb rest (k+1) fuel _ a w oo (by simp at hkl;omega) (fun j=>by have:=hl (j+1);simpa [Nat.add_assoc,Nat.add_comm 1 j] using this) (by simp at hf;omega) (by simpa using hsz)
     (fun j hj=>by
      rw[Array.getElem?_setIfInBounds];split
      ·simp;omega
      ·exact h1 j oo)
     (fun j hj hj2=>by rw[Array.getElem?_setIfInBounds,if_neg oo];exact h2 j oo hj2) hh)
   by_cases hw:Region.wanted o (yielded ops a.tmps)=true
   ·rw[if_pos hw]at h ⊢;exact Oper.wpIn_mono hnext h
   ·rw[if_neg hw]at h ⊢;exact⟨h.1,hnext _ _ h.2⟩
  refine⟨fun hr=>?_,fun i hi=>by rw[honly i hi];exact step⟩;have hkr:=aDf hk (hb k) (h2 k (Nat.le_refl _) hk) h1;rw[hr]at hkr;cases hkr
structure aE0(N:Nat)(ds:List Deferred)(vs σ:List (Nat×Value))(listed:Array Bool)(a:Act):Prop where
 size:a.tmps.size=N
 defers:a.defers=ds
 old:∀(t:Nat) (v:Value),(∀p∈vs,p.1≠t)→aI σ t=some v→a.tmps[t]? = some v
 new:∀(j d:Nat) (v:Value),vs[j]? = some (d,v)→listed[j]? = some true→a.tmps[d]? = some v
theorem aE0.tm{vs:List (Nat×Value)}{listed:Array Bool}{a:Act}(h:aE0 N ds vs σ listed a)(hl:∀j,j<vs.length→listed[j]? = some true):Tm N ds (vs.reverse++σ) a:=by
 refine⟨h.size,h.defers,fun t v ht=>?_⟩;rw[zE]at ht;cases hv:aI vs.reverse t with
 | some u =>
  rw[hv]at ht;obtain rfl:u=v:=by simpa using ht
  have hmem:=List.mem_reverse.1 (zF hv);obtain⟨j,hj,hje⟩:=List.getElem_of_mem hmem;exact h.new j t u (by rw[List.getElem?_eq_getElem hj,hje]) (hl j hj)
 | none =>
  rw[hv]at ht;refine h.old t v (fun p hp e=>?_) (by simpa using ht);exact aAr hv p.2 (List.mem_reverse.2 (by rw[← e];exact hp))
theorem yZ{a b:Act}{x:Operand}(h:∀t,x=.tmp t→a.tmps[t]? = b.tmps[t]?):a.eval x=b.eval x:=by
 cases x with
 | tmp t =>
  have:=h t rfl;simp only[Act.eval,Array.getD_eq_getD_getElem?,this]
 | _=>rfl
theorem aUe{ops:Array Oper}{o:Oper}{d:Nat}{v:Value}{τ:List (Nat×Value)}{a:Act}{w:World}{K:Act→World→Prop}[hF:aU F]
  (hpl:gK o=true) (hd:o.dst=some d) (hdN:d<N) (hsz:a.tmps.size=N) (hdf:a.defers=ds) (hτ:∀p∈τ,p.1<N)
  (hag:∀t∈o.looksAt ops,∀u,aI τ t=some u→a.tmps[t]? = some u)
  (hq:(bT ops τ o=some true∧QJ F n P N ds w0 W τ H o d v)∨(bT ops τ o=some false∧v=undef)) (hst:St w0 W H w)
  (hK:∀w',St w0 W H w'→K (a.put (some d) v) w') :
  if Region.wanted o (yielded ops a.tmps)=true then Oper.wpIn F n P o a w K Q else (∀f,o.about P w a.eval=some f→F.fn f)∧K (a.put o.dst undef) w:=by
 have hb:=fun t=>aD9 (N:=N) τ (a:=a) (t:=t) hτ hsz;generalize hbe:rE τ a=b at hb;have hbt:∀t∈o.looksAt ops,a.tmps[t]? = b.tmps[t]?:=by
  intro t ht;rw[(hb t).1];cases hl:aI τ t with
  | some u=>rw[hag t ht u hl];rfl
  | none=>rfl
 have htm:Tm N ds τ b:=⟨(hb 0).2.1,by rw[(hb 0).2.2,hdf],fun t u hu=>by rw[(hb t).1,hu];rfl⟩;have hev:∀x∈o.op.operands,b.eval x=a.eval x:=fun x hx=>yZ fun t e=>by subst e;exact(hbt t (List.mem_append_left _ (List.mem_filterMap.2 ⟨.tmp t,by simpa using hx,rfl⟩))).symm
 have hsel:∀cs c,o.op≠.select cs c:=by intro cs c e;unfold gK at hpl;rw[e]at hpl;cases hpl
 have hnd:∀c,o.op≠.defer c:=by intro c e;unfold gK at hpl;rw[e]at hpl;cases hpl
 have hex:execOp b.eval o=execOp a.eval o:=execOp_congr o hsel hev;have hwt:Region.wanted o (yielded ops a.tmps)=Region.wanted o (yielded ops b.tmps):=by
  unfold Region.wanted;cases hg:o.guard with
  | none=>rfl
  | some g =>
   obtain⟨j,c⟩:=g;simp only[yielded];cases hj:(ops[j]?).bind (·.dst) with
   | none=>rfl
   | some t =>
    have:t∈o.looksAt ops:=by unfold Oper.looksAt;rw[hg];exact List.mem_append_right _ (by simp[hj])
    simp only[Option.bind_some,hbt t this]
 rcases hq with⟨hw,hq⟩ | ⟨hw,rfl⟩
 ·rw[hwt,aB9 htm hw,if_pos rfl];refine⟨fun f _=>hF.out.fn f,?_⟩;have h1:=hq (fun a' w'=>Tm N ds ((d,v)::τ) a'∧St w0 W H w') (fun _ _ _=>False) (fun _ _ ha hw=>⟨ha,hw⟩) b w htm hst;have h2:=h1.2;rw[Oper.semAt_plain F _ _ hnd,hex]at h2;rw[Oper.semAt_plain F _ _ hnd];refine bC5 h2 ?_ ?_
  ·intro x w' hx;have:=hx.1.defers;rw[hd]at this;simp only[Act.put,htm.defers]at this;exact absurd (congrArg List.length this) aE
  ·intro u w' hu;rw[hd]at hu ⊢;have h3:=hu.1.at_ d v (by rw[nO,if_pos rfl]);have h4:u=v:=by simp only[Act.put,Array.getElem?_setIfInBounds]at h3;rw[if_pos trivial,if_pos (by rw[htm.size];exact hdN)]at h3;simpa using h3
   rw[h4];exact hK w' hu.2
 ·rw[hwt,aB9 htm hw];simp only[Bool.false_eq_true,if_false];refine⟨fun f _=>hF.out.fn f,?_⟩;rw[hd];exact hK w hst
def qH(listed:Array Bool)(m:Nat):Nat:=((List.range m).filter fun j=>listed[j]? == some false).length
theorem aHp{listed:Array Bool}{m:Nat}(hl:∀j,j<m→listed[j]? = some true∨listed[j]? = some false)(h:qH listed m=0):∀j,j<m→listed[j]? = some true:=by
 intro j hj;rcases hl j hj with e|e
 ·exact e
 ·exfalso;have:j∈(List.range m).filter fun j=>listed[j]? == some false:=List.mem_filter.2 ⟨List.mem_range.2 hj,by simp[e]⟩;unfold qH at h;rw[List.length_eq_zero_iff]at h;rw[h]at this;cases this
theorem aHo{listed:Array Bool}{m i:Nat}(hi:i<m)(hu:listed[i]? = some false):qH (listed.setIfInBounds i true) m<qH listed m:=by
 unfold qH;have hsub:((List.range m).filter fun j=>(listed.setIfInBounds i true)[j]? == some false)=((List.range m).filter fun j=>listed[j]? == some false).filter (fun j=>j != i):=by
  rw[List.filter_filter];apply List.filter_congr;intro j _;rw[Array.getElem?_setIfInBounds];by_cases h:i=j
  ·subst h;have hb:i<listed.size:=(Array.getElem?_eq_some_iff.1 hu).1;simp[hb]
  ·rw[if_neg h];have:(j != i)=true:=by simpa using fun e:j=i=>h e.symm
   simp[this]
 rw[hsub];refine List.length_filter_lt_length_iff_exists.2 ⟨i,List.mem_filter.2 ⟨List.mem_range.2 hi,by simp[hu]⟩,aE⟩
theorem aCg{p:Nat→Prop}[DecidablePred p]:∀(m:Nat),(∃j,j<m∧p j)→∃j,j<m∧p j∧∀i,i<j→¬p i
 | 0,⟨_,h,_⟩=>absurd h oo
 | m+1,⟨j,h,hp⟩=>by
  by_cases hm:∃j,j<m∧p j
  ·obtain⟨i,h1,h2,h3⟩:=aCg m hm;exact⟨i,oo,h2,h3⟩
  ·exact⟨j,h,hp,fun i hi hpi=>hm ⟨i,oo,hpi⟩⟩
theorem aJy{p:Nat→Prop}[DecidablePred p]:∀(m:Nat),(∃j,j<m∧p j)→∃j,j<m∧p j∧∀i,j<i→i<m→¬p i
 | 0,⟨_,h,_⟩=>absurd h oo
 | m+1,⟨j,h,hp⟩=>by
  by_cases hm:p m
  ·exact⟨m,oo,hm,fun i h1 h2=>by omega⟩
  ·have hj:j<m:=by
    rcases Nat.lt_or_ge j m with h1|h1
    ·exact h1
    ·obtain rfl:j=m:=oo;exact absurd hp hm
   obtain⟨i,h1,h2,h3⟩:=aJy m ⟨j,hj,hp⟩;refine⟨i,oo,h2,fun k hk hkm hpk=>?_⟩;by_cases e:k=m
   ·subst e;exact hm hpk
   ·exact h3 k hk oo hpk
theorem aUg{ops:Array Oper}{m:Nat}{vs:List (Nat×Value)}[hF:aU F](hm:m≤ops.size)(hvl:vs.length=m)
  (hpl:∀i o,i<m→ops[i]? = some o→gK o=true)
  (hdis:∀(i j di dj:Nat) (vi vj:Value),vs[i]? = some (di,vi)→vs[j]? = some (dj,vj)→i≠j→di≠dj)
  (hlook:∀(i j:Nat) (o:Oper) (d:Nat) (v:Value),i<m→ops[i]? = some o→vs[j]? = some (d,v)→d∈o.looksAt ops→j<i∧cN ops i j=true)
  (hsink:m=ops.size∨∀i,i<m→∃j,i<j∧j≤m∧cN ops j i=true)
  (hc:∀k,m≤k→k+1<ops.size→cN ops (k+1) k=true) (hb:∀k,oP ops k=true)
  (hv:∀(j d:Nat) (v:Value),vs[j]? = some (d,v)→∃o,ops[j]? = some o∧o.dst=some d∧d<N ∧
   ((bT ops ((vs.take j).reverse++σ) o=some true∧QJ F n P N ds w0 W ((vs.take j).reverse++σ) H o d v)∨(bT ops ((vs.take j).reverse++σ) o=some false∧v=undef)))
  (hσ:∀p∈σ,p.1<N) (ht:J N ds w0 W (vs.reverse++σ) H (wpListIn F n P ops Q (ops.toList.drop m))) :
  ∀(c fuel:Nat) (listed:Array Bool) (a:Act) (w:World),qH listed m=c→c+(ops.size-m)≤fuel→listed.size=ops.size→(∀j,j<m→listed[j]? = some true∨listed[j]? = some false) →
   (∀j,m≤j→j<ops.size→listed[j]? = some false)→(∀j i,j<m→listed[j]? = some true→cN ops j i=true→listed[i]? = some true)→aE0 N ds vs σ listed a→St w0 W H w →
   wpAnyIn F n P .any ops Q fuel listed a w:=by
 intro c
 induction c using Nat.strongRecOn with
 | _ c ih =>
 intro fuel listed a w hcn hf hsz hl htail hdown hinv hst;by_cases h0:c=0
 ·have hall:=aHp hl oo;have htm:=hinv.tm (fun j hj=>hall j oo);exact aOa hc hb (ops.toList.drop m) m fuel listed a w (Nat.le_refl _) (by simp;omega) (fun j=>by simp[List.getElem?_drop]) (by simp;omega) hsz hall htail (ht a w htm hst)
 ·obtain⟨f,rfl⟩:∃f,fuel=f+1:=⟨fuel-1,oo⟩;have hex:∃j,j<m∧listed[j]? = some false:=by apply Classical.byContradiction;intro hno;apply h0;rw[← hcn];unfold qH;rw[List.length_eq_zero_iff,List.filter_eq_nil_iff];intro j hj;have hjm:=List.mem_range.1 hj;intro he;exact hno ⟨j,hjm,by simpa using he⟩
  have hlow:∀i∈Region.ready .any ops listed,i<m:=by
   intro i hi;apply Classical.byContradiction;intro hge;obtain⟨-,oi,hoi,-⟩:=mem_ready.1 hi;have his:i<ops.size:=(Array.getElem?_eq_some_iff.1 hoi).1;rcases hsink with kM|hsink
   ·omega
   obtain⟨x,hx1,hx2,hx3⟩:=aJy (p:=fun j=>listed[j]? = some false) m hex;obtain⟨y,hy1,hy2,hy3⟩:=hsink x hx1;rcases Nat.lt_or_ge y m with hym|hym
   ·rcases hl y hym with e|e
    ·have:=hdown y x hym e hy3;rw[hx2]at this;cases this
    ·exact hx3 y hy1 hym e
   ·obtain rfl:y=m:=oo;by_cases him:i=y
    ·subst him;exact aG6 hy3 hx2 hi
    ·obtain⟨i',rfl⟩:∃i',i=i'+1:=⟨i-1,oo⟩;exact aG6 (hc i' oo his) (htail i' oo oo) hi
  refine⟨fun hr=>?_,fun i hi=>?_⟩
  ·exfalso;obtain⟨x,hx1,hx2,hx3⟩:=aCg (p:=fun j=>listed[j]? = some false) m hex;have:=aDf (ops:=ops) (listed:=listed) (by omega:x<ops.size) (hb x) hx2 (fun j hj=>(hl j oo).resolve_right (hx3 j hj));rw[hr]at this;cases this
  ·have him:=hlow i hi;obtain⟨hiu,o,hio,hie⟩:=mem_ready.1 hi;have hifalse:listed[i]? = some false:=by
    rcases hl i him with e|e
    ·rw[pQ e]at hiu;cases hiu
    ·exact e
   obtain⟨⟨d,v⟩,hdv⟩:∃p,vs[i]? = some p:=⟨vs[i]'oo,List.getElem?_eq_getElem _⟩;obtain⟨o',ho',hd,hdN,hq⟩:=hv i d v hdv;obtain rfl:o=o':=by rw[hio]at ho';simpa using ho'
   refine wpOpIn_step hio fun K' hK'=>?_;refine aUe (ops:=ops) (hpl i o him hio) hd hdN hinv.size hinv.defers ?_ ?_ hq hst ?_
   ·intro p hp;rcases List.mem_append.1 hp with hp|hp
    ·have hp':=List.mem_of_mem_take (List.mem_reverse.1 hp);obtain⟨k,hk,hke⟩:=List.getElem_of_mem hp';obtain⟨-,-,-,h4,-⟩:=hv k p.1 p.2 (by rw[List.getElem?_eq_getElem hk,hke]);exact h4
    ·exact hσ p hp
   ·intro t htl u hu;rw[zE]at hu;by_cases hdst:∃(j:Nat) (v':Value),vs[j]? = some (t,v')
    ·obtain⟨j,v',hj⟩:=hdst;obtain⟨hji,hje⟩:=hlook i j o t v' him hio hj htl;have hjl:listed[j]? = some true:=by
      unfold cN at hje;rw[hio]at hje;simp only[Array.any_eq_true']at hje;obtain⟨e,hemem,hee⟩:=hje;simp only[Bool.and_eq_true,beq_iff_eq]at hee;have:=hie e hemem hee.1;rw[hee.2]at this;rcases hl j oo with e1|e1
      ·exact e1
      ·rw[pQ e1]at this;cases this
     have hmem:(t,v')∈(vs.take i).reverse:=by rw[List.mem_reverse];exact List.mem_of_getElem? (i:=j) (by rw[List.getElem?_take_of_lt hji];exact hj)
     cases hlk:aI (vs.take i).reverse t with
     | none=>exact absurd hmem (aAr hlk v')
     | some u' =>
      rw[hlk]at hu;obtain rfl:u'=u:=by simpa using hu
      have hm2:=List.mem_reverse.1 (zF hlk);obtain⟨k,hk,hke⟩:=List.getElem_of_mem hm2;have hkv:vs[k]? = some (t,u'):=by have:=List.getElem?_eq_getElem hk;rw[hke,List.getElem?_take_of_lt (by simp at hk;omega)]at this;exact this
      have hkj:k=j:=by apply Classical.byContradiction;intro hne;exact hdis k j t t u' v' hkv hj hne rfl
      subst hkj;rw[hj]at hkv;injection hkv with hkv;injection hkv with _ hkv;subst hkv;exact hinv.new k t v' hj hjl
    ·have hno:∀p∈vs,p.1≠t:=fun p hp e=>by obtain⟨k,hk,hke⟩:=List.getElem_of_mem hp;exact hdst ⟨k,p.2,by rw[List.getElem?_eq_getElem hk,hke,← e]⟩
     have hln:aI (vs.take i).reverse t=none:=by
      cases hlk:aI (vs.take i).reverse t with
      | none=>rfl
      | some u'=>exact absurd rfl (hno _ (List.mem_of_mem_take (List.mem_reverse.1 (zF hlk))))
     rw[hln]at hu;exact hinv.old t u hno (by simpa using hu)
   ·intro w' hw';apply hK';have hus:=aHo him hifalse;refine ih _ (by rw[← hcn];exact hus) f _ _ _ rfl oo (by simpa using hsz) ?_ ?_ ?_ ?_ hw'
    ·intro j hj;rw[Array.getElem?_setIfInBounds];split
     ·rw[if_pos oo];exact .inl rfl
     ·exact hl j hj
    ·intro j hj hjs;rw[Array.getElem?_setIfInBounds,if_neg oo];exact htail j hj hjs
    ·intro j k hj hjl hjk;rw[Array.getElem?_setIfInBounds]at hjl ⊢;by_cases hik:i=k
     ·rw[if_pos hik,if_pos oo]
     ·rw[if_neg hik];by_cases hij:i=j
      ·subst hij;unfold cN at hjk;rw[hio]at hjk;simp only[Array.any_eq_true']at hjk;obtain⟨e,hemem,hee⟩:=hjk;simp only[Bool.and_eq_true,beq_iff_eq]at hee;have:=hie e hemem hee.1;rw[hee.2]at this;have hks:k<listed.size:=by
        rcases Nat.lt_or_ge k listed.size with h1|h1
        ·exact h1
        ·simp[Array.getD,Nat.not_lt.2 h1]at this
       rw[Array.getElem?_eq_getElem hks];simpa [Array.getD,hks] using this
      ·rw[if_neg hij]at hjl;exact hdown j k hj hjl hjk
    ·refine⟨by simp[Act.put,hinv.size],by simp[Act.put,hinv.defers],fun t u hno hu=>?_,fun j d' u hj hjl=>?_⟩
     ·simp only[Act.put,Array.getElem?_setIfInBounds];rw[if_neg (fun e=>hno (d,v) (List.mem_of_getElem? hdv) e)];exact hinv.old t u hno hu
     ·simp only[Act.put,Array.getElem?_setIfInBounds];rw[Array.getElem?_setIfInBounds]at hjl;by_cases hij:i=j
      ·subst hij;rw[hdv]at hj;injection hj with hj;injection hj with e1 e2;subst e1 e2;rw[if_pos rfl,if_pos (by rw[hinv.size];exact hdN)]
      ·rw[if_neg hij]at hjl;rw[if_neg (hdis i j d d' v u hdv hj hij)];exact hinv.new j d' u hj hjl
theorem aIu{id:Nat}{l:List Oper}(m:Nat)[hF:aU F](hmx:P.follows .mixedOrders=true)(hok:aF1 l.toArray m=true)
  (h:bM F n P N ds w0 W H l.toArray (l.take m) σ (fun τ=>J N ds w0 W τ H (wpListIn F n P l.toArray Q (l.drop m)))):J N ds w0 W σ H ((Code.region id l.toArray true).wpIn F n P Q):=by
 intro a w ha hst;refine wpIn_region_any hmx ?_;unfold aF1 at hok;simp only[Bool.and_eq_true]at hok;obtain⟨⟨⟨⟨h1,h2⟩,h3⟩,h4⟩,h5⟩:=hok;have hml:m≤l.length:=by simpa using Nat.le_of_ble_eq_true h1
 obtain⟨vs,hvl,hT,hvs⟩:=bM.vals (l.take m) 0 σ (fun j hj=>by rw[List.getElem?_take_of_lt (by simp at hj;omega)];simp) h;have hvm:vs.length=m:=by rw[hvl];simp;omega
 have hvs':∀(j d:Nat) (v:Value),vs[j]? = some (d,v)→∃o,l.toArray[j]? = some o∧o.dst=some d∧d<N ∧
   ((bT l.toArray ((vs.take j).reverse++σ) o=some true∧QJ F n P N ds w0 W ((vs.take j).reverse++σ) H o d v)∨(bT l.toArray ((vs.take j).reverse++σ) o=some false∧v=undef)):=fun j d v hj=>by
  have:=hvs j d v hj
  rwa [Nat.zero_add]at this
 have k2:∀i,i<m→∀o,l.toArray[i]? = some o→o.dst.isSome=true∧gK o=true∧∀j,j<m→∀p,l.toArray[j]? = some p→(j=i∨p.dst≠o.dst)∧∀d,p.dst=some d→d∈o.looksAt l.toArray→j<i∧cN l.toArray i j=true:=by
  intro i hi o ho;have:=List.all_eq_true.1 h2 i (List.mem_range.2 hi);rw[ho]at this;simp only[Bool.and_eq_true]at this;obtain⟨⟨a1,a2⟩,a3⟩:=this;refine⟨a1,a2,fun j hj p hp=>?_⟩;have:=List.all_eq_true.1 a3 j (List.mem_range.2 hj);rw[hp]at this;simp only[Bool.and_eq_true,Bool.or_eq_true]at this;refine⟨this.1.imp (fun e=>Nat.eq_of_beq_eq_true e) (fun e=>by simpa using e),fun d hd hdl=>?_⟩;have h6:=this.2;rw[hd]at h6;simp only[Bool.or_eq_true,Bool.not_eq_true',Bool.and_eq_true]at h6;rcases h6 with h6|h6
  ·rw[List.contains_eq_mem]at h6;simp[hdl]at h6
  ·exact⟨by simpa using h6.1,h6.2⟩
 have hσ:∀p∈σ,p.1<N:=by
  intro p hp;cases hlk:aI σ p.1 with
  | none=>exact absurd hp (aAr hlk p.2)
  | some v =>
   have:=ha.at_ _ _ hlk;rw[← ha.size];exact(Array.getElem?_eq_some_iff.1 this).1
 have hrep:∀j,j<l.length→(Array.replicate l.toArray.size false)[j]? = some false:=fun j hj=>by simp[hj]
 refine aUg (ops:=l.toArray) (m:=m) (vs:=vs) (by simpa using hml) hvm (fun i o hi ho=>(k2 i hi o ho).2.1) ?_ ?_ ?_ ?_ ?_ hvs' hσ (by simpa using hT) _ _ (Array.replicate l.toArray.size false) a _ rfl ?_ aE (fun j hj=>.inr (hrep j oo)) (fun j _ hj=>hrep j (by simpa using hj)) (fun j i hj hjl=>?_) ⟨ha.size,ha.defers,fun t v _ hv=>ha.at_ t v hv,fun j d v _ hjl=>?_⟩ hst.drew
 ·intro i j di dj vi vj hi hj hne;obtain⟨oi,e1,e2,-,-⟩:=hvs' i di vi hi;obtain⟨oj,e3,e4,-,-⟩:=hvs' j dj vj hj;have him:i<m:=by rw[← hvm];exact(List.getElem?_eq_some_iff.1 hi).1
  have hjm:j<m:=by rw[← hvm];exact(List.getElem?_eq_some_iff.1 hj).1
  have:=((k2 i him oi e1).2.2 j hjm oj e3).1;rcases this with e|e
  ·exact absurd e.symm hne
  ·rw[e2,e4]at e;exact fun e'=>e (by rw[e'])
 ·intro i j o d v hi ho hj hd;obtain⟨oj,e3,e4,-,-⟩:=hvs' j d v hj;have hjm:j<m:=by rw[← hvm];exact(List.getElem?_eq_some_iff.1 hj).1
  exact((k2 i hi o ho).2.2 j hjm oj e3).2 d e4 hd
 ·simp only[Bool.or_eq_true,beq_iff_eq]at h3;rcases h3 with h3|h3
  ·exact .inl (by simpa using h3)
  ·refine .inr fun i hi=>?_;obtain⟨j,hj,hje⟩:=List.any_eq_true.1 (List.all_eq_true.1 h3 i (List.mem_range.2 hi));simp only[Bool.and_eq_true]at hje;have:=List.mem_range.1 hj;exact⟨j,by simpa using hje.1,oo,hje.2⟩
 ·intro k hk hk1;have hks:k-m<l.toArray.size-m-1:=oo;have:=List.all_eq_true.1 h4 (k-m) (List.mem_range.2 hks)
  rwa [show m+(k-m)+1=k+1 from by omega,show m+(k-m)=k from by omega]at this
 ·intro k;unfold oP;cases hk:l.toArray[k]? with
  | none=>rfl
  | some o =>
   have hks:k<l.toArray.size:=(Array.getElem?_eq_some_iff.1 hk).1;have:=List.all_eq_true.1 h5 k (List.mem_range.2 hks);rw[hk]at this;exact this
 ·have:qH (Array.replicate l.toArray.size false) m≤m:=by unfold qH;exact Nat.le_trans (List.length_filter_le _ _) aE
  simp at this ⊢;omega
 ·rw[hrep j oo]at hjl;cases hjl
 ·have:j<l.length:=by have:=(Array.getElem?_eq_some_iff.1 hjl).1;simpa using this
  rw[hrep j this]at hjl;cases hjl
end
section
variable {F:Fence} {n:Nat} {P:Program} {N:Nat} {ds:List Deferred} {w0:World} {W:Nat→Prop} {σ τ:List (Nat×Value)} {H:List HE} {Q:Exit→Act→World→Prop} {k:Act→World→Prop}
theorem Tm.ext{a:Act}(he:∀t,aI σ t=aI τ t)(h:Tm N ds σ a):Tm N ds τ a:=⟨h.size,h.defers,fun t v hv=>h.at_ t v (by rw[he];exact hv)⟩
theorem J.ext(he:∀t,aI σ t=aI τ t)(h:J N ds w0 W σ H k):J N ds w0 W τ H k:=fun a w ha hw=>h a w (ha.ext fun t=>(he t).symm) hw
theorem aFv(he:∀t,aI σ t=aI τ t)(d:Nat)(v:Value):∀t,aI ((d,v)::σ) t=aI ((d,v)::τ) t:=fun t=>by rw[nO,nO,he]
theorem aDu{ops:Array Oper}{o:Oper}(he:∀t,aI σ t=aI τ t):bT ops σ o=bT ops τ o:=by
 unfold bT;cases o.guard with
 | none=>rfl
 | some g =>
  obtain⟨j,b⟩:=g;simp only;cases (ops[j]?).bind (·.dst) with
  | none=>rfl
  | some t=>simp only[he t]
theorem bM.ext{ops:Array Oper}: ∀(l:List Oper) (σ τ:List (Nat×Value)),(∀t,aI σ t=aI τ t)→bM F n P N ds w0 W H ops l σ (fun τ=>J N ds w0 W τ H k)→bM F n P N ds w0 W H ops l τ (fun τ=>J N ds w0 W τ H k)
 | [],_,_,he,h=>J.ext he h
 | o::rest,σ,τ,he,h=>by
  obtain⟨d,v,hd,hdN,hq,hr⟩:=h;refine⟨d,v,hd,hdN,?_,bM.ext rest _ _ (aFv he d v) hr⟩;rcases hq with⟨h1,h2⟩ | ⟨h1,h2⟩
  ·exact .inl ⟨by rw[← aDu he];exact h1,fun K Q hK a w ha hw=>h2 K Q (J.ext (fun t=>(aFv he d v t).symm) hK) a w (ha.ext fun t=>(he t).symm) hw⟩
  ·exact .inr ⟨by rw[← aDu he];exact h1,h2⟩
theorem aAs{t:Nat}{v:Value}(hl:aI σ t=some v):∀s,aI ((t,v)::σ) s=aI σ s:=fun s=>by
 rw[nO];split
 ·rename_i e;subst e;exact hl.symm
 ·rfl
theorem aCm{ops:Array Oper}{l:List Oper}(t:Nat){c:Bool}(hl:aI σ t=some (.bool c))(ht:c=true→bM F n P N ds w0 W H ops l ((t,.bool true)::σ) (fun τ=>J N ds w0 W τ H k))
  (hf:c=false→bM F n P N ds w0 W H ops l ((t,.bool false)::σ) (fun τ=>J N ds w0 W τ H k)):bM F n P N ds w0 W H ops l σ (fun τ=>J N ds w0 W τ H k):=by
 cases c with
 | true=>exact bM.ext l _ _ (aAs hl) (ht rfl)
 | false=>exact bM.ext l _ _ (aAs hl) (hf rfl)
theorem aFj{ops:Array Oper}{l:List Oper}(t:Nat)(v:Value)(hl:aI σ t=some v){v':Value}(e:v=v')(h:bM F n P N ds w0 W H ops l ((t,v')::σ) (fun τ=>J N ds w0 W τ H k)):bM F n P N ds w0 W H ops l σ (fun τ=>J N ds w0 W τ H k):=by subst e;exact bM.ext l _ _ (aAs hl) h
theorem aRc{c:Code}{X:Type}(R:X→Prop)(σI:X→List (Nat×Value))(HI:X→List HE)
  (h1:J N ds w0 W σ H (c.wpIn F n P (Exit.then (fun a w=>∃x,R x∧Tm N ds (σI x) a∧St w0 W (HI x) w) Q))) (h2:∀x,R x→J N ds w0 W (σI x) (HI x) (Q .normal)):J N ds w0 W σ H (c.wpIn F n P Q) :=
 fun a w ha hw=>wpIn_mono (h1 a w ha hw) fun e a w hq=>by
  cases e with
  | normal=>obtain⟨x,hx,ha,hw⟩:=hq;exact h2 x hx a w ha hw
  | _=>exact hq
theorem aIs{X:Type}{R:X→Prop}{σI:X→List (Nat×Value)}{HI:X→List HE}(x:X)(hR:R x)(hp:uF (σI x) σ)(hs:aA (HI x) H):
  J N ds w0 W σ H (fun a w=>∃x,R x∧Tm N ds (σI x) a∧St w0 W (HI x) w):=fun _ _ ha hw=>⟨x,hR,ha.part hp,hw.sub hs⟩
end
abbrev nZ(S:List HE)(w:World)(Rl:Value→List HE→Prop):Ending→World→Prop:=fun e w'=>∃v S',e=.returned v∧Rl v S'∧St w (bB S) S' w'
def aF(P:Program)(f:FuncId)(args:List Value)(S:List HE)(w:World)(Rl:Value→List HE→Prop):Prop:=∀n,CallsIn Fence.wide n P f args.toArray w (nZ S w Rl)
class WF(F:Fence):Prop where h:∀{n P f args w R},CallsIn Fence.wide n P f args w R→CallsIn F n P f args w R
instance:WF Fence.wide:=⟨id⟩
instance (l:Nat):WF (Fence.wide.inRound l):=⟨id⟩
theorem aF.mono{P:Program}{f:FuncId}{args:List Value}{S:List HE}{w:World}{Rl Rl':Value→List HE→Prop}(h:aF P f args S w Rl)(hr:∀v S',Rl v S'→Rl' v S'):aF P f args S w Rl':=fun n =>
 (h n).mono fun _ _ ⟨v,S',e,h1,h2⟩=>⟨v,S',e,hr _ _ h1,h2⟩
theorem St.sub_own{w0 w:World}{W:Nat→Prop}{H S R:List HE}(h:St w0 W H w)(hs:aC H S R):aZ S w:=(h.perm hs.perm).left.own
section
variable {F:Fence} {n:Nat} {P:Program} {N:Nat} {ds:List Deferred} {w0:World} {W:Nat→Prop} {σ:List (Nat×Value)} {H R:List HE} {Q:Exit→Act→World→Prop} {K:Act→World→Prop}
variable {d:Nat} {ty:TypeId} {pos:String} {aft:Array Edge} {gd:Option (Nat×Bool)} {o:Oper}
theorem aJ{f:FuncId}{fn:Func}{c:Code}{S:List HE}{args:List Value}{w:World}{Rl:Value→List HE→Prop}(hf:P.funcs[f]? = some fn)(hb:fn.body=some c)(hN:fn.ntmps=N)(hle:Nat.ble args.length N=true)(hown:aZ S w)
  (h:∀n,J N [] w (bB S) (aG 0 args) S (c.wpIn Fence.wide n P (bodyPost P fn (nZ S w Rl)))):aF P f args S w Rl:=fun n=>aUv hf hb hN hle rfl hown (h n)
def vals(σ:List (Nat×Value)):List Operand→Option (List Value)
 | []=>some []
 | x::r=>match ev σ x,vals σ r with
  | some v,some vs=>some (v::vs)
  | _,_=>none
theorem yJ{a:Act}(ha:Tm N ds σ a):∀{l:List Operand} {vs:List Value},vals σ l=some vs→l.map a.eval=vs
 | [],vs,h=>by simp[vals]at h;simp[h]
 | x::r,vs,h=>by
  simp only[vals]at h;cases hx:ev σ x with
  | none=>simp[hx]at h
  | some v =>
   cases hr:vals σ r with
   | none=>simp[hx,hr]at h
   | some us =>
    simp[hx,hr]at h;subst h;simp[ha.eval hx,yJ ha hr]
theorem aM1[hF:aU F][hW:WF F]{dst:Option Nat}{x:Operand}{f:FuncId}{captured:Array Value}{args:Array Operand}{ts:Array TypeId}{vs:List Value}[hcl:Cl P f]{S:List HE}{Rl:Value→List HE→Prop}
  (hx:ev σ x=some (.func (.func f) #[] captured)) (hv:vals σ args.toList=some vs) (hs:aC H S R)
  (hc:∀w,St w0 W H w→aZ S w→aF P f (vs++captured.toList) S w Rl)
  (h:∀v S',Rl v S'→∀a w,Tm N ds σ a→St w0 W (S'++R) w→K (a.put dst v) w) :
  OJ F n P N ds w0 W σ H ⟨dst,.call ⟨.value x,args,ts⟩,ty,pos,aft,gd⟩ K Q:=by
 intro a w ha hw;have hargs:args.map a.eval=vs.toArray:=by rw[← yJ ha hv];apply Array.ext';simp
 refine⟨fun f _=>hF.out.fn f,?_⟩;rw[Oper.semAt_plain F _ _ aE];have e0:(#[]++vs.toArray++captured:Array Value)=(vs++captured.toList).toArray:=by apply Array.ext';simp
 simp only[execOp,resolve,invoke,Deferred.ofValue,Sem.run_bind,Sem.run_pure,Result.andThen_ok,ha.eval hx,hargs,hcl.h,Oper.uponIn_enter,e0];refine⟨fun hd=>(by rw[hF.out.depth]at hd;cases hd),(hW.h (hc w hw (hw.sub_own hs) (n-1))).mono ?_⟩;rintro e w' ⟨v,S',rfl,hr,hst⟩;exact h v S' hr _ _ ha (hw.call hs hst)
theorem aGs[hF:aU F][hW:WF F]{f:FuncId}{args:Array Operand}{ts:Array TypeId}{vs:List Value}[hcl:Cl P f]{S:List HE}{Rl:Value→List HE→Prop}
  (hv:vals σ args.toList=some vs) (hs:aC H S R) (hdN:Nat.blt d N=true)
  (hc:∀w,St w0 W H w→aZ S w→aF P f vs S w Rl)
  (h:∀v S',Rl v S'→J N ds w0 W ((d,v)::σ) (S'++R) K) :
  OJ F n P N ds w0 W σ H ⟨some d,.call ⟨.value (.func f),args,ts⟩,ty,pos,aft,gd⟩ K Q :=
 aM1 (captured:=#[]) rfl hv hs (fun w hw ho=>by simpa using hc w hw ho) fun v S' hr a w ha hw=>h v S' hr _ _ (ha.put d v (by simpa using hdN)) hw
theorem aMs[hF:aU F][hW:WF F]{f:FuncId}{args:Array Operand}{ts:Array TypeId}{vs:List Value}[hcl:Cl P f]{v:Value}
  (hv:vals σ args.toList=some vs) (hdN:Nat.blt d N=true)
  (hc:∀w,St w0 W H w→aF P f vs [] w fun u S'=>u=v∧S'=[])
  (h:J N ds w0 W ((d,v)::σ) H K) :
  OJ F n P N ds w0 W σ H ⟨some d,.call ⟨.value (.func f),args,ts⟩,ty,pos,aft,gd⟩ K Q :=
 aGs hv (aC.nil H) hdN (fun w hw _=>hc w hw) (by rintro u S' ⟨rfl,rfl⟩;exact h)
theorem aMr[hF:aU F][hW:WF F]{f:FuncId}{args:Array Operand}{ts:Array TypeId}{vs:List Value}[hcl:Cl P f]{v:Value}(S:List HE)
  (hv:vals σ args.toList=some vs) (hs:aC H S R) (hb:aA H (S++R)) (hdN:Nat.blt d N=true)
  (hc:∀w,St w0 W H w→aZ S w→aF P f vs S w fun u S'=>u=v∧S'=S)
  (h:J N ds w0 W ((d,v)::σ) H K) :
  OJ F n P N ds w0 W σ H ⟨some d,.call ⟨.value (.func f),args,ts⟩,ty,pos,aft,gd⟩ K Q :=
 aGs hv hs hdN hc (by rintro u S' ⟨rfl,rfl⟩;exact jP hb h)
class Pl(P:Program)(t:TypeId)(pl:outParam (List (Nat×Nat))):Prop where h:∃fs,P.underlying t=some (.struct fs)∧∀w,(fs.mapM (fun f=>do pure (f.offset,← sizeOf f.type)):Sem (Array (Nat×Nat))).run P w=.ok pl.toArray w
def bAu(l:List Value)(o:Nat)(xs:List Value):List Value:=l.take o++xs++l.drop (o+xs.length)
def wH(pl:List (Nat×Nat))(l:List Value):List (Nat×Value)→List Value
 | []=>l
 | (i,v)::r=>wH pl (bAu l ((pl.getD i (0,0)).1) v.cells.toList) r
theorem aMo[aU F]{t sz bs:Nat}{z:Value}{pl:List (Nat×Nat)}{parts:Array (Nat×Operand)}{vs:List (Nat×Value)}{cs:List Value}[hP:Pl P t pl][hI:bF P t sz bs z](hv:qU σ parts.toList=some vs)
  (hcs:wH pl z.cells.toList vs=cs) (hf:Instr.fill (pl.toArray[·]?) z.cells vs=some (wH pl z.cells.toList vs).toArray) (hdN:Nat.blt d N=true)
  (h:J N ds w0 W ((d,.agg cs.toArray)::σ) H K):OJ F n P N ds w0 W σ H ⟨some d,.build t parts,ty,pos,aft,gd⟩ K Q:=by
 subst hcs;refine dW aE rfl hdN (fun a w ha _=>?_) h;obtain⟨fs,h1,h2⟩:=hP.h;obtain⟨i,h3,h4,-⟩:=hI.h;have e1:(List.map (fun x:Nat×Operand=>match x with|(i,x)=>(i,a.eval x)) parts.toList)=vs:=aCf ha hv;have hb:(Instr.build t (parts.map fun (i,x)=>(i,a.eval x))).run P w=.ok (.agg (wH pl z.cells.toList vs).toArray) w:=by
  unfold Instr.build;have hz:(zeroValue t).run P w=.ok z w:=by simp[zeroValue,typeInfo,h3,h4]
  simp only[Sem.run_bind,hz,Result.andThen_ok,run_underlying h1,h2 w,Array.toList_map,e1,hf,Sem.run_pure]
 simp only[execOp,Sem.run_bind,hb,Result.andThen_ok,Sem.run_pure]
end
class bZ(fn:Func)(rs:outParam (List ResultVar)):Prop where h:fn.results=rs.toArray
class dG(l:List Value)(q:Nat)(v:outParam Value):Prop where h:l[q]? = some v
instance (u:Value)(r:List Value):dG (u::r) 0 u:=⟨rfl⟩
instance (u:Value)(r:List Value)(q:Nat)(v:Value)[h:dG r q v]:dG (u::r) (q+1) v:=⟨by simpa using h.h⟩
class Tk(l:List Value)(s:Nat)(o:outParam (List Value)):Prop where h:l.take s=o∧o.length=s
instance (l:List Value):Tk l 0 []:=⟨aE⟩
instance (u:Value)(r:List Value)(s:Nat)(o:List Value)[h:Tk r s o]:Tk (u::r) (s+1) (u::o):=⟨by obtain⟨h1,h2⟩:=h.h;simp[h1,h2]⟩
class lL(l:List Value)(q s:Nat)(o:outParam (List Value)):Prop where h:(l.drop q).take s=o∧o.length=s
instance (l:List Value)(s:Nat)(o:List Value)[h:Tk l s o]:lL l 0 s o:=⟨by simpa using h.h⟩
instance (u:Value)(r:List Value)(q s:Nat)(o:List Value)[h:lL r q s o]:lL (u::r) (q+1) s o:=⟨by simpa using h.h⟩
class kF(l:List Value)(q:Nat)(v:Value)(o:outParam (List Value)):Prop where h:l.set q v=o∧q<l.length
instance (u:Value)(r:List Value)(v:Value):kF (u::r) 0 v (v::r):=⟨aE⟩
instance (u:Value)(r:List Value)(q:Nat)(v:Value)(o:List Value)[h:kF r q v o]:kF (u::r) (q+1) v (u::o):=⟨by obtain⟨h1,h2⟩:=h.h;simp[h1];omega⟩
class nG(a b:Nat)(c:outParam Nat):Prop where h:a+b=c
instance (priority:=10) (a b:Nat):nG a b (a+b):=⟨rfl⟩
instance (priority:=100) (a:Nat):nG a 0 a:=⟨rfl⟩
instance (priority:=200) (b:Nat):nG 0 b b:=⟨Nat.zero_add b⟩
class rL(a b:Nat)(c:outParam Nat):Prop where h:a*b=c
instance (priority:=10) (a b:Nat):rL a b (a*b):=⟨rfl⟩
instance (priority:=100) (a:Nat):rL a 1 a:=⟨Nat.mul_one a⟩
instance (priority:=200) (b:Nat):rL 0 b 0:=⟨Nat.zero_mul b⟩
class aA0(H:List HE)(x:HE)(R:outParam (List HE)):Prop where h:aP H x R
instance (priority:=100) (x:HE)(r:List HE):aA0 (x::r) x r:=⟨.here _ _⟩
instance (priority:=10) (x y:HE)(r R:List HE)[h:aA0 r x R]:aA0 (y::r) x (y::R):=⟨.there y h.h⟩
class aBj(S H:List HE):Prop where h:aA S H
instance (H:List HE):aBj [] H:=⟨.nil _⟩
instance (x:HE)(S H R:List HE)[h:aA0 H x R][k:aBj S R]:aBj (x::S) H:=⟨.cons h.h k.h⟩
theorem aA.au{S H:List HE}[h:aBj S H]:aA S H:=h.h
class uI(H S:List HE)(R:outParam (List HE)):Prop where h:aC H S R
instance (H:List HE):uI H [] H:=⟨.nil _⟩
instance (x:HE)(S H R T:List HE)[h:aA0 H x R][k:uI R S T]:uI H (x::S) T:=⟨.cons h.h k.h⟩
theorem aC.au{H S R:List HE}[h:uI H S R]:aC H S R:=h.h
class At(b:Nat)(H:List HE)(t:outParam TypeId)(cs:outParam (List Value))(k:outParam (HE→List HE)):Prop where h:∃R,aP H (.blk b t cs) R∧∀x,aA (k x) (x::R)
theorem aA.keep{S H:List HE}(h:aA S H)(y:HE):aA (y::S) (y::H):=.cons (.here y H) h
theorem aA.of_perm_cons{S R:List HE}{x y:HE}(h:aA S (x::R)):aA (y::S) (x::y::R):=by refine .cons (.there x (.here y R)) h
instance (priority:=100) (b:Nat)(t:TypeId)(cs:List Value)(r:List HE):At b (.blk b t cs::r) t cs (fun x=>x::r):=⟨r,.here _ _,fun _=>aA.refl _⟩
instance (priority:=10) (b:Nat)(y:HE)(r:List HE)(t:TypeId)(cs:List Value)(k:HE→List HE)[h:At b r t cs k]:At b (y::r) t cs (fun x=>y::k x) :=
 ⟨let ⟨R,h1,h2⟩:=h.h;⟨y::R,.there y h1,fun x=>aA.of_perm_cons (h2 x)⟩⟩
class xC(b:Nat)(H:List HE)(m c e s:outParam Nat)(xs:outParam (List Value))(k:outParam (HE→List HE)):Prop where h:∃R,aP H (.row (.slice (some ⟨b,0,none⟩) m c) e s m xs) R∧∀x,aA (k x) (x::R)
instance (priority:=100) (b m c e s:Nat)(xs:List Value)(r:List HE):xC b (.row (.slice (some ⟨b,0,none⟩) m c) e s m xs::r) m c e s xs (fun x=>x::r):=⟨r,.here _ _,fun _=>aA.refl _⟩
instance (priority:=10) (b m c e s:Nat)(y:HE)(xs:List Value)(r:List HE)(k:HE→List HE)[h:xC b r m c e s xs k]:xC b (y::r) m c e s xs (fun x=>y::k x) :=
 ⟨let ⟨R,h1,h2⟩:=h.h;⟨y::R,.there y h1,fun x=>aA.of_perm_cons (h2 x)⟩⟩
def aD(k:IntKind)(ys:List Int):List Value:=ys.map (.int k)
@[simp] theorem fW(k:IntKind)(ys:List Int):(aD k ys).length=ys.length:=by simp[aD]
class rI(xs:List Value)(q:Nat)(v:outParam Value)(c:outParam Prop):Prop where h:c→xs[q]? = some v
instance (priority:=100) (k:IntKind)(ys:List Int)(q:Nat):rI (aD k ys) q (.int k (ys.getD q 0)) (q<ys.length):=⟨fun h=>by simp[aD,List.getD_eq_getElem?_getD,h]⟩
class zY(xs:List Value)(q:Nat)(v:Value)(ys:outParam (List Value))(c:outParam Prop):Prop where h:c→xs.set q v=ys∧q<xs.length
instance (priority:=100) (k:IntKind)(ys:List Int)(q:Nat)(e:Int):zY (aD k ys) q (.int k e) (aD k (ys.set q e)) (q<ys.length):=⟨fun h=>by simp[aD,h]⟩
class aBi(w0:World)(W:Nat→Prop)(b off:Nat)(xs:outParam (List Value)):Prop where h:b<w0.heap.size∧¬W b∧∀j v,xs[j]? = some v→w0.cell? ⟨b,off+j,none⟩=some v
section
variable (P:Program) (w0:World) (W:Nat→Prop) (H:List HE)
class MS(op:Op)(vs:List Value)(v:outParam Value)(c:outParam Prop):Prop where
 h:c→∀{F:Fence} {n N:Nat} {ds:List Deferred} {σ:List (Nat×Value)} {d:Nat} {ty:TypeId} {pos:String} {aft:Array Edge} {gd:Option (Nat×Bool)} {K:Act→World→Prop} {Q:Exit→Act→World→Prop} [aU F],
  vals σ op.operands.toList=some vs→Nat.blt d N=true→J N ds w0 W ((d,v)::σ) H K→OJ F n P N ds w0 W σ H ⟨some d,op,ty,pos,aft,gd⟩ K Q
class MW(op:Op)(vs:List Value)(v:outParam Value)(c:outParam Prop):Prop where
 h:c→∀{F:Fence} {n N:Nat} {ds:List Deferred} {σ:List (Nat×Value)} {d:Nat} {ty:TypeId} {pos:String} {aft:Array Edge} {gd:Option (Nat×Bool)} {K:Act→World→Prop} {Q:Exit→Act→World→Prop} [aU F],
  vals σ op.operands.toList=some vs→Nat.blt d N=true→J N ds w0 W ((d,v)::σ) H K→OJ F n P N ds w0 W σ H ⟨some d,op,ty,pos,aft,gd⟩ K Q
class SS(op:Op)(vs:List Value)(H':outParam (List HE))(c:outParam Prop):Prop where
 h:c→∀{F:Fence} {n N:Nat} {ds:List Deferred} {σ:List (Nat×Value)} {ty:TypeId} {pos:String} {aft:Array Edge} {gd:Option (Nat×Bool)} {K:Act→World→Prop} {Q:Exit→Act→World→Prop} [aU F],
  vals σ op.operands.toList=some vs→J N ds w0 W σ H' K→OJ F n P N ds w0 W σ H ⟨none,op,ty,pos,aft,gd⟩ K Q
class NS(op:Op)(vs:List Value)(v:outParam (Nat→Value))(H':outParam (Nat→List HE))(c:outParam Prop):Prop where
 h:c→∀{F:Fence} {n N:Nat} {ds:List Deferred} {σ:List (Nat×Value)} {d:Nat} {ty:TypeId} {pos:String} {aft:Array Edge} {gd:Option (Nat×Bool)} {K:Act→World→Prop} {Q:Exit→Act→World→Prop} [aU F],
  vals σ op.operands.toList=some vs→Nat.blt d N=true→(∀b,J N ds w0 W ((d,v b)::σ) (H' b) K)→OJ F n P N ds w0 W σ H ⟨some d,op,ty,pos,aft,gd⟩ K Q
end
theorem bC6{σ:List (Nat×Value)}{x:Operand}{v:Value}(h:vals σ [x]=some [v]):ev σ x=some v:=by
 simp only[vals]at h;cases hx:ev σ x<;>simp[hx]at h
 simp[h]
theorem dP{σ:List (Nat×Value)}{x y:Operand}{v u:Value}(h:vals σ [x,y]=some [v,u]):ev σ x=some v∧ev σ y=some u:=by
 simp only[vals]at h;cases hx:ev σ x<;>simp[hx]at h
 cases hy:ev σ y<;>simp[hy]at h
 simp[h]
theorem aHr{σ:List (Nat×Value)}{x y z:Operand}{v u t:Value}(h:vals σ [x,y,z]=some [v,u,t]):ev σ x=some v∧ev σ y=some u∧ev σ z=some t:=by
 simp only[vals]at h;cases hx:ev σ x<;>simp[hx]at h
 cases hy:ev σ y<;>simp[hy]at h
 cases hz:ev σ z<;>simp[hz]at h
 simp[h]
class qJ(dd:TypeDesc):Prop where h:oO dd=false
class gP(dd:TypeDesc):Prop where h:oO dd=true
def quN(a b:Nat):Nat:=a/b
theorem aYn(a b:Nat):((quN a b:Nat):Int)=(a:Int)/(b:Int):=by simp[quN]
def fL(a b:Nat):Nat:=a/2^b
theorem aHb(a b:Nat):fL a b≤a:=Nat.div_le_self _ _
section
variable {P:Program} {w0:World} {W:Nat→Prop} {H:List HE}
theorem kP{op:Op}{x:Operand}(h:op.operands=#[x]){σ:List (Nat×Value)}{v:Value}(k:vals σ op.operands.toList=some [v]):ev σ x=some v:=bC6 (by rw[h]at k;exact k)
theorem aM8{op:Op}{x y:Operand}(h:op.operands=#[x,y]){σ:List (Nat×Value)}{v u:Value}(k:vals σ op.operands.toList=some [v,u]):ev σ x=some v∧ev σ y=some u:=dP (by rw[h]at k;exact k)
instance (x:Operand)(v:Value):MS P w0 W H (.move x) [v] v True:=⟨fun _ _ _ _ _ _ _ _ _ _ _ _ _ _ h1 h2 h3=>aZ7 (kP rfl h1) h2 h3⟩
instance (x:Operand)(v:Value):MS P w0 W H (.assign x) [v] v True:=⟨fun _ _ _ _ _ _ _ _ _ _ _ _ _ _ h1 h2 h3=>aYr (kP rfl h1) h2 h3⟩
instance (c x y:Operand)(u v:Value):MS P w0 W H (.pick c x y) [.bool true,u,v] u True:=⟨fun _ _ _ _ _ _ _ _ _ _ _ _ _ _ h1 h2 h3=>let ⟨a,b,_⟩:=aHr h1;aGx a b h2 h3⟩
instance (c x y:Operand)(u v:Value):MS P w0 W H (.pick c x y) [.bool false,u,v] v True:=⟨fun _ _ _ _ _ _ _ _ _ _ _ _ _ _ h1 h2 h3=>let ⟨a,_,b⟩:=aHr h1;aGw a b h2 h3⟩
instance (x:Operand)(p:Addr):MS P w0 W H (.nilCheck x) [.pointer (some p)] (.pointer (some p)) True:=⟨fun _ _ _ _ _ _ _ _ _ _ _ _ _ _ h1 h2 h3=>aZ9 (kP rfl h1) h2 h3⟩
instance (x:Operand)(i:Nat)(vs:List Value)(v:Value)[hg:dG vs i v]:MS P w0 W H (.extract x i) [.tuple vs.toArray] v True:=⟨fun _ _ _ _ _ _ _ _ _ _ _ _ _ _ h1 h2 h3=>aYy (kP rfl h1) (by simpa using hg.h) h2 h3⟩
instance (t u:TypeId)(x y:Operand)(k:IntKind)(a b:Int):MS P w0 W H (.binOp .add t x y u) [.int k a,.int k b] (.int k (a+b)) (bG k (a+b)):=⟨fun hc _ _ _ _ _ _ _ _ _ _ _ _ _ h1 h2 h3=>let ⟨p,q⟩:=dP h1;aGr p q rfl hc h2 h3⟩
instance (t u:TypeId)(x y:Operand)(k:IntKind)(a b:Int):MS P w0 W H (.binOp .sub t x y u) [.int k a,.int k b] (.int k (a-b)) (bG k (a-b)):=⟨fun hc _ _ _ _ _ _ _ _ _ _ _ _ _ h1 h2 h3=>let ⟨p,q⟩:=dP h1;aGr p q rfl hc h2 h3⟩
instance (t u:TypeId)(x y:Operand)(k:IntKind)(a b:Int):MS P w0 W H (.binOp .mul t x y u) [.int k a,.int k b] (.int k (a*b)) (bG k (a*b)):=⟨fun hc _ _ _ _ _ _ _ _ _ _ _ _ _ h1 h2 h3=>let ⟨p,q⟩:=dP h1;aGr p q rfl hc h2 h3⟩
instance (t u:TypeId)(x y:Operand)(k:IntKind)(a b:Int):MS P w0 W H (.binOp .quo t x y u) [.int k a,.int k b] (.int k (a/b)) (0≤a∧0<b∧bG k a):=⟨fun hc _ _ _ _ _ _ _ _ _ _ _ _ _ h1 h2 h3=>let ⟨p,q⟩:=dP h1;aMw p q hc.1 hc.2.1 hc.2.2 h2 h3⟩
instance (t u:TypeId)(x y:Operand)(k:IntKind)(a b:Int):MS P w0 W H (.binOp .rem t x y u) [.int k a,.int k b] (.int k (a%b)) (0≤a∧0<b):=⟨fun hc _ _ _ _ _ _ _ _ _ _ _ _ _ h1 h2 h3=>let ⟨p,q⟩:=dP h1;aZb p q hc.1 hc.2 h2 h3⟩
instance (priority:=2000) (t u:TypeId)(x y:Operand)(k:IntKind)(a b:Nat):MS P w0 W H (.binOp .quo t x y u) [.int k (a:Int),.int k (b:Int)] (.int k ((quN a b:Nat):Int)) (0<b∧bG k (a:Int)):=⟨fun hc _ _ _ _ _ _ _ _ _ _ _ _ _ h1 h2 h3=>let ⟨p,q⟩:=dP h1;aMw p q oo oo hc.2 h2 (by rw[← aYn];exact h3)⟩
instance (priority:=2000) (t u:TypeId)(x y:Operand)(k:IntKind)(a:Int):MS P w0 W H (.binOp .eql t x y u) [.int k a,.int k a] (.bool true) True:=⟨fun _ _ _ _ _ _ _ _ _ _ _ _ _ _ h1 h2 h3=>let ⟨p,q⟩:=dP h1;oI p q (by simp[tF]) h2 h3⟩
instance (priority:=2000) (t u:TypeId)(x y:Operand)(k:IntKind)(a:Int):MS P w0 W H (.binOp .neq t x y u) [.int k a,.int k a] (.bool false) True:=⟨fun _ _ _ _ _ _ _ _ _ _ _ _ _ _ h1 h2 h3=>let ⟨p,q⟩:=dP h1;oI p q (by simp[tF]) h2 h3⟩
instance (t u:TypeId)(x y:Operand)(k:IntKind)(a b:Int):MW P w0 W H (.binOp .quo t x y u) [.int k a,.int k b] (.int k (k.wrap (a.tdiv b))) (b≠0):=⟨fun hc _ _ _ _ _ _ _ _ _ _ _ _ _ h1 h2 h3=>let ⟨p,q⟩:=dP h1;aMv p q hc h2 h3⟩
instance (t u:TypeId)(x y:Operand)(k:IntKind)(a b:Int):MW P w0 W H (.binOp .add t x y u) [.int k a,.int k b] (.int k (k.wrap (a+b))) True:=⟨fun _ _ _ _ _ _ _ _ _ _ _ _ _ _ h1 h2 h3=>let ⟨p,q⟩:=dP h1;oI p q rfl h2 h3⟩
instance (t u:TypeId)(x y:Operand)(k:IntKind)(a b:Int):MW P w0 W H (.binOp .sub t x y u) [.int k a,.int k b] (.int k (k.wrap (a-b))) True:=⟨fun _ _ _ _ _ _ _ _ _ _ _ _ _ _ h1 h2 h3=>let ⟨p,q⟩:=dP h1;oI p q rfl h2 h3⟩
instance (t u:TypeId)(x y:Operand)(k:IntKind)(a b:Int):MW P w0 W H (.binOp .mul t x y u) [.int k a,.int k b] (.int k (k.wrap (a*b))) True:=⟨fun _ _ _ _ _ _ _ _ _ _ _ _ _ _ h1 h2 h3=>let ⟨p,q⟩:=dP h1;oI p q rfl h2 h3⟩
instance (t u:TypeId)(x y:Operand)(k:IntKind)(a b:Int):MS P w0 W H (.binOp .and t x y u) [.int k a,.int k b] (.int k (bits .and k a b)) True:=⟨fun _ _ _ _ _ _ _ _ _ _ _ _ _ _ h1 h2 h3=>let ⟨p,q⟩:=dP h1;oI p q rfl h2 h3⟩
instance (t u:TypeId)(x y:Operand)(k:IntKind)(a b:Int):MS P w0 W H (.binOp .or t x y u) [.int k a,.int k b] (.int k (bits .or k a b)) True:=⟨fun _ _ _ _ _ _ _ _ _ _ _ _ _ _ h1 h2 h3=>let ⟨p,q⟩:=dP h1;oI p q rfl h2 h3⟩
instance (t u:TypeId)(x y:Operand)(k:IntKind)(a b:Int):MS P w0 W H (.binOp .xor t x y u) [.int k a,.int k b] (.int k (bits .xor k a b)) True:=⟨fun _ _ _ _ _ _ _ _ _ _ _ _ _ _ h1 h2 h3=>let ⟨p,q⟩:=dP h1;oI p q rfl h2 h3⟩
instance (t u:TypeId)(x y:Operand)(k:IntKind)(a b:Int):MS P w0 W H (.binOp .eql t x y u) [.int k a,.int k b] (.bool (a==b)) True:=⟨fun _ _ _ _ _ _ _ _ _ _ _ _ _ _ h1 h2 h3=>let ⟨p,q⟩:=dP h1;oI p q rfl h2 h3⟩
instance (t u:TypeId)(x y:Operand)(k:IntKind)(a b:Int):MS P w0 W H (.binOp .neq t x y u) [.int k a,.int k b] (.bool (a != b)) True:=⟨fun _ _ _ _ _ _ _ _ _ _ _ _ _ _ h1 h2 h3=>let ⟨p,q⟩:=dP h1;oI p q rfl h2 h3⟩
instance (t u:TypeId)(x y:Operand)(k:IntKind)(a b:Int):MS P w0 W H (.binOp .lss t x y u) [.int k a,.int k b] (.bool (decide (a<b))) True:=⟨fun _ _ _ _ _ _ _ _ _ _ _ _ _ _ h1 h2 h3=>let ⟨p,q⟩:=dP h1;oI p q rfl h2 h3⟩
instance (t u:TypeId)(x y:Operand)(k:IntKind)(a b:Int):MS P w0 W H (.binOp .leq t x y u) [.int k a,.int k b] (.bool (decide (a≤b))) True:=⟨fun _ _ _ _ _ _ _ _ _ _ _ _ _ _ h1 h2 h3=>let ⟨p,q⟩:=dP h1;oI p q rfl h2 h3⟩
instance (t u:TypeId)(x y:Operand)(k:IntKind)(a b:Int):MS P w0 W H (.binOp .gtr t x y u) [.int k a,.int k b] (.bool (decide (b<a))) True:=⟨fun _ _ _ _ _ _ _ _ _ _ _ _ _ _ h1 h2 h3=>let ⟨p,q⟩:=dP h1;oI p q rfl h2 h3⟩
instance (t u:TypeId)(x y:Operand)(k:IntKind)(a b:Int):MS P w0 W H (.binOp .geq t x y u) [.int k a,.int k b] (.bool (decide (b≤a))) True:=⟨fun _ _ _ _ _ _ _ _ _ _ _ _ _ _ h1 h2 h3=>let ⟨p,q⟩:=dP h1;oI p q rfl h2 h3⟩
instance (t u:TypeId)(x y:Operand)(a b:Bool)[aN P t .bool]:MS P w0 W H (.binOp .eql t x y u) [.bool a,.bool b] (.bool (a==b)) True:=⟨fun _ _ _ _ _ _ _ _ _ _ _ _ _ _ h1 h2 h3=>let ⟨p,q⟩:=dP h1;aMq p q h2 h3⟩
instance (t u:TypeId)(x y:Operand)(a b:Bool)[aN P t .bool]:MS P w0 W H (.binOp .neq t x y u) [.bool a,.bool b] (.bool (!(a==b))) True:=⟨fun _ _ _ _ _ _ _ _ _ _ _ _ _ _ h1 h2 h3=>let ⟨p,q⟩:=dP h1;aMt p q h2 h3⟩
instance (priority:=100) (t u:TypeId)(x y:Operand)(k k':IntKind)(a:Int)(b:Nat):MS P w0 W H (.binOp .shl t x y u) [.int k a,.int k' (b:Int)] (.int k (a*2^b)) (vO k b∧bG k (a*2^b)):=⟨fun hc _ _ _ _ _ _ _ _ _ _ _ _ _ h1 h2 h3=>let ⟨p,q⟩:=dP h1;aGy p q oo h2 (by rw[Int.toNat_natCast,Nat.min_eq_left (xX hc.1),mJ hc.2];exact h3)⟩
instance (t u:TypeId)(x y:Operand)(k k':IntKind)(a b:Int):MW P w0 W H (.binOp .shl t x y u) [.int k a,.int k' b] (.int k (k.wrap (a*2^(min b.toNat k.bits)))) (0≤b):=⟨fun hc _ _ _ _ _ _ _ _ _ _ _ _ _ h1 h2 h3=>let ⟨p,q⟩:=dP h1;aGy p q hc h2 h3⟩
instance (priority:=10) (t u:TypeId)(x y:Operand)(k k':IntKind)(a b:Int):MS P w0 W H (.binOp .shr t x y u) [.int k a,.int k' b] (.int k (a/2^b.toNat)) (0≤b∧vO k b.toNat):=⟨fun hc _ _ _ _ _ _ _ _ _ _ _ _ _ h1 h2 h3=>let ⟨p,q⟩:=dP h1;aGz p q hc.1 h2 (by rw[Nat.min_eq_left (xX hc.2),Int.fdiv_eq_ediv_of_nonneg _ (Int.le_of_lt (Int.pow_pos od))];exact h3)⟩
instance (priority:=100) (t u:TypeId)(x y:Operand)(k k':IntKind)(a b:Nat):MS P w0 W H (.binOp .shr t x y u) [.int k (a:Int),.int k' (b:Int)] (.int k ((fL a b:Nat):Int)) (vO k b):=⟨fun hc _ _ _ _ _ _ _ _ _ _ _ _ _ h1 h2 h3=>let ⟨p,q⟩:=dP h1;aZc p q (xX hc) h2 h3⟩
theorem aLc(b:Nat):(OfNat.ofNat b:Int).toNat=(OfNat.ofNat b:Nat):=by show (Int.ofNat b).toNat=b;rfl
theorem aLb(b:Nat):(0:Int)≤(OfNat.ofNat b:Int):=Int.natCast_nonneg b
instance (priority:=40) (t u:TypeId)(x y:Operand)(k k':IntKind)(a:Int)(b:Nat):MS P w0 W H (.binOp .shl t x y u) [.int k a,.int k' (no_index (OfNat.ofNat b:Int))] (.int k (a*2^(OfNat.ofNat b:Nat))) (vO k (OfNat.ofNat b:Nat)∧bG k (a*2^(OfNat.ofNat b:Nat))):=⟨fun hc _ _ _ _ _ _ _ _ _ _ _ _ _ h1 h2 h3=>let ⟨p,q⟩:=dP h1;aGy p q (aLb b) h2 (by rw[aLc,Nat.min_eq_left (xX hc.1),mJ hc.2];exact h3)⟩
instance (priority:=40) (t u:TypeId)(x y:Operand)(k k':IntKind)(a:Int)(b:Nat):MS P w0 W H (.binOp .shr t x y u) [.int k a,.int k' (no_index (OfNat.ofNat b:Int))] (.int k (a/2^(OfNat.ofNat b:Nat))) (vO k (OfNat.ofNat b:Nat)):=⟨fun hc _ _ _ _ _ _ _ _ _ _ _ _ _ h1 h2 h3=>let ⟨p,q⟩:=dP h1;aGz p q (aLb b) h2 (by rw[aLc,Nat.min_eq_left (xX hc),Int.fdiv_eq_ediv_of_nonneg _ (Int.le_of_lt (Int.pow_pos od))];exact h3)⟩
instance (t:TypeId)(x:Operand)(a:Bool):MS P w0 W H (.unOp .not t x) [.bool a] (.bool (!a)) True:=⟨fun _ _ _ _ _ _ _ _ _ _ _ _ _ _ h1 h2 h3=>aGv (kP rfl h1) h2 h3⟩
instance (priority:=2000) (t:TypeId)(x:Operand):MS P w0 W H (.unOp .not t x) [.bool true] (.bool false) True:=⟨fun _ _ _ _ _ _ _ _ _ _ _ _ _ _ h1 h2 h3=>aGv (kP rfl h1) h2 h3⟩
instance (priority:=2000) (t:TypeId)(x:Operand):MS P w0 W H (.unOp .not t x) [.bool false] (.bool true) True:=⟨fun _ _ _ _ _ _ _ _ _ _ _ _ _ _ h1 h2 h3=>aGv (kP rfl h1) h2 h3⟩
instance (t:TypeId)(x:Operand)(k:IntKind)(a:Int):MS P w0 W H (.unOp .neg t x) [.int k a] (.int k (-a)) (bG k (-a)):=⟨fun hc _ _ _ _ _ _ _ _ _ _ _ _ _ h1 h2 h3=>aZ8 (kP rfl h1) hc h2 h3⟩
instance (t:TypeId)(x:Operand)(k:IntKind)(a:Int):MW P w0 W H (.unOp .neg t x) [.int k a] (.int k (k.wrap (0-a))) True:=⟨fun _ _ _ _ _ _ _ _ _ _ _ _ _ _ h1 h2 h3=>aMu (kP rfl h1) h2 h3⟩
instance (s t:TypeId)(x:Operand)(k k':IntKind)(a:Int)(dd:TypeDesc)[aN P s dd][aN P t (.int k')]:MS P w0 W H (.convert s t x) [.int k a] (.int k' a) (bG k' a):=⟨fun hc _ _ _ _ _ _ _ _ _ _ _ _ _ h1 h2 h3=>aYv (s:=s) (kP rfl h1) hc h2 h3⟩
instance (s t:TypeId)(x:Operand)(k k':IntKind)(a:Int)(dd:TypeDesc)[aN P s dd][aN P t (.int k')]:MW P w0 W H (.convert s t x) [.int k a] (.int k' (k'.wrap a)) True:=⟨fun _ _ _ _ _ _ _ _ _ _ _ _ _ _ h1 h2 h3=>aMp (s:=s) (kP rfl h1) h2 h3⟩
instance (s f off b q r:Nat)(x:Operand)[Fa P s f off][hr:nG q off r]:MS P w0 W H (.fieldAddr s x f) [.pointer (some ⟨b,q,none⟩)] (.pointer (some ⟨b,r,none⟩)) True:=⟨fun _ _ _ _ _ _ _ _ _ _ _ _ _ _ h1 h2 h3=>aYz (kP rfl h1) h2 (by rw[hr.h];exact h3)⟩
instance (x:Operand)(t e:TypeId)(A:Option Addr)(m c:Nat)[aN P t (.slice e)]:MS P w0 W H (.call ⟨.builtin .len,#[x],#[t]⟩) [.slice A m c] (.int .i64 m) True:=⟨fun _ _ _ _ _ _ _ _ _ _ _ _ _ _ h1 h2 h3=>aZ2 (t:=t) (kP rfl h1) h2 h3⟩
instance (x y:Operand)(ts:Array TypeId)(k:IntKind)(p q:Int):MS P w0 W H (.call ⟨.builtin .min,#[x,y],ts⟩) [.int k p,.int k q] (.int k (min p q)) True:=⟨fun _ _ _ _ _ _ _ _ _ _ _ _ _ _ h1 h2 h3=>let ⟨a,b⟩:=aM8 rfl h1;aZ6 a b h2 h3⟩
instance (x y:Operand)(ts:Array TypeId)(k:IntKind)(p q:Int):MS P w0 W H (.call ⟨.builtin .max,#[x,y],ts⟩) [.int k p,.int k q] (.int k (max p q)) True:=⟨fun _ _ _ _ _ _ _ _ _ _ _ _ _ _ h1 h2 h3=>let ⟨a,b⟩:=aM8 rfl h1;aZ5 a b h2 h3⟩
theorem bC7{σ:List (Nat×Value)}: ∀{l:List Operand} {vs:List Value},vals σ l=some vs→∀{N:Nat} {ds:List Deferred} (a:Act),Tm N ds σ a→l.map a.eval=vs:=fun h _ _ _ ha=>yJ ha h
instance (fn:Fn)(captured:Array Operand)(vs:List Value):MS P w0 W H (.makeFunc fn #[] captured) vs (.func fn #[] vs.toArray) True:=⟨fun _ _ _ _ _ _ _ _ _ _ _ _ _ _ h1 h2 h3=>aZ4 (xs:=#[]) (ys:=vs.toArray) (fun a ha=>⟨aE,by have:=bC7 h1 a ha;rw[← this];apply Array.ext';simp[Op.operands]⟩) h2 h3⟩
instance (priority:=100) (x y:Operand)(t e b q m c sz bs j r r':Nat)(z:Value)(k:IntKind)[aN P t (.slice e)][bF P e sz bs z][hm:rL j sz r][hr:nG q r r']:MS P w0 W H (.indexAddr t x y) [.slice (some ⟨b,q,none⟩) m c,.int k (j:Int)] (.pointer (some ⟨b,r',none⟩)) (j<m) :=
 ⟨fun hc _ _ _ _ _ _ _ _ _ _ _ _ _ h1 h2 h3=>let ⟨p1,p2⟩:=dP h1;aZ0 (t:=t) (i:=j) p1 p2 hc h2 (by rw[hm.h,hr.h];exact h3)⟩
instance (priority:=10) (x y:Operand)(t e b q m c sz bs r r':Nat)(i:Int)(z:Value)(k:IntKind)[aN P t (.slice e)][bF P e sz bs z][hm:rL i.toNat sz r][hr:nG q r r']:MS P w0 W H (.indexAddr t x y) [.slice (some ⟨b,q,none⟩) m c,.int k i] (.pointer (some ⟨b,r',none⟩)) (0≤i∧i<m) :=
 ⟨fun hc _ _ _ _ _ _ _ _ _ _ _ _ _ h1 h2 h3=>let ⟨p1,p2⟩:=dP h1;aZ1 (t:=t) i.toNat p1 p2 oo oo h2 (by rw[hm.h,hr.h];exact h3)⟩
instance:qJ .bool:=⟨rfl⟩
instance (k:IntKind):qJ (.int k):=⟨rfl⟩
instance (e:TypeId):qJ (.slice e):=⟨rfl⟩
instance (e:TypeId):qJ (.pointer e):=⟨rfl⟩
instance (m e:Nat):gP (.array m e):=⟨rfl⟩
instance (priority:=100) (t tb b q:Nat)(dd:TypeDesc)(x:Operand)(v:Value)(cs:List Value)(k:HE→List HE)[aN P t dd][hd:qJ dd][h:At b H tb cs k][hg:dG cs q v]:MS P w0 W H (.load t x) [.pointer (some ⟨b,q,none⟩)] v True :=
 ⟨fun _ _ _ _ _ _ _ _ _ _ _ _ _ _ h1 h2 h3=>let ⟨_,h4,_⟩:=h.h;aGt (t:=t) (kP rfl h1) hd.h (mL.blk h4 hg.h) h2 h3⟩
instance (priority:=100) (t tb b q sz bs:Nat)(z:Value)(dd:TypeDesc)(x:Operand)(o cs:List Value)(k:HE→List HE)[aN P t dd][hd:gP dd][bF P t sz bs z][h:At b H tb cs k][hg:lL cs q sz o]:MS P w0 W H (.load t x) [.pointer (some ⟨b,q,none⟩)] (.agg o.toArray) True :=
 ⟨fun _ _ _ _ _ _ _ _ _ _ _ _ _ _ h1 h2 h3=>let ⟨_,h4,_⟩:=h.h;aGu (t:=t) (kP rfl h1) hd.h (mO.cut h4 hg.h.1) hg.h.2 h2 h3⟩
instance (priority:=50) (t b q m c e s:Nat)(dd:TypeDesc)(x:Operand)(v:Value)(p:Prop)(xs:List Value)(k:HE→List HE)[aN P t dd][hd:qJ dd][h:xC b H m c e s xs k][hg:rI xs q v p]:MS P w0 W H (.load t x) [.pointer (some ⟨b,q,none⟩)] v p :=
 ⟨fun hc _ _ _ _ _ _ _ _ _ _ _ _ _ h1 h2 h3=>let ⟨_,h4,_⟩:=h.h;aGt (t:=t) (kP rfl h1) hd.h (mL.row h4 (hg.h hc)) h2 h3⟩
class aE6(w0:World)(W:Nat→Prop)(b q:Nat)(v:outParam Value)(c:outParam Prop):Prop where h:c→b<w0.heap.size∧¬W b∧w0.cell? ⟨b,q,none⟩=some v
instance (priority:=30) (t b q:Nat)(dd:TypeDesc)(x:Operand)(v:Value)(p:Prop)[aN P t dd][hd:qJ dd][hr:aE6 w0 W b q v p]:MS P w0 W H (.load t x) [.pointer (some ⟨b,q,none⟩)] v p :=
 ⟨fun hc _ _ _ _ _ _ _ _ _ _ _ _ _ h1 h2 h3=>let ⟨e1,e2,e3⟩:=hr.h hc;aGt (t:=t) (kP rfl h1) hd.h (mL.old e1 e2 e3) h2 h3⟩
class vQ(v:Value):Prop where h:v.oneCell'=true
instance (k:IntKind)(n:Int):vQ (.int k n):=⟨rfl⟩
instance (b:Bool):vQ (.bool b):=⟨rfl⟩
instance (a:Option Addr):vQ (.pointer a):=⟨rfl⟩
instance (a:Option Addr)(m c:Nat):vQ (.slice a m c):=⟨rfl⟩
instance (priority:=100) (t tb b q bs:Nat)(z:Value)(x y:Operand)(v:Value)(cs cs':List Value)(k:HE→List HE)[bF P t 1 bs z][h1:vQ v][h:At b H tb cs k][hs:kF cs q v cs']:SS P w0 W H (.store t x y) [.pointer (some ⟨b,q,none⟩),v] (k (.blk b tb cs')) True :=
 ⟨fun _ _ _ _ _ _ _ _ _ _ _ _ _ k1 k3=>let ⟨_,h4,h5⟩:=h.h;let ⟨p1,p2⟩:=dP k1;aZe (t:=t) (by rfl) p1 p2 h1.h h4 (by have:=hs.h.2;simpa using this) hs.h.1 (jP (h5 _) k3)⟩
instance (priority:=50) (t b q bs m c e s:Nat)(z:Value)(p:Prop)(x y:Operand)(v:Value)(xs xs':List Value)(k:HE→List HE)[bF P t 1 bs z][h1:vQ v][h:xC b H m c e s xs k][hs:zY xs q v xs' p]:SS P w0 W H (.store t x y) [.pointer (some ⟨b,q,none⟩),v] (k (.row (.slice (some ⟨b,0,none⟩) m c) e s m xs')) p :=
 ⟨fun hc _ _ _ _ _ _ _ _ _ _ _ _ k1 k3=>let ⟨_,h4,h5⟩:=h.h;let ⟨p1,p2⟩:=dP k1;aZg (t:=t) (by rfl) p1 p2 h1.h h4 (hs.h hc).2 (by rw[(hs.h hc).1];exact jP (h5 _) k3)⟩
class ZC(z:Value)(zs:outParam (List Value)):Prop where h:z.cells.toList=zs
instance (l:List Value):ZC (.agg l.toArray) l:=⟨rfl⟩
instance (k:IntKind)(n:Int):ZC (.int k n) [.int k n]:=⟨rfl⟩
instance (b:Bool):ZC (.bool b) [.bool b]:=⟨rfl⟩
instance (a:Option Addr):ZC (.pointer a) [.pointer a]:=⟨rfl⟩
instance (a:Option Addr)(m c:Nat):ZC (.slice a m c) [.slice a m c]:=⟨rfl⟩
instance (e sz bs:Nat)(z:Value)(zs:List Value)[bF P e sz bs z][hz:ZC z zs]:NS P w0 W H (.alloc e) [] (fun b=>.pointer (some ⟨b,0,none⟩)) (fun b=>.blk b e zs::H) True :=
 ⟨fun _ _ _ _ _ _ _ _ _ _ _ _ _ _ _ k2 k3=>aYp hz.h k2 k3⟩
instance (e:Nat)(x:Operand)(v:Value)(vs:List Value)[hz:ZC v vs]:NS P w0 W H (.box e x) [v] (fun b=>.pointer (some ⟨b,0,none⟩)) (fun b=>.blk b e vs::H) True :=
 ⟨fun _ _ _ _ _ _ _ _ _ _ _ _ _ _ k1 k2 k3=>aYs (kP rfl k1) hz.h k2 k3⟩
end
class jD(cs:List Value)(q:Nat)(vs:List Value)(o:outParam (List Value)):Prop where h:cs.take q++vs++cs.drop (q+vs.length)=o∧q+vs.length≤cs.length
instance (cs:List Value):jD cs 0 [] cs:=⟨aE⟩
instance (c v:Value)(cs vs o:List Value)[h:jD cs 0 vs o]:jD (c::cs) 0 (v::vs) (v::o):=⟨by obtain⟨h1,h2⟩:=h.h;simp at h1 h2;simp[h1];exact h2⟩
instance (priority:=10) (c:Value)(cs vs o:List Value)(q:Nat)[h:jD cs q vs o]:jD (c::cs) (q+1) vs (c::o):=⟨by obtain⟨h1,h2⟩:=h.h;refine⟨?_,by simp;omega⟩;rw[← h1,show q+1+vs.length=(q+vs.length)+1 from by omega];simp⟩
class uG(cs:List Value)(n:Nat):Prop where h:cs.length=n
instance:uG [] 0:=⟨rfl⟩
instance (c:Value)(cs:List Value)(n:Nat)[h:uG cs n]:uG (c::cs) (n+1):=⟨by simp[h.h]⟩
class aBh(l:List (Nat×Nat))(i:Nat)(o:outParam Nat):Prop where h:(l.getD i (0,0)).1=o
instance (o s:Nat)(r:List (Nat×Nat)):aBh ((o,s)::r) 0 o:=⟨rfl⟩
instance (x:Nat×Nat)(r:List (Nat×Nat))(i o:Nat)[h:aBh r i o]:aBh (x::r) (i+1) o:=⟨by simpa using h.h⟩
class yQ(pl:List (Nat×Nat))(zs:List Value)(us:List (Nat×Value))(o:outParam (List Value)):Prop where h:wH pl zs us=o
instance (pl:List (Nat×Nat))(zs:List Value):yQ pl zs [] zs:=⟨rfl⟩
instance (pl:List (Nat×Nat))(zs vs m o:List Value)(i q:Nat)(v:Value)(r:List (Nat×Value))[h1:aBh pl i q][h2:ZC v vs][h3:jD zs q vs m][h4:yQ pl m r o]:yQ pl zs ((i,v)::r) o:=⟨by rw[← h4.h];simp only[wH];rw[h1.h,h2.h,← h3.h.1];rfl⟩
class aBg(a b:List Value)(o:outParam (List Value)):Prop where h:a++b=o
instance (b:List Value):aBg [] b b:=⟨rfl⟩
instance (x:Value)(a b o:List Value)[h:aBg a b o]:aBg (x::a) b (x::o):=⟨by rw[List.cons_append,h.h]⟩
class zZ(us:List (Nat×Value))(o:outParam (List Value)):Prop where h:us.flatMap (fun p=>p.2.cells.toList)=o
instance:zZ [] []:=⟨rfl⟩
instance (i:Nat)(v:Value)(vs m o:List Value)(r:List (Nat×Value))[h1:ZC v vs][h2:zZ r m][h3:aBg vs m o]:zZ ((i,v)::r) o:=⟨by rw[List.flatMap_cons,h2.h,h1.h,h3.h]⟩
class CC(q:Act→World→Prop)(q':outParam (Act→World→Prop)):Prop where
 h:∀{N:Nat} {ds:List Deferred} {w0:World} {W:Nat→Prop} {σ:List (Nat×Value)} {H:List HE},J N ds w0 W σ H q'→J N ds w0 W σ H q
section
variable {F:Fence} {n:Nat} {P:Program} {Q:Exit→Act→World→Prop} {k:Act→World→Prop}
instance (x y:Code):CC ((Code.seq x y).wpIn F n P Q) (x.wpIn F n P (Exit.then (y.wpIn F n P Q) Q)):=⟨aBx⟩
instance (id:Nat)(l:List Oper):CC ((Code.region id l.toArray false).wpIn F n P Q) (wpListIn F n P l.toArray Q l):=⟨aR7⟩
instance (id:Nat)(c:Code):CC ((Code.block id c).wpIn F n P Q) (c.wpIn F n P (Exit.inBlock id Q)):=⟨aIt⟩
instance:CC (Code.skip.wpIn F n P Q) (Q .normal):=⟨aRd⟩
instance:CC (Code.ret.wpIn F n P Q) (Q .ret):=⟨aRa⟩
instance (id:Nat):CC ((Code.exit id).wpIn F n P Q) (Q (.exit id)):=⟨aR1⟩
instance:CC (Exit.then k Q .normal) k:=⟨aRf⟩
instance:CC (Exit.then k Q .ret) (Q .ret):=⟨aRg⟩
instance (id:Nat):CC (Exit.then k Q (.exit id)) (Q (.exit id)):=⟨aRe⟩
instance (id:Nat):CC (Exit.inBlock id Q .normal) (Q .normal):=⟨aR3⟩
instance (id:Nat):CC (Exit.inBlock id Q .ret) (Q .ret):=⟨aR4⟩
instance (id:Nat):CC (Exit.inBlock id Q (.exit id)) (Q .normal):=⟨aR2⟩
instance (ops:Array Oper):CC (wpListIn F n P ops Q []) (Q .normal):=⟨qX⟩
end
section
variable {F:Fence} {n:Nat} {P:Program} {N:Nat} {ds:List Deferred} {w0:World} {W:Nat→Prop} {σ:List (Nat×Value)} {H:List HE} {Q:Exit→Act→World→Prop} {k k':Act→World→Prop}
variable {ops:Array Oper} {rest:List Oper} {d:Nat} {op:Op} {ty:TypeId} {pos:String} {aft:Array Edge} {gd:Option (Nat×Bool)} {vs:List Value} {v:Value} {c:Prop} {H':List HE}
theorem cc[h:CC k k'](g:J N ds w0 W σ H k'):J N ds w0 W σ H k:=h.h g
theorem sF[aU F](hw:bT ops σ ⟨some d,op,ty,pos,aft,gd⟩=some true)(hv:vals σ op.operands.toList=some vs)[hm:MS P w0 W H op vs v c](hdN:Nat.blt d N=true)(hc:c)(h:J N ds w0 W ((d,v)::σ) H (wpListIn F n P ops Q rest)):
  J N ds w0 W σ H (wpListIn F n P ops Q (⟨some d,op,ty,pos,aft,gd⟩::rest)):=jZ hw (hm.h hc hv hdN h)
theorem sG[aU F](hw:bT ops σ ⟨some d,op,ty,pos,aft,gd⟩=some true)(hv:vals σ op.operands.toList=some vs)[hm:MW P w0 W H op vs v c](hdN:Nat.blt d N=true)(hc:c)(h:J N ds w0 W ((d,v)::σ) H (wpListIn F n P ops Q rest)):
  J N ds w0 W σ H (wpListIn F n P ops Q (⟨some d,op,ty,pos,aft,gd⟩::rest)):=jZ hw (hm.h hc hv hdN h)
theorem lss[aU F](hw:bT ops σ ⟨none,op,ty,pos,aft,gd⟩=some true)(hv:vals σ op.operands.toList=some vs)[hm:SS P w0 W H op vs H' c](hc:c)(h:J N ds w0 W σ H' (wpListIn F n P ops Q rest)):
  J N ds w0 W σ H (wpListIn F n P ops Q (⟨none,op,ty,pos,aft,gd⟩::rest)):=jZ hw (hm.h hc hv h)
theorem sH[aU F]{f:Nat→Value}{g:Nat→List HE}(hw:bT ops σ ⟨some d,op,ty,pos,aft,gd⟩=some true)(hv:vals σ op.operands.toList=some vs)[hm:NS P w0 W H op vs f g c](hdN:Nat.blt d N=true)(hc:c)(h:∀b,J N ds w0 W ((d,f b)::σ) (g b) (wpListIn F n P ops Q rest)):
  J N ds w0 W σ H (wpListIn F n P ops Q (⟨some d,op,ty,pos,aft,gd⟩::rest)):=jZ hw (hm.h hc hv hdN h)
theorem kM[aU F]{T:List (Nat×Value)→Prop}(hw:bT ops σ ⟨some d,op,ty,pos,aft,gd⟩=some true)(hv:vals σ op.operands.toList=some vs)[hm:MS P w0 W H op vs v c](hdN:Nat.blt d N=true)(hc:c)(h:bM F n P N ds w0 W H ops rest ((d,v)::σ) T):
  bM F n P N ds w0 W H ops (⟨some d,op,ty,pos,aft,gd⟩::rest) σ T:=xV rfl hdN hw (fun _ _ hk=>hm.h hc hv hdN hk) h
theorem pU[aU F]{T:List (Nat×Value)→Prop}(hw:bT ops σ ⟨some d,op,ty,pos,aft,gd⟩=some true)(hv:vals σ op.operands.toList=some vs)[hm:MW P w0 W H op vs v c](hdN:Nat.blt d N=true)(hc:c)(h:bM F n P N ds w0 W H ops rest ((d,v)::σ) T):
  bM F n P N ds w0 W H ops (⟨some d,op,ty,pos,aft,gd⟩::rest) σ T:=xV rfl hdN hw (fun _ _ hk=>hm.h hc hv hdN hk) h
def aYo:Op→Bool
 | .store .. | .alloc .. | .box .. | .buildSlice .. | .mapUpdate .. | .entryStore ..=>false
 | .call ⟨.builtin .append,_,_⟩=>false
 | _=>true
def aL8:List Oper→Nat
 | []=>0
 | o::r=>match o.dst,aYo o.op with
  | some _,true=>aL8 r+1
  | _,_=>0
theorem nI{id:Nat}{l:List Oper}{m:Nat}[hF:aU F](hm:aL8 l=m)(hmx:P.follows .mixedOrders=true)(hok:aF1 l.toArray m=true)
  (h:bM F n P N ds w0 W H l.toArray (l.take m) σ (fun τ=>J N ds w0 W τ H (wpListIn F n P l.toArray Q (l.drop m)))):J N ds w0 W σ H ((Code.region id l.toArray true).wpIn F n P Q):=aIu m hmx hok h
theorem sA[aU F]{t sz bs:Nat}{z:Value}{pl:List (Nat×Nat)}{parts:Array (Nat×Operand)}{us:List (Nat×Value)}{zs cs:List Value}[Pl P t pl][bF P t sz bs z](hw:bT ops σ ⟨some d,.build t parts,ty,pos,aft,gd⟩=some true)(hv:qU σ parts.toList=some us)
  [hz:ZC z zs] [hl:yQ pl zs us cs] (hf:Instr.fill (pl.toArray[·]?) z.cells us=some (wH pl z.cells.toList us).toArray) (hdN:Nat.blt d N=true)
  (h:J N ds w0 W ((d,.agg cs.toArray)::σ) H (wpListIn F n P ops Q rest)):J N ds w0 W σ H (wpListIn F n P ops Q (⟨some d,.build t parts,ty,pos,aft,gd⟩::rest)):=jZ hw (aMo hv (by rw[hz.h];exact hl.h) hf hdN h)
theorem sI[aU F]{t e sz bs len:Nat}{z:Value}{parts:Array (Nat×Operand)}{us:List (Nat×Value)}{cs:List Value}[aN P t (.slice e)][bF P e sz bs z](hw:bT ops σ ⟨some d,.buildSlice t len parts,ty,pos,aft,gd⟩=some true)(hv:qU σ parts.toList=some us)
  [hcs:zZ us cs] (hs:Nat.ble (len*sz) 16777216=true) (hp:Nat.beq (len*sz) 0=false)
  (hf:Instr.fill (fun i=>some (i*sz,sz)) ((Array.range (len*sz)).map (z.cells[· % z.cells.size]!)) us=some (us.flatMap (fun p=>p.2.cells.toList)).toArray) (hl:cs.length=len*sz) (hdN:Nat.blt d N=true)
  (h:∀b,J N ds w0 W ((d,.slice (some ⟨b,0,none⟩) len len)::σ) (.row (.slice (some ⟨b,0,none⟩) len len) e sz len cs::H) (wpListIn F n P ops Q rest)):J N ds w0 W σ H (wpListIn F n P ops Q (⟨some d,.buildSlice t len parts,ty,pos,aft,gd⟩::rest)):=jZ hw (aZd hv hcs.h hs hp hf hl hdN h)
theorem sJ[aU F]{t e sz bs:Nat}{z:Value}[aN P t (.slice e)][bF P e sz bs z](hw:bT ops σ ⟨some d,.buildSlice t 0 #[],ty,pos,aft,gd⟩=some true)(hdN:Nat.blt d N=true)
  (h:∀b,J N ds w0 W ((d,.slice (some ⟨b,0,none⟩) 0 0)::σ) (.row (.slice (some ⟨b,0,none⟩) 0 0) e sz 0 []::H) (wpListIn F n P ops Q rest)):J N ds w0 W σ H (wpListIn F n P ops Q (⟨some d,.buildSlice t 0 #[],ty,pos,aft,gd⟩::rest)):=jZ hw (aYu hdN h)
end
class xI(A:Option Addr)(m c:Nat)(H:List HE)(e s:Nat)(xs:outParam (List Value))(k:outParam (HE→List HE)):Prop where h:∃R,aP H (.row (.slice A m c) e s m xs) R∧∀x,aA (k x) (x::R)
instance (priority:=100) (A:Option Addr)(m c e s:Nat)(xs:List Value)(r:List HE):xI A m c (.row (.slice A m c) e s m xs::r) e s xs (fun x=>x::r):=⟨r,.here _ _,fun _=>aA.refl _⟩
instance (priority:=10) (A:Option Addr)(m c e s:Nat)(y:HE)(xs:List Value)(r:List HE)(k:HE→List HE)[h:xI A m c r e s xs k]:xI A m c (y::r) e s xs (fun x=>y::k x) :=
 ⟨let ⟨R,h1,h2⟩:=h.h;⟨y::R,.there y h1,fun x=>aA.of_perm_cons (h2 x)⟩⟩
class aA1(A:Option Addr)(m c:Nat)(H:List HE):Prop where h:∃e s xs R,aP H (.row (.slice A m c) e s m xs) R
instance (priority:=100) (A:Option Addr)(m c e s:Nat)(xs:List Value)(r:List HE):aA1 A m c (.row (.slice A m c) e s m xs::r):=⟨e,s,xs,r,.here _ _⟩
instance (priority:=10) (A:Option Addr)(m c:Nat)(y:HE)(r:List HE)[h:aA1 A m c r]:aA1 A m c (y::r) :=
 ⟨let ⟨e,s,xs,R,h1⟩:=h.h;⟨e,s,xs,y::R,.there y h1⟩⟩
class RoC(w0:World)(W:Nat→Prop)(s:Nat)(u:Value)(m:outParam Nat)(xs:outParam (List Value)):Prop where h:Ro w0 W s u m xs
class bP(w0:World)(W:Nat→Prop)(A:Option Addr)(m c s:Nat)(xs:outParam (List Value)):Prop where h:Ro w0 W s (.slice A m c) m xs
theorem bP.at_{w0:World}{W:Nat→Prop}{A:Option Addr}{m c s:Nat}{xs:List Value}(h:bP w0 W A m c s xs)(hm:0<m):∃b off,A=some ⟨b,off,none⟩∧aBi w0 W b off xs:=by obtain⟨A',c',h1,-,-,-,h2⟩:=h.h;injection h1 with e1 e2 e3;obtain⟨b,off,h3,h4,h5,h6⟩:=h2 hm;exact⟨b,off,by rw[e1,h3],⟨h4,h5,h6⟩⟩
instance (priority:=100) (w0:World)(W:Nat→Prop)(b off q:Nat)(xs:List Value)(v:Value)(c:Prop)[h:aBi w0 W b off xs][he:rI xs q v c]:aE6 w0 W b (off+q) v c:=⟨fun hc=>⟨h.h.1,h.h.2.1,h.h.2.2 q v (he.h hc)⟩⟩
class vR(w0:World)(W:Nat→Prop)(H:List HE)(e s:Nat)(u:Value)(m:outParam Nat)(xs:outParam (List Value)):Prop where h:∀w,St w0 W H w→xL w0 W H s u m xs
instance (w0:World)(W:Nat→Prop)(H:List HE)(A:Option Addr)(m c e s:Nat)(xs:List Value)(k:HE→List HE)[h:xI A m c H e s xs k]:vR w0 W H e s (.slice A m c) m xs:=⟨fun _ hw=>let ⟨_,h1,_⟩:=h.h;xL.row hw h1⟩
instance (w0:World)(W:Nat→Prop)(H:List HE)(u:Value)(m e s:Nat)(xs:List Value)[h:RoC w0 W s u m xs]:vR w0 W H e s u m xs:=⟨fun _ _=>h.h.src _⟩
instance (w0:World)(W:Nat→Prop)(H:List HE)(A:Option Addr)(m c e s:Nat)(xs:List Value)[h:bP w0 W A m c s xs]:vR w0 W H e s (.slice A m c) m xs:=⟨fun _ _=>h.h.src _⟩
class yN(xs ys:List Value)(zs:outParam (List Value)):Prop where h:xs++ys=zs
instance (k:IntKind)(a b:List Int):yN (aD k a) (aD k b) (aD k (a++b)):=⟨by simp[aD]⟩
instance (k:IntKind)(a:List Int)(v:Int):yN (aD k a) [.int k v] (aD k (a++[v])):=⟨by simp[aD]⟩
instance (priority:=200) (b:List Value):yN [] b b:=⟨rfl⟩
class aE3(xs:List Value)(s:Nat)(m:outParam Nat):Prop where h:∀j,xs.length=j*s→j=m
instance (k:IntKind)(a:List Int):aE3 (aD k a) 1 a.length:=⟨fun j h=>by simpa using h.symm⟩
class rM(xs:List Value):Prop where h:∀u∈xs,u.oneCell'=true
instance (k:IntKind)(a:List Int):rM (aD k a):=⟨by simp[aD,Value.oneCell']⟩
instance:rM []:=⟨aE⟩
instance (v:Value)(r:List Value)[h:vQ v][k:rM r]:rM (v::r):=⟨by intro u hu;rcases List.mem_cons.1 hu with rfl|hu;exact h.h;exact k.h u hu⟩
section
variable {F:Fence} {n:Nat} {P:Program} {N:Nat} {ds:List Deferred} {w0:World} {W:Nat→Prop} {σ:List (Nat×Value)} {H:List HE} {Q:Exit→Act→World→Prop} {k k':Act→World→Prop}
variable {ops:Array Oper} {rest:List Oper} {d:Nat} {op:Op} {ty:TypeId} {pos:String} {aft:Array Edge} {gd:Option (Nat×Bool)} {vs:List Value} {v:Value} {c:Prop} {H':List HE}
theorem rZ[aU F]{t e size bytes m m' cc j:Nat}{z u:Value}{x y:Operand}{A:Option Addr}{xs news xs':List Value}{kk:HE→List HE}[aN P t (.slice e)][bF P e size bytes z]
  (hw:bT ops σ ⟨some d,.call ⟨.builtin .append,#[x,y],#[t,t]⟩,ty,pos,aft,gd⟩=some true) (hx:ev σ x=some (.slice A m cc)) (hy:ev σ y=some u)
  [ho:xI A m cc H e size xs kk] [hs:vR w0 W H e size u j news] [ha:yN xs news xs'] [hl:aE3 xs' size m'] [h1:rM news] (hzs:Nat.beq z.cells.size size=true) (hsz:Nat.blt 0 size=true)
  (hc:m+j≤4611686018427387904∧(m+j)*bytes≤140737488355328) (hdN:Nat.blt d N=true)
  (h:∀A' c',J N ds w0 W ((d,.slice A' m' c')::σ) (kk (.row (.slice A' m' c') e size m' xs')) (wpListIn F n P ops Q rest)) :
  J N ds w0 W σ H (wpListIn F n P ops Q (⟨some d,.call ⟨.builtin .append,#[x,y],#[t,t]⟩,ty,pos,aft,gd⟩::rest)):=by
 obtain⟨R,h2,h3⟩:=ho.h;intro a w ham hw0;have e1:xs.length=m*size:=(hw0.has h2).1;have e2:news.length=j*size:=let ⟨_,_,_,_,_,hh,_⟩:=hs.h w hw0;hh
 have e3:m+j=m':=hl.h _ (by rw[← ha.h,List.length_append,e1,e2,Nat.add_mul]);exact jZ hw (aYq hx hy h2 hs.h h1.h hzs hsz (by have:=hc.1;simp only[maxLen];omega) hc.2 hdN (fun A' c'=>by rw[e3,ha.h];exact jP (h3 _) (h A' c'))) a w ham hw0
theorem zB{A:Option Addr}{m cc:Nat}[ho:aA1 A m cc H](hpos:0<m)(h:∀g,A=some ⟨g,0,none⟩→J N ds w0 W σ H k):J N ds w0 W σ H k :=
 let ⟨_,_,_,_,h1⟩:=ho.h
 aUw h1 hpos h
theorem sD{A:Option Addr}{m cc t:Nat}{x y:Operand}(hx:ev σ x=some (.slice A m cc))[ho:aA1 A m cc H](hpos:0<m)(h:∀g,A=some ⟨g,0,none⟩→J N ds w0 W σ H (wpListIn F n P ops Q (⟨some d,.indexAddr t x y,ty,pos,aft,gd⟩::rest))):
  J N ds w0 W σ H (wpListIn F n P ops Q (⟨some d,.indexAddr t x y,ty,pos,aft,gd⟩::rest)):=zB (cc:=cc) hpos h
theorem sE{A:Option Addr}{m cc t s:Nat}{xs:List Value}{x y:Operand}(hx:ev σ x=some (.slice A m cc))(ho:bP w0 W A m cc s xs)(hpos:0<m)(h:∀b off,A=some ⟨b,off,none⟩→aBi w0 W b off xs→J N ds w0 W σ H (wpListIn F n P ops Q (⟨some d,.indexAddr t x y,ty,pos,aft,gd⟩::rest))):
  J N ds w0 W σ H (wpListIn F n P ops Q (⟨some d,.indexAddr t x y,ty,pos,aft,gd⟩::rest)):=let ⟨b,off,h1,h2⟩:=ho.at_ hpos;h b off h1 h2
theorem aC.all(x:HE):∀(S:List HE),aC (x::S) S [x]
 | []=>.nil _
 | y::r=>.cons (.there x (.here y r)) (aC.all x r)
theorem aA.swap1(x:HE)(S:List HE):aA (x::S) (S++[x]):=by
 have h:∀S:List HE,aP (S++[x]) x S:=by
  intro S
  induction S with
  | nil=>exact .here _ _
  | cons y r ih=>exact .there y ih
 exact .cons (h S) (aA.refl S)
theorem fO[aU F][WF F]{dst:Nat}{f:FuncId}{args:Array Operand}{ts:Array TypeId}{us:List Value}[Cl P f]{S R:List HE}{Rl:Value→List HE→Prop}
  (hw:bT ops σ ⟨some dst,.call ⟨.value (.func f),args,ts⟩,ty,pos,aft,gd⟩=some true) (hv:vals σ args.toList=some us) (hs:aC H S R) (hdN:Nat.blt dst N=true)
  (hc:∀w,St w0 W H w→aZ S w→aF P f us S w Rl) (h:∀v S',Rl v S'→J N ds w0 W ((dst,v)::σ) (S'++R) (wpListIn F n P ops Q rest)) :
  J N ds w0 W σ H (wpListIn F n P ops Q (⟨some dst,.call ⟨.value (.func f),args,ts⟩,ty,pos,aft,gd⟩::rest)):=jZ hw (aGs hv hs hdN hc h)
theorem sC[aU F][WF F]{dst:Nat}{f:FuncId}{args:Array Operand}{ts:Array TypeId}{us:List Value}[Cl P f]{v:Value}{S R:List HE}
  (hw:bT ops σ ⟨some dst,.call ⟨.value (.func f),args,ts⟩,ty,pos,aft,gd⟩=some true) (hv:vals σ args.toList=some us) (hs:aC H S R) (hb:aA H (S++R)) (hdN:Nat.blt dst N=true)
  (hc:∀w,St w0 W H w→aZ S w→aF P f us S w fun u S'=>u=v∧S'=S) (h:J N ds w0 W ((dst,v)::σ) H (wpListIn F n P ops Q rest)) :
  J N ds w0 W σ H (wpListIn F n P ops Q (⟨some dst,.call ⟨.value (.func f),args,ts⟩,ty,pos,aft,gd⟩::rest)):=jZ hw (aMr S hv hs hb hdN hc h)
theorem bU[aU F][WF F]{dst:Nat}{f:FuncId}{args:Array Operand}{ts:Array TypeId}{us:List Value}[Cl P f]{v:Value}
  (hw:bT ops σ ⟨some dst,.call ⟨.value (.func f),args,ts⟩,ty,pos,aft,gd⟩=some true) (hv:vals σ args.toList=some us) (hdN:Nat.blt dst N=true)
  (hc:∀w,St w0 W H w→aF P f us [] w fun u S'=>u=v∧S'=[]) (h:J N ds w0 W ((dst,v)::σ) H (wpListIn F n P ops Q rest)) :
  J N ds w0 W σ H (wpListIn F n P ops Q (⟨some dst,.call ⟨.value (.func f),args,ts⟩,ty,pos,aft,gd⟩::rest)):=jZ hw (aMs hv hdN hc h)
theorem hfk[aU F][WF F]{dst:Nat}{f:FuncId}{args:Array Operand}{ts:Array TypeId}{us:List Value}[Cl P f]{v:Value}{S R:List HE}{T:List (Nat×Value)→Prop}
  (hw:bT ops σ ⟨some dst,.call ⟨.value (.func f),args,ts⟩,ty,pos,aft,gd⟩=some true) (hv:vals σ args.toList=some us) (hs:aC H S R) (hb:aA H (S++R)) (hdN:Nat.blt dst N=true)
  (hc:∀w,St w0 W H w→aZ S w→aF P f us S w fun u S'=>u=v∧S'=S) (h:bM F n P N ds w0 W H ops rest ((dst,v)::σ) T) :
  bM F n P N ds w0 W H ops (⟨some dst,.call ⟨.value (.func f),args,ts⟩,ty,pos,aft,gd⟩::rest) σ T:=xV rfl hdN hw (fun _ _ hk=>aMr S hv hs hb hdN hc hk) h
theorem tN[aU F][WF F]{dst:Nat}{f:FuncId}{args:Array Operand}{ts:Array TypeId}{us:List Value}[Cl P f]{v:Value}{T:List (Nat×Value)→Prop}
  (hw:bT ops σ ⟨some dst,.call ⟨.value (.func f),args,ts⟩,ty,pos,aft,gd⟩=some true) (hv:vals σ args.toList=some us) (hdN:Nat.blt dst N=true)
  (hc:∀w,St w0 W H w→aF P f us [] w fun u S'=>u=v∧S'=[]) (h:bM F n P N ds w0 W H ops rest ((dst,v)::σ) T) :
  bM F n P N ds w0 W H ops (⟨some dst,.call ⟨.value (.func f),args,ts⟩,ty,pos,aft,gd⟩::rest) σ T:=xV rfl hdN hw (fun _ _ hk=>aMs hv hdN hc hk) h
class aBf(S R:List HE)(O:outParam (List HE)):Prop where h:S++R=O
instance (R:List HE):aBf [] R R:=⟨rfl⟩
instance (x:HE)(S R O:List HE)[h:aBf S R O]:aBf (x::S) R (x::O):=⟨by rw[List.cons_append,h.h]⟩
theorem rW{S R O:List HE}[ho:aBf S R O](h:J N ds w0 W σ O k):J N ds w0 W σ (S++R) k:=by rw[ho.h];exact h
end
