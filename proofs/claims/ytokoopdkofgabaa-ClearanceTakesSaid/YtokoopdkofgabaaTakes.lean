/- What becomes of frames, one behind the other: the walk and the law. -/
import Derived.Test.YtokoopdkofgabaaClrN
import Derived.Test.YtokoopdkofgabaaEngW
import Derived.Test.YtokoopdkofgabaaClrG
import Derived.Test.YtokoopdkofgabaaTwice23
namespace Go.Proofs.Ytokoopdkofgabaa
open Go.RowKit
theorem ln_newT {r : Ru} : lnNew r.made.age r.made.jump r.made.throw r.made.most = Ln.new r.made.age r.made.jump r.made.throw r.made.most := if_pos r.made_right
structure TkR (m : Ru) (n k : Nat) (s : Ln) (q : Q23) : Prop where
  le : k ≤ n
  inv : Inv m s q
  len : q.l.length ≤ k
  cnt : ∀ x ∈ s.counts, 0 ≤ x ∧ x ≤ k
attribute [local irreducible] OJ J HdJ Code.wpIn wpListIn Oper.wpIn bodyPost CallsIn Does
instance count_cv (s : Ln) (k : Nat) : CV Try.prog 22 [.agg (lnE s).toArray, .int .i64 (k : Int)] (.int .i64 (s.counts.getD k 0)) (k ≤ 6) := ⟨fun h w => count_d s k w h⟩
set_option maxRecDepth 4000
set_option maxHeartbeats 32000000 in
theorem takes_law (r : Ru) (A0 : Option Addr) (c0 : Nat) (l : List Fr) (hl : ∀ f ∈ l, f.ok) (w : World) (hr : RoA w (blocks []) A0 l.length c0 6 (flat frE l)) :
    Does Try.prog 3 [.agg #[.int .u32 r.age, .int .i64 r.jump, .int .i64 r.throw, .int .i64 r.most], .slice A0 l.length c0] [] w (fun v _ => v = .bool true) := by
  refine does_of Try.func3 rfl Try.ntmps3 rfl ⟨by simp, .nil⟩ (fun n => ?_)
  simp only [slots]
  obtain ⟨ra, rj, rt, rm⟩ := r
  have en := @ln_newT ⟨ra, rj, rt, rm⟩
  have hro : (Ru.mk ra rj rt rm).made.ok := Ru.right_ok (Ru.made_right _)
  refine j_nil (e := 43) (size := 6) ?_
  refine j_nil (e := 3) (size := 1) ?_
  refine j_nil (e := 2) (size := 1) ?_
  repeat' (first | (first | (first | refine j_app ?_ | refine cc ?_ | ((first | refine lms rfl rfl rfl ?_ ?_ | refine lss rfl rfl ?_ ?_ | refine lns rfl rfl rfl ?_ ?_ | refine lap rfl rfl rfl rfl rfl ?_ rfl ?_); (next => first | exact trivial | omega); intros) | refine c_true rfl ?_ | refine c_false rfl ?_ | refine c_in_other rfl ?_ | refine l_nil ?_ | refine l_skip rfl rfl rfl ?_ | refine l_skip0 rfl rfl ?_ | refine lbd rfl rfl (by kernel_rfl) rfl ?_ | (refine lsl rfl rfl rfl rfl (by kernel_rfl) rfl rfl ?_; intros) | (refine lsl0 rfl rfl ?_; intros) | (refine lix rfl (by omega) ?_; rintro _ rfl) | (refine lixr rfl (by assumption) (by omega) ?_; rintro _ _ rfl _) | (refine c_drw rfl (by decide) (by decide +kernel) ?_; (repeat (first | (refine hms rfl rfl rfl ?_ ?_; (next => first | exact trivial | omega)) | refine h_skip rfl rfl rfl ?_ | (refine hmw rfl rfl rfl ?_ ?_; (next => first | exact trivial | omega)))); refine h_nil ?_) | (refine c_drp rfl (by decide) (by decide +kernel) ?_; (repeat (first | (refine p_run rfl rfl rfl ?_ ?_; (next => first | exact trivial | omega)) | refine p_skip rfl rfl rfl ?_)); refine p_nil ?_)) | (refine lxv rfl rfl rfl ?_ ?_; (next => first | exact trivial | omega)) | refine lba rfl rfl (by kernel_rfl) rfl ?_ | (refine lcv rfl rfl rfl ?_ ?_; (next => first | exact trivial | omega)) | refine lpT rfl rfl rfl rfl ?_ | refine lpF rfl rfl rfl rfl ?_ | (refine l_gd rfl rfl rfl ?_ ?_ <;> intro _ <;> try (exfalso; first | contradiction | omega)) | (refine c_if rfl ?_ ?_ <;> intro _ <;> try (exfalso; first | contradiction | omega)) | (refine lmw rfl rfl rfl ?_ ?_; (next => first | exact trivial | omega))) | (first | (refine hms rfl rfl rfl ?_ ?_; (next => first | exact trivial | omega)) | refine hbd rfl rfl (by kernel_rfl) rfl ?_ | refine h_pT rfl rfl rfl rfl ?_ | refine h_pF rfl rfl rfl rfl ?_ | refine h_skip rfl rfl rfl ?_ | (refine hcv rfl rfl rfl ?_ ?_; (next => first | exact trivial | omega)) | (refine h_gd rfl rfl rfl ?_ ?_ <;> intro _ <;> try (exfalso; first | contradiction | omega)) | (refine hmw rfl rfl rfl ?_ ?_; (next => first | exact trivial | omega)) | refine h_nil ?_) | (first | (refine x_run rfl rfl rfl ?_ ?_; (next => first | exact trivial | omega)) | refine x_pT rfl rfl rfl rfl ?_ | refine x_pF rfl rfl rfl rfl ?_ | refine x_skip rfl rfl rfl ?_ | (refine x_gd rfl rfl rfl ?_ ?_ <;> intro _ <;> try (exfalso; first | contradiction | omega)) | refine x_nil ?_) | (first | refine t_done ?_ | refine t_all _ rfl rfl ?_ | refine allP_cons ?_ ?_ | exact allP_nil | refine t_last (by decide +kernel) ?_ | refine t_next Sub.au ?_) | refine c_drw rfl (by decide) (by decide +kernel) ?_ | refine c_dra rfl rfl (by decide) (by decide +kernel) ?_ | fail)
  · refine j_outK (.nil _) ?_; (repeat (first | refine k_tmp rfl ?_ | refine k_cell rfl ?_)); refine k_nil ?_
    rfl
  generalize (Ru.mk ra rj rt rm).made = m at *
  rw [en]
  rename_i b1 hle _ b2 b3 b4
  have hn : l.length ≤ 60 := by omega
  refine c_loop (X := Nat × Ln × Q23 × Option Addr × Option Addr × Option Addr × Nat × Nat × Nat) (fun q => TkR m l.length q.1 q.2.1 q.2.2.1) (fun q => [(1, .slice A0 l.length c0), (2, .pointer (some ⟨b1, 0, none⟩)), (7, .pointer (some ⟨b2, 0, none⟩)), (9, .pointer (some ⟨b3, 0, none⟩)), (10, .slice (some ⟨b4, 0, none⟩) 7 7), (11, .int .i64 q.1)])
    (fun q => [.blk b2 30 (lnE q.2.1), .blk b1 24 [.int .u32 m.age, .int .i64 m.jump, .int .i64 m.throw, .int .i64 m.most],
      .blk b3 39 [.slice q.2.2.2.1 q.2.2.1.l.length q.2.2.2.2.2.2.1, .slice q.2.2.2.2.1 q.2.2.1.ws.length q.2.2.2.2.2.2.2.1, .slice q.2.2.2.2.2.1 q.2.2.1.zs.length q.2.2.2.2.2.2.2.2],
      .row (.slice q.2.2.2.1 q.2.2.1.l.length q.2.2.2.2.2.2.1) 43 6 q.2.2.1.l.length (flat frE q.2.2.1.l), .row (.slice q.2.2.2.2.1 q.2.2.1.ws.length q.2.2.2.2.2.2.2.1) 3 1 q.2.2.1.ws.length (ints .i64 q.2.2.1.ws), .row (.slice q.2.2.2.2.2.1 q.2.2.1.zs.length q.2.2.2.2.2.2.2.2) 2 1 q.2.2.1.zs.length (ints .i64 q.2.2.1.zs),
      .row (.slice (some ⟨b4, 0, none⟩) 7 7) 3 1 7 (ints .i64 q.2.1.counts)])
    (fun q => l.length - q.1) (0, Ln.new m.age m.jump m.throw m.most, ⟨[], [], []⟩, none, none, none, 0, 0, 0) ⟨by simp, Inv.new m hro, by simp, by simp [Ln.counts, Ln.new]⟩ ⟨rfl, rfl, rfl, rfl, rfl, rfl, trivial⟩ ?_ ?_
  · dsimp only
    exact (Sub.cons (Has.there _ (Has.there _ (Has.here _ _))) (Sub.cons (Has.there _ (Has.there _ (Has.there _ (Has.here _ _)))) (Sub.cons (Has.there _ (Has.here _ _)) (Sub.cons (Has.there _ (Has.there _ (Has.there _ (Has.there _ (Has.here _ _))))) (Sub.cons (Has.there _ (Has.there _ (Has.there _ (Has.here _ _)))) (Sub.cons (Has.there _ (Has.there _ (Has.here _ _))) (Sub.cons (Has.here _ _) (Sub.nil _))))))))
  rintro ⟨k, s, q, A, B, C, c, d, e⟩ hI
  dsimp only at hI ⊢
  obtain ⟨hk, hinv, hlen, hcnt⟩ := hI
  repeat' (first | (first | (first | refine j_app ?_ | refine cc ?_ | ((first | refine lms rfl rfl rfl ?_ ?_ | refine lss rfl rfl ?_ ?_ | refine lns rfl rfl rfl ?_ ?_ | refine lap rfl rfl rfl rfl rfl ?_ rfl ?_); (next => first | exact trivial | omega); intros) | refine c_true rfl ?_ | refine c_false rfl ?_ | refine c_in_other rfl ?_ | refine l_nil ?_ | refine l_skip rfl rfl rfl ?_ | refine l_skip0 rfl rfl ?_ | refine lbd rfl rfl (by kernel_rfl) rfl ?_ | (refine lsl rfl rfl rfl rfl (by kernel_rfl) rfl rfl ?_; intros) | (refine lsl0 rfl rfl ?_; intros) | (refine lix rfl (by omega) ?_; rintro _ rfl) | (refine lixr rfl (by assumption) (by omega) ?_; rintro _ _ rfl _) | (refine c_drw rfl (by decide) (by decide +kernel) ?_; (repeat (first | (refine hms rfl rfl rfl ?_ ?_; (next => first | exact trivial | omega)) | refine h_skip rfl rfl rfl ?_ | (refine hmw rfl rfl rfl ?_ ?_; (next => first | exact trivial | omega)))); refine h_nil ?_) | (refine c_drp rfl (by decide) (by decide +kernel) ?_; (repeat (first | (refine p_run rfl rfl rfl ?_ ?_; (next => first | exact trivial | omega)) | refine p_skip rfl rfl rfl ?_)); refine p_nil ?_)) | (refine lxv rfl rfl rfl ?_ ?_; (next => first | exact trivial | omega)) | refine lba rfl rfl (by kernel_rfl) rfl ?_ | (refine lcv rfl rfl rfl ?_ ?_; (next => first | exact trivial | omega)) | refine lpT rfl rfl rfl rfl ?_ | refine lpF rfl rfl rfl rfl ?_ | (refine l_gd rfl rfl rfl ?_ ?_ <;> intro _ <;> try (exfalso; first | contradiction | omega)) | (refine c_if rfl ?_ ?_ <;> intro _ <;> try (exfalso; first | contradiction | omega)) | (refine lmw rfl rfl rfl ?_ ?_; (next => first | exact trivial | omega))) | (first | (refine hms rfl rfl rfl ?_ ?_; (next => first | exact trivial | omega)) | refine hbd rfl rfl (by kernel_rfl) rfl ?_ | refine h_pT rfl rfl rfl rfl ?_ | refine h_pF rfl rfl rfl rfl ?_ | refine h_skip rfl rfl rfl ?_ | (refine hcv rfl rfl rfl ?_ ?_; (next => first | exact trivial | omega)) | (refine h_gd rfl rfl rfl ?_ ?_ <;> intro _ <;> try (exfalso; first | contradiction | omega)) | (refine hmw rfl rfl rfl ?_ ?_; (next => first | exact trivial | omega)) | refine h_nil ?_) | (first | (refine x_run rfl rfl rfl ?_ ?_; (next => first | exact trivial | omega)) | refine x_pT rfl rfl rfl rfl ?_ | refine x_pF rfl rfl rfl rfl ?_ | refine x_skip rfl rfl rfl ?_ | (refine x_gd rfl rfl rfl ?_ ?_ <;> intro _ <;> try (exfalso; first | contradiction | omega)) | refine x_nil ?_) | (first | refine t_done ?_ | refine t_all _ rfl rfl ?_ | refine allP_cons ?_ ?_ | exact allP_nil | refine t_last (by decide +kernel) ?_ | refine t_next Sub.au ?_) | refine c_drw rfl (by decide) (by decide +kernel) ?_ | refine c_dra rfl rfl (by decide) (by decide +kernel) ?_ | fail)
  · have hlt : k < l.length := by omega
    have hf : (l.getD k default).ok := by
      rw [List.getD_eq_getElem?_getD, List.getElem?_eq_getElem hlt]
      exact hl _ (List.getElem_mem ..)
    obtain ⟨hs1, hs2⟩ := sim_step hro hinv hf
    obtain ⟨s'', hs3, hs4, hs5, hs6⟩ := take_note s (l.getD k default).kind (l.getD k default).seq (l.getD k default).time (l.getD k default).a
    have HT := fun w ho => takeE b2 s (l.getD k default) w ho hinv.hok hf
    have HR := fun w ho => rtakeE m q (l.getD k default) A B C c d e w ho hinv.fok hf hinv.zok hinv.lw hinv.lz (by omega)
    have hql : (refTake m q (l.getD k default)).1.l.length ≤ k + 1 := by
      unfold refTake
      split
      · exact Nat.le_succ_of_le hlen
      split
      · exact Nat.le_succ_of_le hlen
      · simp; exact hlen
    generalize s.take (l.getD k default).kind (l.getD k default).seq (l.getD k default).time (l.getD k default).a = T at *
    generalize refTake m q (l.getD k default) = R at *
    obtain ⟨s', a, z, ok⟩ := T
    obtain ⟨q', b⟩ := R
    dsimp only at hs1 hs2 hs3 hs4 hs5 hs6 hql
    subst hs1
    dsimp only at HT HR
    obtain ⟨j, rfl⟩ := Int.eq_ofNat_of_zero_le hs5
    have hj6 : j ≤ 6 := by omega
    have hcl : s.counts.length = 7 := rfl
    have hcl' : s'.counts.length = 7 := rfl
    have hk60 : (k : Int) < 60 := by omega
    have hg : 0 ≤ s.counts.getD j 0 ∧ s.counts.getD j 0 ≤ k := by
      rw [List.getD_eq_getElem?_getD, List.getElem?_eq_getElem (show j < s.counts.length by simp [Ln.counts]; omega)]
      exact hcnt _ (List.getElem_mem ..)
    have hcs : s'.counts = s.counts.set j (s.counts.getD j 0 + 1) := by
      have hk60 : (k : Int) < 60 := by omega
      have hww : wrap64 (s.counts.getD j 0 + 1) = s.counts.getD j 0 + 1 := by
        unfold wrap64
        omega
      rw [hs4, note_counts _ _ hj6, hs3, hww]
    have hcnt' : ∀ x ∈ s'.counts, 0 ≤ x ∧ x ≤ (k + 1 : Nat) := by
      rw [hcs]
      intro x hx
      rcases List.mem_or_eq_of_mem_set hx with hx | rfl
      · have := hcnt x hx; omega
      · omega
    refine lf rfl rfl rfl (S := [.blk b2 30 (lnE s)]) (fun w hw ho => HT w ho) ?_
    rintro v S' ⟨rfl, rfl⟩
    repeat' (first | (first | (first | refine j_app ?_ | refine cc ?_ | ((first | refine lms rfl rfl rfl ?_ ?_ | refine lss rfl rfl ?_ ?_ | refine lns rfl rfl rfl ?_ ?_ | refine lap rfl rfl rfl rfl rfl ?_ rfl ?_); (next => first | exact trivial | omega); intros) | refine c_true rfl ?_ | refine c_false rfl ?_ | refine c_in_other rfl ?_ | refine l_nil ?_ | refine l_skip rfl rfl rfl ?_ | refine l_skip0 rfl rfl ?_ | refine lbd rfl rfl (by kernel_rfl) rfl ?_ | (refine lsl rfl rfl rfl rfl (by kernel_rfl) rfl rfl ?_; intros) | (refine lsl0 rfl rfl ?_; intros) | (refine lix rfl (by omega) ?_; rintro _ rfl) | (refine lixr rfl (by assumption) (by omega) ?_; rintro _ _ rfl _) | (refine c_drw rfl (by decide) (by decide +kernel) ?_; (repeat (first | (refine hms rfl rfl rfl ?_ ?_; (next => first | exact trivial | omega)) | refine h_skip rfl rfl rfl ?_ | (refine hmw rfl rfl rfl ?_ ?_; (next => first | exact trivial | omega)))); refine h_nil ?_) | (refine c_drp rfl (by decide) (by decide +kernel) ?_; (repeat (first | (refine p_run rfl rfl rfl ?_ ?_; (next => first | exact trivial | omega)) | refine p_skip rfl rfl rfl ?_)); refine p_nil ?_)) | (refine lxv rfl rfl rfl ?_ ?_; (next => first | exact trivial | omega)) | refine lba rfl rfl (by kernel_rfl) rfl ?_ | (refine lcv rfl rfl rfl ?_ ?_; (next => first | exact trivial | omega)) | refine lpT rfl rfl rfl rfl ?_ | refine lpF rfl rfl rfl rfl ?_ | (refine l_gd rfl rfl rfl ?_ ?_ <;> intro _ <;> try (exfalso; first | contradiction | omega)) | (refine c_if rfl ?_ ?_ <;> intro _ <;> try (exfalso; first | contradiction | omega)) | (refine lmw rfl rfl rfl ?_ ?_; (next => first | exact trivial | omega))) | fail)
    refine c_drx [.blk b2 30 (lnE s'), .blk b1 24 [.int .u32 m.age, .int .i64 m.jump, .int .i64 m.throw, .int .i64 m.most], .blk b3 39 [.slice A q.l.length c, .slice B q.ws.length d, .slice C q.zs.length e]] [true, true, true, true, true, true, false, false, false, false, false, false, false, false, false, false, false] [6, 7, 8, 9, 10, 11, 12, 13, 14, 15, 16] Sub.au rfl (by decide) (by decide +kernel) ?_
    repeat' (first | (first | (first | refine j_app ?_ | refine cc ?_ | ((first | refine lms rfl rfl rfl ?_ ?_ | refine lss rfl rfl ?_ ?_ | refine lns rfl rfl rfl ?_ ?_ | refine lap rfl rfl rfl rfl rfl ?_ rfl ?_); (next => first | exact trivial | omega); intros) | refine c_true rfl ?_ | refine c_false rfl ?_ | refine c_in_other rfl ?_ | refine l_nil ?_ | refine l_skip rfl rfl rfl ?_ | refine l_skip0 rfl rfl ?_ | refine lbd rfl rfl (by kernel_rfl) rfl ?_ | (refine lsl rfl rfl rfl rfl (by kernel_rfl) rfl rfl ?_; intros) | (refine lsl0 rfl rfl ?_; intros) | (refine lix rfl (by omega) ?_; rintro _ rfl) | (refine lixr rfl (by assumption) (by omega) ?_; rintro _ _ rfl _) | (refine c_drw rfl (by decide) (by decide +kernel) ?_; (repeat (first | (refine hms rfl rfl rfl ?_ ?_; (next => first | exact trivial | omega)) | refine h_skip rfl rfl rfl ?_ | (refine hmw rfl rfl rfl ?_ ?_; (next => first | exact trivial | omega)))); refine h_nil ?_) | (refine c_drp rfl (by decide) (by decide +kernel) ?_; (repeat (first | (refine p_run rfl rfl rfl ?_ ?_; (next => first | exact trivial | omega)) | refine p_skip rfl rfl rfl ?_)); refine p_nil ?_)) | (refine lxv rfl rfl rfl ?_ ?_; (next => first | exact trivial | omega)) | refine lba rfl rfl (by kernel_rfl) rfl ?_ | (refine lcv rfl rfl rfl ?_ ?_; (next => first | exact trivial | omega)) | refine lpT rfl rfl rfl rfl ?_ | refine lpF rfl rfl rfl rfl ?_ | (refine l_gd rfl rfl rfl ?_ ?_ <;> intro _ <;> try (exfalso; first | contradiction | omega)) | (refine c_if rfl ?_ ?_ <;> intro _ <;> try (exfalso; first | contradiction | omega)) | (refine lmw rfl rfl rfl ?_ ?_; (next => first | exact trivial | omega))) | (first | (refine hms rfl rfl rfl ?_ ?_; (next => first | exact trivial | omega)) | refine hbd rfl rfl (by kernel_rfl) rfl ?_ | refine h_pT rfl rfl rfl rfl ?_ | refine h_pF rfl rfl rfl rfl ?_ | refine h_skip rfl rfl rfl ?_ | (refine hcv rfl rfl rfl ?_ ?_; (next => first | exact trivial | omega)) | (refine h_gd rfl rfl rfl ?_ ?_ <;> intro _ <;> try (exfalso; first | contradiction | omega)) | (refine hmw rfl rfl rfl ?_ ?_; (next => first | exact trivial | omega)) | refine h_nil ?_) | (first | (refine x_run rfl rfl rfl ?_ ?_; (next => first | exact trivial | omega)) | refine x_pT rfl rfl rfl rfl ?_ | refine x_pF rfl rfl rfl rfl ?_ | refine x_skip rfl rfl rfl ?_ | (refine x_gd rfl rfl rfl ?_ ?_ <;> intro _ <;> try (exfalso; first | contradiction | omega)) | refine x_nil ?_) | (first | refine t_done ?_ | refine t_all _ rfl rfl ?_ | refine allP_cons ?_ ?_ | exact allP_nil | refine t_last (by decide +kernel) ?_ | refine t_next Sub.au ?_) | refine c_drw rfl (by decide) (by decide +kernel) ?_ | refine c_dra rfl rfl (by decide) (by decide +kernel) ?_ | fail)
    all_goals refine lf rfl rfl rfl (S := [.row (.slice A q.l.length c) 43 6 q.l.length (flat frE q.l), .row (.slice B q.ws.length d) 3 1 q.ws.length (ints .i64 q.ws), .row (.slice C q.zs.length e) 2 1 q.zs.length (ints .i64 q.zs)]) (fun w hw ho => HR w ho) ?_
    all_goals rintro v S' ⟨A', B', C', c', d', e', rfl, rfl⟩
    all_goals
      repeat (first | refine j_app ?_ | refine l_nil ?_ | refine cc ?_)
      refine t_next Sub.au ?_
      refine t_weak 20 rfl ?_
      refine t_pick 7 rfl ?_ rfl rfl rfl ?_ rfl Sub.au ?_
      next => (simp only [pickOk, Bool.and_eq_true]; refine ⟨?_, ?_⟩ <;> decide +kernel)
      next => trivial
      refine t_pick 8 rfl ?_ rfl rfl rfl ?_ rfl Sub.au ?_
      next => (simp only [pickOk, Bool.and_eq_true]; refine ⟨?_, ?_⟩ <;> decide +kernel)
      next => trivial
      refine t_pick 9 rfl ?_ rfl rfl rfl ?_ rfl Sub.au ?_
      next => (simp only [pickOk, Bool.and_eq_true]; refine ⟨?_, ?_⟩ <;> decide +kernel)
      next => trivial
      refine t_pick 10 rfl ?_ rfl rfl rfl ?_ rfl Sub.au ?_
      next => (simp only [pickOk, Bool.and_eq_true]; refine ⟨?_, ?_⟩ <;> decide +kernel)
      next => trivial
      refine t_pick 11 rfl ?_ rfl rfl rfl ?_ rfl Sub.au ?_
      next => (simp only [pickOk, Bool.and_eq_true]; refine ⟨?_, ?_⟩ <;> decide +kernel)
      next => trivial
      refine t_pick 14 rfl ?_ rfl rfl rfl ?_ rfl Sub.au ?_
      next => (simp only [pickOk, Bool.and_eq_true]; refine ⟨?_, ?_⟩ <;> decide +kernel)
      next => trivial
      refine t_pick 15 rfl ?_ rfl rfl rfl ?_ rfl Sub.au ?_
      next => (simp only [pickOk, Bool.and_eq_true]; refine ⟨?_, ?_⟩ <;> decide +kernel)
      next => trivial
      refine t_pick 16 rfl ?_ rfl rfl rfl ?_ rfl Sub.au ?_
      next => (simp only [pickOk, Bool.and_eq_true]; refine ⟨?_, ?_⟩ <;> decide +kernel)
      next => trivial
    all_goals
      repeat' (first | (first | (first | refine j_app ?_ | refine cc ?_ | ((first | refine lms rfl rfl rfl ?_ ?_ | refine lss rfl rfl ?_ ?_ | refine lns rfl rfl rfl ?_ ?_ | refine lap rfl rfl rfl rfl rfl ?_ rfl ?_); (next => first | exact trivial | omega); intros) | refine c_true rfl ?_ | refine c_false rfl ?_ | refine c_in_other rfl ?_ | refine l_nil ?_ | refine l_skip rfl rfl rfl ?_ | refine l_skip0 rfl rfl ?_ | refine lbd rfl rfl (by kernel_rfl) rfl ?_ | (refine lsl rfl rfl rfl rfl (by kernel_rfl) rfl rfl ?_; intros) | (refine lsl0 rfl rfl ?_; intros) | (refine lix rfl (by omega) ?_; rintro _ rfl) | (refine lixr rfl (by assumption) (by omega) ?_; rintro _ _ rfl _) | (refine c_drw rfl (by decide) (by decide +kernel) ?_; (repeat (first | (refine hms rfl rfl rfl ?_ ?_; (next => first | exact trivial | omega)) | refine h_skip rfl rfl rfl ?_ | (refine hmw rfl rfl rfl ?_ ?_; (next => first | exact trivial | omega)))); refine h_nil ?_) | (refine c_drp rfl (by decide) (by decide +kernel) ?_; (repeat (first | (refine p_run rfl rfl rfl ?_ ?_; (next => first | exact trivial | omega)) | refine p_skip rfl rfl rfl ?_)); refine p_nil ?_)) | (refine lxv rfl rfl rfl ?_ ?_; (next => first | exact trivial | omega)) | refine lba rfl rfl (by kernel_rfl) rfl ?_ | (refine lcv rfl rfl rfl ?_ ?_; (next => first | exact trivial | omega)) | refine lpT rfl rfl rfl rfl ?_ | refine lpF rfl rfl rfl rfl ?_ | (refine l_gd rfl rfl rfl ?_ ?_ <;> intro _ <;> try (exfalso; first | contradiction | omega)) | (refine c_if rfl ?_ ?_ <;> intro _ <;> try (exfalso; first | contradiction | omega)) | (refine lmw rfl rfl rfl ?_ ?_; (next => first | exact trivial | omega))) | (first | (refine hms rfl rfl rfl ?_ ?_; (next => first | exact trivial | omega)) | refine hbd rfl rfl (by kernel_rfl) rfl ?_ | refine h_pT rfl rfl rfl rfl ?_ | refine h_pF rfl rfl rfl rfl ?_ | refine h_skip rfl rfl rfl ?_ | (refine hcv rfl rfl rfl ?_ ?_; (next => first | exact trivial | omega)) | (refine h_gd rfl rfl rfl ?_ ?_ <;> intro _ <;> try (exfalso; first | contradiction | omega)) | (refine hmw rfl rfl rfl ?_ ?_; (next => first | exact trivial | omega)) | refine h_nil ?_) | (first | (refine x_run rfl rfl rfl ?_ ?_; (next => first | exact trivial | omega)) | refine x_pT rfl rfl rfl rfl ?_ | refine x_pF rfl rfl rfl rfl ?_ | refine x_skip rfl rfl rfl ?_ | (refine x_gd rfl rfl rfl ?_ ?_ <;> intro _ <;> try (exfalso; first | contradiction | omega)) | refine x_nil ?_) | (first | refine t_done ?_ | refine t_all _ rfl rfl ?_ | refine allP_cons ?_ ?_ | exact allP_nil | refine t_last (by decide +kernel) ?_ | refine t_next Sub.au ?_) | refine c_drw rfl (by decide) (by decide +kernel) ?_ | refine c_dra rfl rfl (by decide) (by decide +kernel) ?_ | fail)
    all_goals
      refine c_loop (X := Nat) (fun i => i ≤ 7) (fun i => [(1, .slice (some ⟨_, _, none⟩) l.length c0), (2, .pointer (some ⟨b1, 0, none⟩)), (7, .pointer (some ⟨b2, 0, none⟩)), (9, .pointer (some ⟨b3, 0, none⟩)), (10, .slice (some ⟨b4, 0, none⟩) 7 7), (11, .int .i64 k), (19, .int .i64 i)])
        (fun _ => [.blk b2 30 (lnE s'), .blk b1 24 [.int .u32 m.age, .int .i64 m.jump, .int .i64 m.throw, .int .i64 m.most],
          .blk b3 39 [.slice A' q'.l.length c', .slice B' q'.ws.length d', .slice C' q'.zs.length e'],
          .row (.slice A' q'.l.length c') 43 6 q'.l.length (flat frE q'.l), .row (.slice B' q'.ws.length d') 3 1 q'.ws.length (ints .i64 q'.ws), .row (.slice C' q'.zs.length e') 2 1 q'.zs.length (ints .i64 q'.zs),
          .row (.slice (some ⟨b4, 0, none⟩) 7 7) 3 1 7 (ints .i64 s'.counts)])
        (fun i => 7 - i) 0 (by simp) ⟨rfl, rfl, rfl, rfl, rfl, rfl, rfl, trivial⟩ ?_ ?_
      · rw [hcs]
        exact Sub.au
      intro i hi7
      repeat' (first | (first | (first | refine j_app ?_ | refine cc ?_ | ((first | refine lms rfl rfl rfl ?_ ?_ | refine lss rfl rfl ?_ ?_ | refine lns rfl rfl rfl ?_ ?_ | refine lap rfl rfl rfl rfl rfl ?_ rfl ?_); (next => first | exact trivial | omega); intros) | refine c_true rfl ?_ | refine c_false rfl ?_ | refine c_in_other rfl ?_ | refine l_nil ?_ | refine l_skip rfl rfl rfl ?_ | refine l_skip0 rfl rfl ?_ | refine lbd rfl rfl (by kernel_rfl) rfl ?_ | (refine lsl rfl rfl rfl rfl (by kernel_rfl) rfl rfl ?_; intros) | (refine lsl0 rfl rfl ?_; intros) | (refine lix rfl (by omega) ?_; rintro _ rfl) | (refine lixr rfl (by assumption) (by omega) ?_; rintro _ _ rfl _) | (refine c_drw rfl (by decide) (by decide +kernel) ?_; (repeat (first | (refine hms rfl rfl rfl ?_ ?_; (next => first | exact trivial | omega)) | refine h_skip rfl rfl rfl ?_ | (refine hmw rfl rfl rfl ?_ ?_; (next => first | exact trivial | omega)))); refine h_nil ?_) | (refine c_drp rfl (by decide) (by decide +kernel) ?_; (repeat (first | (refine p_run rfl rfl rfl ?_ ?_; (next => first | exact trivial | omega)) | refine p_skip rfl rfl rfl ?_)); refine p_nil ?_)) | (refine lxv rfl rfl rfl ?_ ?_; (next => first | exact trivial | omega)) | refine lba rfl rfl (by kernel_rfl) rfl ?_ | (refine lcv rfl rfl rfl ?_ ?_; (next => first | exact trivial | omega)) | refine lpT rfl rfl rfl rfl ?_ | refine lpF rfl rfl rfl rfl ?_ | (refine l_gd rfl rfl rfl ?_ ?_ <;> intro _ <;> try (exfalso; first | contradiction | omega)) | (refine c_if rfl ?_ ?_ <;> intro _ <;> try (exfalso; first | contradiction | omega)) | (refine lmw rfl rfl rfl ?_ ?_; (next => first | exact trivial | omega))) | (first | (refine hms rfl rfl rfl ?_ ?_; (next => first | exact trivial | omega)) | refine hbd rfl rfl (by kernel_rfl) rfl ?_ | refine h_pT rfl rfl rfl rfl ?_ | refine h_pF rfl rfl rfl rfl ?_ | refine h_skip rfl rfl rfl ?_ | (refine hcv rfl rfl rfl ?_ ?_; (next => first | exact trivial | omega)) | (refine h_gd rfl rfl rfl ?_ ?_ <;> intro _ <;> try (exfalso; first | contradiction | omega)) | (refine hmw rfl rfl rfl ?_ ?_; (next => first | exact trivial | omega)) | refine h_nil ?_) | (first | (refine x_run rfl rfl rfl ?_ ?_; (next => first | exact trivial | omega)) | refine x_pT rfl rfl rfl rfl ?_ | refine x_pF rfl rfl rfl rfl ?_ | refine x_skip rfl rfl rfl ?_ | (refine x_gd rfl rfl rfl ?_ ?_ <;> intro _ <;> try (exfalso; first | contradiction | omega)) | refine x_nil ?_) | (first | refine t_done ?_ | refine t_all _ rfl rfl ?_ | refine allP_cons ?_ ?_ | exact allP_nil | refine t_last (by decide +kernel) ?_ | refine t_next Sub.au ?_) | refine c_drw rfl (by decide) (by decide +kernel) ?_ | refine c_dra rfl rfl (by decide) (by decide +kernel) ?_ | fail)
    all_goals first
      | exact c_round (i + 1) (by show i + 1 ≤ 7; omega) (by show 7 - (i + 1) < 7 - i; omega) ⟨rfl, rfl, rfl, rfl, rfl, rfl, by simp [look], trivial⟩ Sub.au
      | exact c_round (k + 1, s', q', A', B', C', c', d', e') ⟨by show k + 1 ≤ _; omega, hs2, hql, hcnt'⟩ (by show _ - (k + 1) < _ - k; omega) ⟨rfl, rfl, rfl, rfl, rfl, by simp [look], trivial⟩ Sub.au
  · refine j_outK (.nil _) ?_; (repeat (first | refine k_tmp rfl ?_ | refine k_cell rfl ?_)); refine k_nil ?_
    rfl
theorem takes_all (n0 n1 n2 n3 : Int) (_ : InR .u32 n0) (_ : InR .i64 n1) (_ : InR .i64 n2) (_ : InR .i64 n3) (A : Option Addr) (c : Nat) (l : List Fr) {w : World} (hr : RoA w (blocks []) A l.length c 6 (flat frE l)) (hl : ∀ f ∈ l, FrIn f) :
    Does Try.prog 3 [.agg #[.int .u32 n0, .int .i64 n1, .int .i64 n2, .int .i64 n3], .slice A l.length c] [] w (fun v _ => v = .bool true) := takes_law ⟨n0, n1, n2, n3⟩ A c l (fun f hf => (hl f hf).2) w hr
end Go.Proofs.Ytokoopdkofgabaa
