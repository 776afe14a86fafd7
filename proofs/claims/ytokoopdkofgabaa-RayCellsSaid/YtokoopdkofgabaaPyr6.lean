/- Package pyramid: Over (under way). -/
import Derived.Test.YtokoopdkofgabaaPyr5
import Derived.Test.YtokoopdkofgabaaScope
import Derived.Test.YtokoopdkofgabaaPyrS
namespace Go.Proofs.Ytokoopdkofgabaa
open Go.RowKit
structure PlOk (L : List Lv) (p : Pl3) : Prop where
  n : p.n < L.length
  x : p.x < (L.getD p.n default).w
  y : p.y < (L.getD p.n default).h
structure PyrL (W H : Nat) (cs : List Cel) (L : List Lv) : Prop where
  cell : ∀ n, n < L.length → ∀ x y : Nat, atL (L.getD n default).w (L.getD n default).h (L.getD n default).cs x y = agg (bcF W H cs) (sqL n x y)
  dim : ∀ n, n < L.length → W ≤ (L.getD n default).w * 2 ^ n ∧ H ≤ (L.getD n default).h * 2 ^ n
  base : (L.getD 0 default).w = W ∧ (L.getD 0 default).h = H
  prp : ∀ c ∈ cs, Prp c
  pos : 0 < L.length
  few : L.length ≤ 16
  side : ∀ n, n < L.length → (L.getD n default).w ≤ 256 ∧ (L.getD n default).h ≤ 256 ∧ (L.getD n default).cs.length = (L.getD n default).w * (L.getD n default).h
  one : ∀ n, n < L.length → 1 ≤ (L.getD n default).w ∧ 1 ≤ (L.getD n default).h
  cel : ∀ n, n < L.length → ∀ c ∈ (L.getD n default).cs, CelOk c
theorem flat_takeP (l : List Pl3) (k : Nat) : (flat pl3E l).take (k * 3) = flat pl3E (l.take k) := by
  induction k generalizing l with
  | zero => simp [flat]
  | succ k ih =>
    cases l with
    | nil => simp [flat]
    | cons x r =>
      have e : (k + 1) * 3 = k * 3 + 1 + 1 + 1 := by omega
      rw [e]
      simpa [flat, List.flatMap_cons] using ih r
def muS : List Pl3 → Nat
  | [] => 0
  | p :: r => 5 ^ p.n + muS r
theorem muS_app : ∀ a b : List Pl3, muS (a ++ b) = muS a + muS b
  | [], b => by simp [muS]
  | p :: a, b => by simp only [List.cons_append, muS, muS_app a b]; omega
theorem muS_len : ∀ a : List Pl3, a.length ≤ muS a
  | [] => Nat.le_refl _
  | p :: a => by
    have := muS_len a
    have h5 : 0 < 5 ^ p.n := Nat.pow_pos (by decide)
    simp only [muS, List.length_cons]
    omega
theorem blw_mem {n lw lh x y : Nat} : ∀ i, ∀ c ∈ blw n lw lh x y i, c.n = n ∧ c.x < lw ∧ c.y < lh
  | 0, c, h => by simp [blw, blwN] at h
  | i + 1, c, h => by
    rw [blw_succ] at h
    split at h
    · rename_i hc
      rw [List.mem_append] at h
      rcases h with h | h
      · exact blw_mem i c h
      · have : c = ⟨n, 2 * x + i % 2, 2 * y + i / 2⟩ := by simpa using h
        subst this
        exact ⟨rfl, hc.1, hc.2⟩
    · exact blw_mem i c h
theorem muS_same {n : Nat} : ∀ l : List Pl3, (∀ c ∈ l, c.n = n) → muS l = l.length * 5 ^ n
  | [], _ => by simp [muS]
  | p :: l, h => by
    rw [muS, muS_same l (fun c hc => h c (List.mem_cons_of_mem _ hc)), h p (List.mem_cons_self ..), List.length_cons, Nat.add_mul, Nat.one_mul, Nat.add_comm]
theorem last_take {st : List Pl3} (h : 0 < st.length) : st = st.take (st.length - 1) ++ [st.getD (st.length - 1) default] := by
  rw [List.getD_eq_getElem?_getD, List.getElem?_eq_getElem (show st.length - 1 < st.length by omega)]
  conv => lhs; rw [← List.take_append_drop (st.length - 1) st]
  congr 1
  rw [List.drop_eq_getElem_cons (show st.length - 1 < st.length by omega), List.drop_eq_nil_of_le (by omega)]
  rfl
theorem join_n {a b : Cel} (ha : Prp a) (hb : Prp b) : (joinC a b).n = a.n + b.n := by
  have := ha.1
  have := hb.1
  unfold joinC
  split
  · omega
  split
  · omega
  · rfl
theorem agg_le {α : Type} {f g : α → Cel} (hf : ∀ x, Prp (f x)) (hg : ∀ x, Prp (g x)) (h : ∀ x, (f x).n ≤ (g x).n) : ∀ l : List α, (agg f l).n ≤ (agg g l).n
  | [] => Int.le_refl _
  | x :: r => by
    rw [agg, agg, join_n (hf x) (agg_prp hf r), join_n (hg x) (agg_prp hg r)]
    have := agg_le hf hg h r
    have := h x
    omega
theorem PyrL.total {W H : Nat} {cs : List Cel} {L : List Lv} (h : PyrL W H cs L) (b : Bx) : (agg (bcB W H cs b) (sqL (L.length - 1) 0 0)).n ≤ 1000000 := by
  have h1 := agg_le (f := bcB W H cs b) (g := bcF W H cs) (bcB_prp h.prp b) (bcF_prp h.prp) (fun p => by
    unfold bcB
    split
    · exact Int.le_refl _
    · exact (bcF_prp h.prp p).1) (sqL (L.length - 1) 0 0)
  have hl := h.pos
  rw [← h.cell (L.length - 1) (by omega)] at h1
  have := atL_ok (w := (L.getD (L.length - 1) default).w) (h := (L.getD (L.length - 1) default).h) (h.cel (L.length - 1) (by omega)) ((0 : Nat) : Int) ((0 : Nat) : Int)
  unfold CelOk at this
  omega
structure OvR (W H : Nat) (cs : List Cel) (b : Bx) (L : List Lv) (st : List Pl3) (out : Cel) (seen : Nat) : Prop where
  ok : ∀ p ∈ st, PlOk L p
  prp : Prp out
  sum : joinC out (aggS (bcB W H cs b) st) = agg (bcB W H cs b) (sqL (L.length - 1) 0 0)
  seen : seen + muS st ≤ 152587890625
attribute [local irreducible] OJ J HdJ Code.wpIn wpListIn Oper.wpIn bodyPost CallsIn Does
set_option maxRecDepth 4000
set_option maxHeartbeats 16000000 in
theorem over_any (p : Nat) (A : Option Addr) (c : Nat) (L : List Lv) (seen : Int) (b : Bx) (w : World) (hown : Own [.blk p 153 [.slice A L.length c, .int .i64 seen]] w)
    (hr : RoA w (blocks [.blk p 153 [.slice A L.length c, .int .i64 seen]]) A L.length c 3 (flat lvE L))
    (hrs : ∀ n, n < L.length → RoA w (blocks [.blk p 153 [.slice A L.length c, .int .i64 seen]]) (L.getD n default).A (L.getD n default).cs.length (L.getD n default).c 3 (flat celE (L.getD n default).cs)) (W H : Nat) (cs : List Cel) (hL : PyrL W H cs L) :
    Does Try.prog 84 [.pointer (some ⟨p, 0, none⟩), .agg (bxE b).toArray] [.blk p 153 [.slice A L.length c, .int .i64 seen]] w
      (fun v S' => ∃ s2, v = .agg (celE (agg (bcB W H cs b) (sqL (L.length - 1) 0 0))).toArray ∧ S' = [.blk p 153 [.slice A L.length c, .int .i64 s2]]) := by
  refine does_of Try.func84 rfl Try.ntmps84 rfl hown (fun N => ?_)
  simp only [slots]
  have hfew := hL.few
  have hpos := hL.pos
  have el : (L.length : Int) - 1 = ((L.length - 1 : Nat) : Int) := by omega
  repeat' (first | (first | (first | refine j_app ?_ | refine cc ?_ | ((first | refine lms rfl rfl rfl ?_ ?_ | refine lss rfl rfl ?_ ?_ | refine lns rfl rfl rfl ?_ ?_ | refine lap rfl rfl rfl rfl rfl ?_ rfl ?_); (next => first | exact trivial | omega); intros) | refine c_true rfl ?_ | refine c_false rfl ?_ | refine c_in_other rfl ?_ | refine l_nil ?_ | refine l_skip rfl rfl rfl ?_ | refine l_skip0 rfl rfl ?_ | refine lbd rfl rfl (by kernel_rfl) rfl ?_ | (refine lsl rfl rfl rfl rfl (by kernel_rfl) rfl rfl ?_; intros) | (refine lsl0 rfl rfl ?_; intros) | (refine lix rfl (by omega) ?_; rintro _ rfl) | (refine lixr rfl (by assumption) (by omega) ?_; rintro _ _ rfl _) | (refine c_drw rfl (by decide) (by decide +kernel) ?_; (repeat (first | (refine hms rfl rfl rfl ?_ ?_; (next => first | exact trivial | omega)) | refine h_skip rfl rfl rfl ?_ | (refine hmw rfl rfl rfl ?_ ?_; (next => first | exact trivial | omega)))); refine h_nil ?_) | (refine c_drp rfl (by decide) (by decide +kernel) ?_; (repeat (first | (refine p_run rfl rfl rfl ?_ ?_; (next => first | exact trivial | omega)) | refine p_skip rfl rfl rfl ?_)); refine p_nil ?_)) | (refine lxv rfl rfl rfl ?_ ?_; (next => first | exact trivial | omega)) | refine lba rfl rfl (by kernel_rfl) rfl ?_ | (refine lcv rfl rfl rfl ?_ ?_; (next => first | exact trivial | omega)) | refine lpT rfl rfl rfl rfl ?_ | refine lpF rfl rfl rfl rfl ?_ | ((fail_if_success refine l_lit true rfl rfl rfl ?_); (fail_if_success refine l_lit false rfl rfl rfl ?_); refine l_gd rfl rfl rfl ?_ ?_ <;> intro _ <;> try (exfalso; first | contradiction | omega)) | (refine c_if rfl ?_ ?_ <;> intro _ <;> try (exfalso; first | contradiction | omega)) | (refine lmw rfl rfl rfl ?_ ?_; (next => first | exact trivial | omega))) | fail)
  rw [el]
  rename_i b3 b4 b5 b6
  refine c_loop (X := List Pl3 × Cel × Nat × Option Addr × Nat) (fun q => OvR W H cs b L q.1 q.2.1 q.2.2.1) (fun q => [(0, .pointer (some ⟨p, 0, none⟩)), (3, .pointer (some ⟨b3, 0, none⟩)), (4, .pointer (some ⟨b4, 0, none⟩)), (5, .pointer (some ⟨b5, 0, none⟩)), (6, .slice q.2.2.2.1 q.1.length q.2.2.2.2)])
    (fun q => [.row (.slice q.2.2.2.1 q.1.length q.2.2.2.2) 206 3 q.1.length (flat pl3E q.1), .blk b5 150 (celE q.2.1), .blk b4 150 [.int .i16 0, .int .i16 0, .int .i64 0], .blk b3 158 (bxE b), .blk p 153 [.slice A L.length c, .int .i64 q.2.2.1]])
    (fun q => muS q.1) ([⟨L.length - 1, 0, 0⟩], ⟨0, 0, 0⟩, 0, some ⟨b6, 0, none⟩, 1) ?_ ⟨rfl, rfl, rfl, rfl, rfl, trivial⟩ (Sub.refl _) ?_
  · have h1 := hL.one (L.length - 1) (by omega)
    have h5 : 5 ^ (L.length - 1) ≤ 5 ^ 15 := Nat.pow_le_pow_right (by decide) (by omega)
    have h6 : (5 : Nat) ^ 15 = 30517578125 := by decide
    have hbp := bcB_prp hL.prp b (w := W) (h := H)
    refine ⟨fun p hp => ?_, prp_zero, by dsimp only; rw [aggS_one, zero_join (agg_prp hbp _)], by simp only [muS]; omega⟩
    have : p = ⟨L.length - 1, 0, 0⟩ := by simpa using hp
    subst this
    exact ⟨by show L.length - 1 < L.length; omega, by show 0 < (L.getD (L.length - 1) default).w; omega, by show 0 < (L.getD (L.length - 1) default).h; omega⟩
  rintro ⟨st, out, sn, A6, c6⟩ hR
  dsimp only at hR ⊢
  obtain ⟨hpl, hop, hsum, hsn⟩ := hR
  have hbp := bcB_prp hL.prp b (w := W) (h := H)
  have htot := hL.total b
  have hout : 0 ≤ out.n ∧ out.n ≤ 1000000 := by
    rw [← hsum, join_n hop (aggS_prp hbp _)] at htot
    have := (aggS_prp hbp st).1
    have := hop.1
    omega
  have hsl := muS_len st
  repeat' (first | (first | (first | refine j_app ?_ | refine cc ?_ | ((first | refine lms rfl rfl rfl ?_ ?_ | refine lss rfl rfl ?_ ?_ | refine lns rfl rfl rfl ?_ ?_ | refine lap rfl rfl rfl rfl rfl ?_ rfl ?_); (next => first | exact trivial | omega); intros) | refine c_true rfl ?_ | refine c_false rfl ?_ | refine c_in_other rfl ?_ | refine l_nil ?_ | refine l_skip rfl rfl rfl ?_ | refine l_skip0 rfl rfl ?_ | refine lbd rfl rfl (by kernel_rfl) rfl ?_ | (refine lsl rfl rfl rfl rfl (by kernel_rfl) rfl rfl ?_; intros) | (refine lsl0 rfl rfl ?_; intros) | (refine lix rfl (by omega) ?_; rintro _ rfl) | (refine lixr rfl (by assumption) (by omega) ?_; rintro _ _ rfl _) | (refine c_drw rfl (by decide) (by decide +kernel) ?_; (repeat (first | (refine hms rfl rfl rfl ?_ ?_; (next => first | exact trivial | omega)) | refine h_skip rfl rfl rfl ?_ | (refine hmw rfl rfl rfl ?_ ?_; (next => first | exact trivial | omega)))); refine h_nil ?_) | (refine c_drp rfl (by decide) (by decide +kernel) ?_; (repeat (first | (refine p_run rfl rfl rfl ?_ ?_; (next => first | exact trivial | omega)) | refine p_skip rfl rfl rfl ?_)); refine p_nil ?_)) | (refine lxv rfl rfl rfl ?_ ?_; (next => first | exact trivial | omega)) | refine lba rfl rfl (by kernel_rfl) rfl ?_ | (refine lcv rfl rfl rfl ?_ ?_; (next => first | exact trivial | omega)) | refine lpT rfl rfl rfl rfl ?_ | refine lpF rfl rfl rfl rfl ?_ | ((fail_if_success refine l_lit true rfl rfl rfl ?_); (fail_if_success refine l_lit false rfl rfl rfl ?_); refine l_gd rfl rfl rfl ?_ ?_ <;> intro _ <;> try (exfalso; first | contradiction | omega)) | (refine c_if rfl ?_ ?_ <;> intro _ <;> try (exfalso; first | contradiction | omega)) | (refine lmw rfl rfl rfl ?_ ?_; (next => first | exact trivial | omega))) | fail)
  · have hpos2 : 0 < st.length := by omega
    have eh : (st.length : Int) - 1 = ((st.length - 1 : Nat) : Int) := by omega
    have ei : ((st.length : Int) - 1).toNat = st.length - 1 := by omega
    rw [ei, eh]
    refine j_cap (A := _) (m := st.length) (c := c6) (e := 206) (s := 3) (xs := flat pl3E st) (by first | exact (Has.here _ _) | exact (Has.there _ (Has.here _ _)) | exact (Has.there _ (Has.there _ (Has.here _ _))) | exact (Has.there _ (Has.there _ (Has.there _ (Has.here _ _)))) | exact (Has.there _ (Has.there _ (Has.there _ (Has.there _ (Has.here _ _))))) | exact (Has.there _ (Has.there _ (Has.there _ (Has.there _ (Has.there _ (Has.here _ _)))))) | exact (Has.there _ (Has.there _ (Has.there _ (Has.there _ (Has.there _ (Has.there _ (Has.here _ _))))))) | exact (Has.there _ (Has.there _ (Has.there _ (Has.there _ (Has.there _ (Has.there _ (Has.there _ (Has.here _ _)))))))) | exact (Has.there _ (Has.there _ (Has.there _ (Has.there _ (Has.there _ (Has.there _ (Has.there _ (Has.there _ (Has.here _ _))))))))) | exact (Has.there _ (Has.there _ (Has.there _ (Has.there _ (Has.there _ (Has.there _ (Has.there _ (Has.there _ (Has.there _ (Has.here _ _)))))))))) | exact (Has.there _ (Has.there _ (Has.there _ (Has.there _ (Has.there _ (Has.there _ (Has.there _ (Has.there _ (Has.there _ (Has.there _ (Has.here _ _))))))))))) | exact (Has.there _ (Has.there _ (Has.there _ (Has.there _ (Has.there _ (Has.there _ (Has.there _ (Has.there _ (Has.there _ (Has.there _ (Has.there _ (Has.here _ _)))))))))))) | exact (Has.there _ (Has.there _ (Has.there _ (Has.there _ (Has.there _ (Has.there _ (Has.there _ (Has.there _ (Has.there _ (Has.there _ (Has.there _ (Has.there _ (Has.here _ _))))))))))))) | exact (Has.there _ (Has.there _ (Has.there _ (Has.there _ (Has.there _ (Has.there _ (Has.there _ (Has.there _ (Has.there _ (Has.there _ (Has.there _ (Has.there _ (Has.there _ (Has.here _ _))))))))))))))) (fun hcap => ?_)
    have hq : PlOk L (st.getD (st.length - 1) default) := by
      rw [List.getD_eq_getElem?_getD, List.getElem?_eq_getElem (show st.length - 1 < st.length by omega)]
      exact hpl _ (List.getElem_mem ..)
    have hs0 : (st.take (st.length - 1)).length = st.length - 1 := by rw [List.length_take, Nat.min_eq_left (by omega)]
    have hst := last_take hpos2
    generalize st.getD (st.length - 1) default = q at *
    repeat' (first | (first | (first | refine j_app ?_ | refine cc ?_ | ((first | refine lms rfl rfl rfl ?_ ?_ | refine lss rfl rfl ?_ ?_ | refine lns rfl rfl rfl ?_ ?_ | refine lap rfl rfl rfl rfl rfl ?_ rfl ?_); (next => first | exact trivial | omega); intros) | refine c_true rfl ?_ | refine c_false rfl ?_ | refine c_in_other rfl ?_ | refine l_nil ?_ | refine l_skip rfl rfl rfl ?_ | refine l_skip0 rfl rfl ?_ | refine lbd rfl rfl (by kernel_rfl) rfl ?_ | (refine lsl rfl rfl rfl rfl (by kernel_rfl) rfl rfl ?_; intros) | (refine lsl0 rfl rfl ?_; intros) | (refine lix rfl (by omega) ?_; rintro _ rfl) | (refine lixr rfl (by assumption) (by omega) ?_; rintro _ _ rfl _) | (refine c_drw rfl (by decide) (by decide +kernel) ?_; (repeat (first | (refine hms rfl rfl rfl ?_ ?_; (next => first | exact trivial | omega)) | refine h_skip rfl rfl rfl ?_ | (refine hmw rfl rfl rfl ?_ ?_; (next => first | exact trivial | omega)))); refine h_nil ?_) | (refine c_drp rfl (by decide) (by decide +kernel) ?_; (repeat (first | (refine p_run rfl rfl rfl ?_ ?_; (next => first | exact trivial | omega)) | refine p_skip rfl rfl rfl ?_)); refine p_nil ?_)) | (refine lxv rfl rfl rfl ?_ ?_; (next => first | exact trivial | omega)) | refine lba rfl rfl (by kernel_rfl) rfl ?_ | (refine lcv rfl rfl rfl ?_ ?_; (next => first | exact trivial | omega)) | refine lpT rfl rfl rfl rfl ?_ | refine lpF rfl rfl rfl rfl ?_ | ((fail_if_success refine l_lit true rfl rfl rfl ?_); (fail_if_success refine l_lit false rfl rfl rfl ?_); refine l_gd rfl rfl rfl ?_ ?_ <;> intro _ <;> try (exfalso; first | contradiction | omega)) | (refine c_if rfl ?_ ?_ <;> intro _ <;> try (exfalso; first | contradiction | omega)) | (refine lmw rfl rfl rfl ?_ ?_; (next => first | exact trivial | omega))) | fail)
    rw [subA_zero, Nat.sub_zero, Nat.sub_zero]
    rename_i b7 _
    refine j_trunc (m := st.length) (c := c6) (e := 206) (s := 3) (xs := flat pl3E st) (st.length - 1) (by first | exact (Has.here _ _) | exact (Has.there _ (Has.here _ _)) | exact (Has.there _ (Has.there _ (Has.here _ _))) | exact (Has.there _ (Has.there _ (Has.there _ (Has.here _ _)))) | exact (Has.there _ (Has.there _ (Has.there _ (Has.there _ (Has.here _ _))))) | exact (Has.there _ (Has.there _ (Has.there _ (Has.there _ (Has.there _ (Has.here _ _)))))) | exact (Has.there _ (Has.there _ (Has.there _ (Has.there _ (Has.there _ (Has.there _ (Has.here _ _))))))) | exact (Has.there _ (Has.there _ (Has.there _ (Has.there _ (Has.there _ (Has.there _ (Has.there _ (Has.here _ _)))))))) | exact (Has.there _ (Has.there _ (Has.there _ (Has.there _ (Has.there _ (Has.there _ (Has.there _ (Has.there _ (Has.here _ _))))))))) | exact (Has.there _ (Has.there _ (Has.there _ (Has.there _ (Has.there _ (Has.there _ (Has.there _ (Has.there _ (Has.there _ (Has.here _ _)))))))))) | exact (Has.there _ (Has.there _ (Has.there _ (Has.there _ (Has.there _ (Has.there _ (Has.there _ (Has.there _ (Has.there _ (Has.there _ (Has.here _ _))))))))))) | exact (Has.there _ (Has.there _ (Has.there _ (Has.there _ (Has.there _ (Has.there _ (Has.there _ (Has.there _ (Has.there _ (Has.there _ (Has.there _ (Has.here _ _)))))))))))) | exact (Has.there _ (Has.there _ (Has.there _ (Has.there _ (Has.there _ (Has.there _ (Has.there _ (Has.there _ (Has.there _ (Has.there _ (Has.there _ (Has.there _ (Has.here _ _))))))))))))) | exact (Has.there _ (Has.there _ (Has.there _ (Has.there _ (Has.there _ (Has.there _ (Has.there _ (Has.there _ (Has.there _ (Has.there _ (Has.there _ (Has.there _ (Has.there _ (Has.here _ _))))))))))))))) (by omega) hpos2 ?_
    rw [flat_takeP]
    generalize st.take (st.length - 1) = s0 at *
    rw [← hs0]
    repeat' (first | (first | (first | refine j_app ?_ | refine cc ?_ | ((first | refine lms rfl rfl rfl ?_ ?_ | refine lss rfl rfl ?_ ?_ | refine lns rfl rfl rfl ?_ ?_ | refine lap rfl rfl rfl rfl rfl ?_ rfl ?_); (next => first | exact trivial | omega); intros) | refine c_true rfl ?_ | refine c_false rfl ?_ | refine c_in_other rfl ?_ | refine l_nil ?_ | refine l_skip rfl rfl rfl ?_ | refine l_skip0 rfl rfl ?_ | refine lbd rfl rfl (by kernel_rfl) rfl ?_ | (refine lsl rfl rfl rfl rfl (by kernel_rfl) rfl rfl ?_; intros) | (refine lsl0 rfl rfl ?_; intros) | (refine lix rfl (by omega) ?_; rintro _ rfl) | (refine lixr rfl (by assumption) (by omega) ?_; rintro _ _ rfl _) | (refine c_drw rfl (by decide) (by decide +kernel) ?_; (repeat (first | (refine hms rfl rfl rfl ?_ ?_; (next => first | exact trivial | omega)) | refine h_skip rfl rfl rfl ?_ | (refine hmw rfl rfl rfl ?_ ?_; (next => first | exact trivial | omega)))); refine h_nil ?_) | (refine c_drp rfl (by decide) (by decide +kernel) ?_; (repeat (first | (refine p_run rfl rfl rfl ?_ ?_; (next => first | exact trivial | omega)) | refine p_skip rfl rfl rfl ?_)); refine p_nil ?_)) | (refine lxv rfl rfl rfl ?_ ?_; (next => first | exact trivial | omega)) | refine lba rfl rfl (by kernel_rfl) rfl ?_ | (refine lcv rfl rfl rfl ?_ ?_; (next => first | exact trivial | omega)) | refine lpT rfl rfl rfl rfl ?_ | refine lpF rfl rfl rfl rfl ?_ | ((fail_if_success refine l_lit true rfl rfl rfl ?_); (fail_if_success refine l_lit false rfl rfl rfl ?_); refine l_gd rfl rfl rfl ?_ ?_ <;> intro _ <;> try (exfalso; first | contradiction | omega)) | (refine c_if rfl ?_ ?_ <;> intro _ <;> try (exfalso; first | contradiction | omega)) | (refine lmw rfl rfl rfl ?_ ?_; (next => first | exact trivial | omega))) | fail)
    have hmu : muS st = muS s0 + 5 ^ q.n := by rw [hst, muS_app]; simp [muS]
    have h5 : 0 < 5 ^ q.n := Nat.pow_pos (by decide)
    have hsum2 : joinC (joinC out (agg (bcB W H cs b) (sqL q.n q.x q.y))) (aggS (bcB W H cs b) s0) = agg (bcB W H cs b) (sqL (L.length - 1) 0 0) := by
      rw [← hsum, hst, aggS_app hbp, aggS_one, join_assoc hop (agg_prp hbp _) (aggS_prp hbp _), join_comm (agg_prp hbp _) (aggS_prp hbp _)]
    have hp0 : ∀ p ∈ s0, PlOk L p := fun p hp => hpl p (by rw [hst]; exact List.mem_append_left _ hp)
    have hsd := hL.side q.n hq.n
    have hs00 := hL.side 0 hL.pos
    have hqn := hq.n
    have hqx := hq.x
    have hqy := hq.y
    refine lf rfl rfl rfl (S := [.blk p 153 [.slice A L.length c, .int .i64 (sn + 1)]]) (fun w hw ho => square_any p A c L (sn + 1) q.n q.x q.y w ho ⟨hr.h.go hw Split.au⟩ hL.pos (L.getD 0 default).w (L.getD 0 default).h rfl rfl (by omega) (by omega) (by omega) (by omega)) ?_
    rintro v S' ⟨rfl, rfl⟩
    obtain ⟨bx, hbx⟩ : ∃ bx, bx = sqB (L.getD 0 default).w (L.getD 0 default).h q.n q.x q.y := ⟨_, rfl⟩
    rw [← hbx]
    have hbx2 : bx = sqB W H q.n q.x q.y := by rw [hbx, hL.base.1, hL.base.2]
    repeat' (first | (first | (first | refine j_app ?_ | refine cc ?_ | ((first | refine lms rfl rfl rfl ?_ ?_ | refine lss rfl rfl ?_ ?_ | refine lns rfl rfl rfl ?_ ?_ | refine lap rfl rfl rfl rfl rfl ?_ rfl ?_); (next => first | exact trivial | omega); intros) | refine c_true rfl ?_ | refine c_false rfl ?_ | refine c_in_other rfl ?_ | refine l_nil ?_ | refine l_skip rfl rfl rfl ?_ | refine l_skip0 rfl rfl ?_ | refine lbd rfl rfl (by kernel_rfl) rfl ?_ | (refine lsl rfl rfl rfl rfl (by kernel_rfl) rfl rfl ?_; intros) | (refine lsl0 rfl rfl ?_; intros) | (refine lix rfl (by omega) ?_; rintro _ rfl) | (refine lixr rfl (by assumption) (by omega) ?_; rintro _ _ rfl _) | (refine c_drw rfl (by decide) (by decide +kernel) ?_; (repeat (first | (refine hms rfl rfl rfl ?_ ?_; (next => first | exact trivial | omega)) | refine h_skip rfl rfl rfl ?_ | (refine hmw rfl rfl rfl ?_ ?_; (next => first | exact trivial | omega)))); refine h_nil ?_) | (refine c_drp rfl (by decide) (by decide +kernel) ?_; (repeat (first | (refine p_run rfl rfl rfl ?_ ?_; (next => first | exact trivial | omega)) | refine p_skip rfl rfl rfl ?_)); refine p_nil ?_)) | (refine lxv rfl rfl rfl ?_ ?_; (next => first | exact trivial | omega)) | refine lba rfl rfl (by kernel_rfl) rfl ?_ | (refine lcv rfl rfl rfl ?_ ?_; (next => first | exact trivial | omega)) | refine lpT rfl rfl rfl rfl ?_ | refine lpF rfl rfl rfl rfl ?_ | ((fail_if_success refine l_lit true rfl rfl rfl ?_); (fail_if_success refine l_lit false rfl rfl rfl ?_); refine l_gd rfl rfl rfl ?_ ?_ <;> intro _ <;> try (exfalso; first | contradiction | omega)) | (refine c_if rfl ?_ ?_ <;> intro _ <;> try (exfalso; first | contradiction | omega)) | (refine lmw rfl rfl rfl ?_ ?_; (next => first | exact trivial | omega))) | fail)
    · refine c_round (s0, out, sn + 1, some ⟨b7, 0, none⟩, c6) ?_ ?_ ⟨rfl, rfl, rfl, rfl, rfl, trivial⟩ (by dsimp only; rw [Int.natCast_add]; exact Sub.au)
      · rename_i hap
        refine ⟨hp0, hop, ?_, by show sn + 1 + muS s0 ≤ _; omega⟩
        have := agg_apart (w := W) (h := H) (cs := cs) (b := b) (n := q.n) (x := q.x) (y := q.y) (by rw [← hbx2]; exact hap)
        rw [this, join_zero hop] at hsum2
        exact hsum2
      · show muS s0 < muS st; omega
    · rename_i hap hin
      obtain ⟨bL, oL, rfl, hAt⟩ := hr.at_ hL.pos
      refine c_dra rfl rfl (by decide) (by decide +kernel) ?_
      repeat' (first | (first | (first | refine j_app ?_ | refine cc ?_ | ((first | refine lms rfl rfl rfl ?_ ?_ | refine lss rfl rfl ?_ ?_ | refine lns rfl rfl rfl ?_ ?_ | refine lap rfl rfl rfl rfl rfl ?_ rfl ?_); (next => first | exact trivial | omega); intros) | refine c_true rfl ?_ | refine c_false rfl ?_ | refine c_in_other rfl ?_ | refine l_nil ?_ | refine l_skip rfl rfl rfl ?_ | refine l_skip0 rfl rfl ?_ | refine lbd rfl rfl (by kernel_rfl) rfl ?_ | (refine lsl rfl rfl rfl rfl (by kernel_rfl) rfl rfl ?_; intros) | (refine lsl0 rfl rfl ?_; intros) | (refine lix rfl (by omega) ?_; rintro _ rfl) | (refine lixr rfl (by assumption) (by omega) ?_; rintro _ _ rfl _) | (refine c_drw rfl (by decide) (by decide +kernel) ?_; (repeat (first | (refine hms rfl rfl rfl ?_ ?_; (next => first | exact trivial | omega)) | refine h_skip rfl rfl rfl ?_ | (refine hmw rfl rfl rfl ?_ ?_; (next => first | exact trivial | omega)))); refine h_nil ?_) | (refine c_drp rfl (by decide) (by decide +kernel) ?_; (repeat (first | (refine p_run rfl rfl rfl ?_ ?_; (next => first | exact trivial | omega)) | refine p_skip rfl rfl rfl ?_)); refine p_nil ?_)) | (refine lxv rfl rfl rfl ?_ ?_; (next => first | exact trivial | omega)) | refine lba rfl rfl (by kernel_rfl) rfl ?_ | (refine lcv rfl rfl rfl ?_ ?_; (next => first | exact trivial | omega)) | refine lpT rfl rfl rfl rfl ?_ | refine lpF rfl rfl rfl rfl ?_ | ((fail_if_success refine l_lit true rfl rfl rfl ?_); (fail_if_success refine l_lit false rfl rfl rfl ?_); refine l_gd rfl rfl rfl ?_ ?_ <;> intro _ <;> try (exfalso; first | contradiction | omega)) | (refine c_if rfl ?_ ?_ <;> intro _ <;> try (exfalso; first | contradiction | omega)) | (refine lmw rfl rfl rfl ?_ ?_; (next => first | exact trivial | omega))) | (first | (refine hms rfl rfl rfl ?_ ?_; (next => first | exact trivial | omega)) | refine hbd rfl rfl (by kernel_rfl) rfl ?_ | refine h_pT rfl rfl rfl rfl ?_ | refine h_pF rfl rfl rfl rfl ?_ | refine h_skip rfl rfl rfl ?_ | (refine hcv rfl rfl rfl ?_ ?_; (next => first | exact trivial | omega)) | ((fail_if_success refine h_lit true rfl rfl rfl ?_); (fail_if_success refine h_lit false rfl rfl rfl ?_); refine h_gd rfl rfl rfl ?_ ?_ <;> intro _ <;> try (exfalso; first | contradiction | omega)) | (refine hmw rfl rfl rfl ?_ ?_; (next => first | exact trivial | omega)) | refine h_nil ?_) | (first | (refine x_run rfl rfl rfl ?_ ?_; (next => first | exact trivial | omega)) | refine x_pT rfl rfl rfl rfl ?_ | refine x_pF rfl rfl rfl rfl ?_ | refine x_skip rfl rfl rfl ?_ | ((fail_if_success refine x_lit true rfl rfl rfl ?_); (fail_if_success refine x_lit false rfl rfl rfl ?_); refine x_gd rfl rfl rfl ?_ ?_ <;> intro _ <;> try (exfalso; first | contradiction | omega)) | refine x_nil ?_) | (first | refine t_done ?_ | refine t_all _ rfl rfl ?_ | refine allP_cons ?_ ?_ | exact allP_nil | refine t_last (by decide +kernel) ?_ | refine t_next Sub.au ?_) | refine c_drw rfl (by decide) (by decide +kernel) ?_ | refine c_dra rfl rfl (by decide) (by decide +kernel) ?_ | fail)
      have hat := hrs q.n hq.n
      have hcel := hL.cel q.n hq.n
      have hcl : (L.getD q.n default).cs.length ≤ 1000000 := by rw [hsd.2.2]; have := Nat.mul_le_mul hsd.1 hsd.2.1; omega
      refine lfv (v := .agg (celE (atL (L.getD q.n default).w (L.getD q.n default).h (L.getD q.n default).cs q.x q.y)).toArray) rfl rfl rfl (fun w hw => at_any (L.getD q.n default).w (L.getD q.n default).h (L.getD q.n default).A (L.getD q.n default).c (L.getD q.n default).cs q.x q.y w ⟨hat.h.go hw (Split.nil _)⟩ (by rw [hsd.2.2]; push_cast; rfl) hcl) ?_
      have hco : CelOk (atL (L.getD q.n default).w (L.getD q.n default).h (L.getD q.n default).cs q.x q.y) := atL_ok hcel _ _
      have hac : atL (L.getD q.n default).w (L.getD q.n default).h (L.getD q.n default).cs q.x q.y = agg (bcB W H cs b) (sqL q.n q.x q.y) := by
        rw [hL.cell q.n hq.n, agg_in (by rw [← hbx2]; exact hin)]
      rw [← hac] at hsum2
      have hpa : Prp (atL (L.getD q.n default).w (L.getD q.n default).h (L.getD q.n default).cs q.x q.y) := by rw [hac]; exact agg_prp hbp _
      generalize atL (L.getD q.n default).w (L.getD q.n default).h (L.getD q.n default).cs q.x q.y = ac at *
      repeat' (first | (first | (first | refine j_app ?_ | refine cc ?_ | ((first | refine lms rfl rfl rfl ?_ ?_ | refine lss rfl rfl ?_ ?_ | refine lns rfl rfl rfl ?_ ?_ | refine lap rfl rfl rfl rfl rfl ?_ rfl ?_); (next => first | exact trivial | omega); intros) | refine c_true rfl ?_ | refine c_false rfl ?_ | refine c_in_other rfl ?_ | refine l_nil ?_ | refine l_skip rfl rfl rfl ?_ | refine l_skip0 rfl rfl ?_ | refine lbd rfl rfl (by kernel_rfl) rfl ?_ | (refine lsl rfl rfl rfl rfl (by kernel_rfl) rfl rfl ?_; intros) | (refine lsl0 rfl rfl ?_; intros) | (refine lix rfl (by omega) ?_; rintro _ rfl) | (refine lixr rfl (by assumption) (by omega) ?_; rintro _ _ rfl _) | (refine c_drw rfl (by decide) (by decide +kernel) ?_; (repeat (first | (refine hms rfl rfl rfl ?_ ?_; (next => first | exact trivial | omega)) | refine h_skip rfl rfl rfl ?_ | (refine hmw rfl rfl rfl ?_ ?_; (next => first | exact trivial | omega)))); refine h_nil ?_) | (refine c_drp rfl (by decide) (by decide +kernel) ?_; (repeat (first | (refine p_run rfl rfl rfl ?_ ?_; (next => first | exact trivial | omega)) | refine p_skip rfl rfl rfl ?_)); refine p_nil ?_)) | (refine lxv rfl rfl rfl ?_ ?_; (next => first | exact trivial | omega)) | refine lba rfl rfl (by kernel_rfl) rfl ?_ | (refine lcv rfl rfl rfl ?_ ?_; (next => first | exact trivial | omega)) | refine lpT rfl rfl rfl rfl ?_ | refine lpF rfl rfl rfl rfl ?_ | ((fail_if_success refine l_lit true rfl rfl rfl ?_); (fail_if_success refine l_lit false rfl rfl rfl ?_); refine l_gd rfl rfl rfl ?_ ?_ <;> intro _ <;> try (exfalso; first | contradiction | omega)) | (refine c_if rfl ?_ ?_ <;> intro _ <;> try (exfalso; first | contradiction | omega)) | (refine lmw rfl rfl rfl ?_ ?_; (next => first | exact trivial | omega))) | (first | (refine hms rfl rfl rfl ?_ ?_; (next => first | exact trivial | omega)) | refine hbd rfl rfl (by kernel_rfl) rfl ?_ | refine h_pT rfl rfl rfl rfl ?_ | refine h_pF rfl rfl rfl rfl ?_ | refine h_skip rfl rfl rfl ?_ | (refine hcv rfl rfl rfl ?_ ?_; (next => first | exact trivial | omega)) | ((fail_if_success refine h_lit true rfl rfl rfl ?_); (fail_if_success refine h_lit false rfl rfl rfl ?_); refine h_gd rfl rfl rfl ?_ ?_ <;> intro _ <;> try (exfalso; first | contradiction | omega)) | (refine hmw rfl rfl rfl ?_ ?_; (next => first | exact trivial | omega)) | refine h_nil ?_) | (first | (refine x_run rfl rfl rfl ?_ ?_; (next => first | exact trivial | omega)) | refine x_pT rfl rfl rfl rfl ?_ | refine x_pF rfl rfl rfl rfl ?_ | refine x_skip rfl rfl rfl ?_ | ((fail_if_success refine x_lit true rfl rfl rfl ?_); (fail_if_success refine x_lit false rfl rfl rfl ?_); refine x_gd rfl rfl rfl ?_ ?_ <;> intro _ <;> try (exfalso; first | contradiction | omega)) | refine x_nil ?_) | (first | refine t_done ?_ | refine t_all _ rfl rfl ?_ | refine allP_cons ?_ ?_ | exact allP_nil | refine t_last (by decide +kernel) ?_ | refine t_next Sub.au ?_) | refine c_drw rfl (by decide) (by decide +kernel) ?_ | refine c_dra rfl rfl (by decide) (by decide +kernel) ?_ | fail)
      have hoo : CelOk out := hout
      refine lfv (v := .agg (celE (jTo [out, ac] 2)).toArray) rfl rfl rfl (fun w hw => join_any _ _ [out, ac] w ⟨Ro.row hw (Split.nil _) (by first | exact (Has.here _ _) | exact (Has.there _ (Has.here _ _)) | exact (Has.there _ (Has.there _ (Has.here _ _))) | exact (Has.there _ (Has.there _ (Has.there _ (Has.here _ _)))) | exact (Has.there _ (Has.there _ (Has.there _ (Has.there _ (Has.here _ _))))) | exact (Has.there _ (Has.there _ (Has.there _ (Has.there _ (Has.there _ (Has.here _ _)))))) | exact (Has.there _ (Has.there _ (Has.there _ (Has.there _ (Has.there _ (Has.there _ (Has.here _ _))))))) | exact (Has.there _ (Has.there _ (Has.there _ (Has.there _ (Has.there _ (Has.there _ (Has.there _ (Has.here _ _)))))))) | exact (Has.there _ (Has.there _ (Has.there _ (Has.there _ (Has.there _ (Has.there _ (Has.there _ (Has.there _ (Has.here _ _))))))))) | exact (Has.there _ (Has.there _ (Has.there _ (Has.there _ (Has.there _ (Has.there _ (Has.there _ (Has.there _ (Has.there _ (Has.here _ _)))))))))) | exact (Has.there _ (Has.there _ (Has.there _ (Has.there _ (Has.there _ (Has.there _ (Has.there _ (Has.there _ (Has.there _ (Has.there _ (Has.here _ _))))))))))) | exact (Has.there _ (Has.there _ (Has.there _ (Has.there _ (Has.there _ (Has.there _ (Has.there _ (Has.there _ (Has.there _ (Has.there _ (Has.there _ (Has.here _ _)))))))))))) | exact (Has.there _ (Has.there _ (Has.there _ (Has.there _ (Has.there _ (Has.there _ (Has.there _ (Has.there _ (Has.there _ (Has.there _ (Has.there _ (Has.there _ (Has.here _ _))))))))))))) | exact (Has.there _ (Has.there _ (Has.there _ (Has.there _ (Has.there _ (Has.there _ (Has.there _ (Has.there _ (Has.there _ (Has.there _ (Has.there _ (Has.there _ (Has.there _ (Has.here _ _)))))))))))))))⟩ (by simp) (fun c hc => (by
        simp only [List.mem_cons, List.not_mem_nil, or_false] at hc
        rcases hc with rfl | rfl
        · exact hoo
        · exact hco))) ?_
      have hjj : jTo [out, ac] 2 = joinC out ac := by
        simp only [jTo, List.getD, List.getElem?_cons_zero, List.getElem?_cons_succ, Option.getD_some]
        rw [zero_join hop]
      rw [← hjj] at hsum2
      have hpj : Prp (jTo [out, ac] 2) := by rw [hjj]; exact prp_join hop hpa
      generalize hj : jTo [out, ac] 2 = oc at *
      repeat' (first | (first | (first | refine j_app ?_ | refine cc ?_ | ((first | refine lms rfl rfl rfl ?_ ?_ | refine lss rfl rfl ?_ ?_ | refine lns rfl rfl rfl ?_ ?_ | refine lap rfl rfl rfl rfl rfl ?_ rfl ?_); (next => first | exact trivial | omega); intros) | refine c_true rfl ?_ | refine c_false rfl ?_ | refine c_in_other rfl ?_ | refine l_nil ?_ | refine l_skip rfl rfl rfl ?_ | refine l_skip0 rfl rfl ?_ | refine lbd rfl rfl (by kernel_rfl) rfl ?_ | (refine lsl rfl rfl rfl rfl (by kernel_rfl) rfl rfl ?_; intros) | (refine lsl0 rfl rfl ?_; intros) | (refine lix rfl (by omega) ?_; rintro _ rfl) | (refine lixr rfl (by assumption) (by omega) ?_; rintro _ _ rfl _) | (refine c_drw rfl (by decide) (by decide +kernel) ?_; (repeat (first | (refine hms rfl rfl rfl ?_ ?_; (next => first | exact trivial | omega)) | refine h_skip rfl rfl rfl ?_ | (refine hmw rfl rfl rfl ?_ ?_; (next => first | exact trivial | omega)))); refine h_nil ?_) | (refine c_drp rfl (by decide) (by decide +kernel) ?_; (repeat (first | (refine p_run rfl rfl rfl ?_ ?_; (next => first | exact trivial | omega)) | refine p_skip rfl rfl rfl ?_)); refine p_nil ?_)) | (refine lxv rfl rfl rfl ?_ ?_; (next => first | exact trivial | omega)) | refine lba rfl rfl (by kernel_rfl) rfl ?_ | (refine lcv rfl rfl rfl ?_ ?_; (next => first | exact trivial | omega)) | refine lpT rfl rfl rfl rfl ?_ | refine lpF rfl rfl rfl rfl ?_ | ((fail_if_success refine l_lit true rfl rfl rfl ?_); (fail_if_success refine l_lit false rfl rfl rfl ?_); refine l_gd rfl rfl rfl ?_ ?_ <;> intro _ <;> try (exfalso; first | contradiction | omega)) | (refine c_if rfl ?_ ?_ <;> intro _ <;> try (exfalso; first | contradiction | omega)) | (refine lmw rfl rfl rfl ?_ ?_; (next => first | exact trivial | omega))) | (first | (refine hms rfl rfl rfl ?_ ?_; (next => first | exact trivial | omega)) | refine hbd rfl rfl (by kernel_rfl) rfl ?_ | refine h_pT rfl rfl rfl rfl ?_ | refine h_pF rfl rfl rfl rfl ?_ | refine h_skip rfl rfl rfl ?_ | (refine hcv rfl rfl rfl ?_ ?_; (next => first | exact trivial | omega)) | ((fail_if_success refine h_lit true rfl rfl rfl ?_); (fail_if_success refine h_lit false rfl rfl rfl ?_); refine h_gd rfl rfl rfl ?_ ?_ <;> intro _ <;> try (exfalso; first | contradiction | omega)) | (refine hmw rfl rfl rfl ?_ ?_; (next => first | exact trivial | omega)) | refine h_nil ?_) | (first | (refine x_run rfl rfl rfl ?_ ?_; (next => first | exact trivial | omega)) | refine x_pT rfl rfl rfl rfl ?_ | refine x_pF rfl rfl rfl rfl ?_ | refine x_skip rfl rfl rfl ?_ | ((fail_if_success refine x_lit true rfl rfl rfl ?_); (fail_if_success refine x_lit false rfl rfl rfl ?_); refine x_gd rfl rfl rfl ?_ ?_ <;> intro _ <;> try (exfalso; first | contradiction | omega)) | refine x_nil ?_) | (first | refine t_done ?_ | refine t_all _ rfl rfl ?_ | refine allP_cons ?_ ?_ | exact allP_nil | refine t_last (by decide +kernel) ?_ | refine t_next Sub.au ?_) | refine c_drw rfl (by decide) (by decide +kernel) ?_ | refine c_dra rfl rfl (by decide) (by decide +kernel) ?_ | fail)
      all_goals refine c_round (s0, oc, sn + 1, some ⟨b7, 0, none⟩, c6) ?_ ?_ ⟨rfl, rfl, rfl, rfl, rfl, trivial⟩ (by dsimp only; rw [Int.natCast_add]; exact Sub.au)
      all_goals first
        | (show muS s0 < muS st; omega)
        | exact ⟨hp0, hpj, hsum2, by show sn + 1 + muS s0 ≤ _; omega⟩
    · rename_i hap hin
      obtain ⟨n', hn'⟩ : ∃ n', q.n = n' + 1 := by
        cases hqz : q.n with
        | succ k => exact ⟨k, rfl⟩
        | zero =>
          exfalso
          rw [hqz] at hqx hqy hbx
          have e0 : bx = ⟨q.x, q.y, q.x, q.y⟩ := by
            rw [hbx]
            unfold sqB
            simp only [Nat.pow_zero, Nat.mul_one, Bx.mk.injEq, true_and]
            omega
          rw [e0] at hap hin
          unfold apartB at hap
          unfold inB at hin
          simp only [decide_eq_true_eq] at hap hin
          omega
      rw [hn']
      refine lf rfl rfl rfl (S := [.blk p 153 [.slice A L.length c, .int .i64 (sn + 1)]]) (fun w hw ho => below_any p A c L (sn + 1) n' q.x q.y w ho ⟨hr.h.go hw Split.au⟩ (by omega) (L.getD n' default).w (L.getD n' default).h rfl rfl (by omega) (by omega) (by omega)) ?_
      rintro v S' ⟨A2, c2, rfl, rfl⟩
      have hbl := blw_len n' (L.getD n' default).w (L.getD n' default).h q.x q.y 4
      have hbm := blw_mem (n := n') (lw := (L.getD n' default).w) (lh := (L.getD n' default).h) (x := q.x) (y := q.y) 4
      have hdm := hL.dim n' (by omega)
      have hbs := aggS_blw (w := W) (h := H) (cs := cs) hL.prp (b := b) (n := n') (x := q.x) (y := q.y) (lw := (L.getD n' default).w) (lh := (L.getD n' default).h) hdm.1 hdm.2
      generalize blw n' (L.getD n' default).w (L.getD n' default).h q.x q.y 4 = bl at *
      have hmb : muS bl ≤ 4 * 5 ^ n' := by
        rw [muS_same bl (fun c hc => (hbm c hc).1)]
        exact Nat.mul_le_mul_right _ hbl
      have h5n : 5 ^ q.n = 5 * 5 ^ n' := by rw [hn', Nat.pow_succ, Nat.mul_comm]
      have h5p : 0 < 5 ^ n' := Nat.pow_pos (by decide)
      have hmm : muS (s0 ++ bl) = muS s0 + muS bl := muS_app s0 bl
      repeat' (first | (first | (first | refine j_app ?_ | refine cc ?_ | ((first | refine lms rfl rfl rfl ?_ ?_ | refine lss rfl rfl ?_ ?_ | refine lns rfl rfl rfl ?_ ?_ | refine lap rfl rfl rfl rfl rfl ?_ rfl ?_); (next => first | exact trivial | omega); intros) | refine c_true rfl ?_ | refine c_false rfl ?_ | refine c_in_other rfl ?_ | refine l_nil ?_ | refine l_skip rfl rfl rfl ?_ | refine l_skip0 rfl rfl ?_ | refine lbd rfl rfl (by kernel_rfl) rfl ?_ | (refine lsl rfl rfl rfl rfl (by kernel_rfl) rfl rfl ?_; intros) | (refine lsl0 rfl rfl ?_; intros) | (refine lix rfl (by omega) ?_; rintro _ rfl) | (refine lixr rfl (by assumption) (by omega) ?_; rintro _ _ rfl _) | (refine c_drw rfl (by decide) (by decide +kernel) ?_; (repeat (first | (refine hms rfl rfl rfl ?_ ?_; (next => first | exact trivial | omega)) | refine h_skip rfl rfl rfl ?_ | (refine hmw rfl rfl rfl ?_ ?_; (next => first | exact trivial | omega)))); refine h_nil ?_) | (refine c_drp rfl (by decide) (by decide +kernel) ?_; (repeat (first | (refine p_run rfl rfl rfl ?_ ?_; (next => first | exact trivial | omega)) | refine p_skip rfl rfl rfl ?_)); refine p_nil ?_)) | (refine lxv rfl rfl rfl ?_ ?_; (next => first | exact trivial | omega)) | refine lba rfl rfl (by kernel_rfl) rfl ?_ | (refine lcv rfl rfl rfl ?_ ?_; (next => first | exact trivial | omega)) | refine lpT rfl rfl rfl rfl ?_ | refine lpF rfl rfl rfl rfl ?_ | ((fail_if_success refine l_lit true rfl rfl rfl ?_); (fail_if_success refine l_lit false rfl rfl rfl ?_); refine l_gd rfl rfl rfl ?_ ?_ <;> intro _ <;> try (exfalso; first | contradiction | omega)) | (refine c_if rfl ?_ ?_ <;> intro _ <;> try (exfalso; first | contradiction | omega)) | (refine lmw rfl rfl rfl ?_ ?_; (next => first | exact trivial | omega))) | fail)
      rename_i A3 c3
      refine c_round (s0 ++ bl, out, sn + 1, A3, c3) ⟨fun p hp => ?_, hop, ?_, ?_⟩ ?_ ⟨rfl, rfl, rfl, rfl, rfl, trivial⟩ (by dsimp only; rw [Int.natCast_add]; exact Sub.au)
      · rcases List.mem_append.1 hp with hp | hp
        · exact hp0 p hp
        · obtain ⟨g1, g2, g3⟩ := hbm p hp
          exact ⟨by omega, by rw [g1]; exact g2, by rw [g1]; exact g3⟩
      · show joinC out (aggS (bcB W H cs b) (s0 ++ bl)) = _
        rw [aggS_app hbp, hbs, ← hn', ← hsum2, join_assoc hop (agg_prp hbp _) (aggS_prp hbp _), join_comm (agg_prp hbp _) (aggS_prp hbp _)]
      · show sn + 1 + muS (s0 ++ bl) ≤ _; omega
      · show muS (s0 ++ bl) < muS st; omega
  · refine j_outK (S' := [.blk p 153 [.slice A L.length c, .int .i64 sn]]) Sub.au ?_
    (repeat (first | refine k_tmp rfl ?_ | refine k_cell rfl ?_)); refine k_nil ?_
    have hst0 : st = [] := List.eq_nil_of_length_eq_zero (by omega)
    subst hst0
    have e0 : aggS (bcB W H cs b) [] = ⟨0, 0, 0⟩ := rfl
    rw [e0, join_zero hop] at hsum
    exact ⟨sn, by rw [← hsum]; rfl, rfl⟩
end Go.Proofs.Ytokoopdkofgabaa
