/- Layer 8's statements: the walk of TileCuts. -/
import Derived.Test.YtokoopdkofgabaaTile5
namespace Go.Proofs.Ytokoopdkofgabaa
open Go.RowKit
theorem j_outC {P : Program} {N : Nat} {w0 : World} {W : Nat → Prop} {σ : List (Nat × Value)} {H : List HE} {fn : Func} {t : Tmp} {b ty sz bs : Nat} {z : Value} {dd : TypeDesc} {cs : List Value} {k : HE → List HE} {S' : List HE} {Rl : Value → List HE → Prop} [Und P ty dd] [hd : YesAgg dd] [Inf P ty sz bs z] [hb : At b H ty cs k]
    (hres : fn.results = #[.cell t ty]) (hv : look σ t = some (.pointer (some ⟨b, 0, none⟩))) (hl : cs.length = sz) (hs : Sub S' H) (hR : Rl (.agg cs.toArray) S') : J N [] w0 W σ H (bodyPost P fn (fun e w' => ∃ v S', e = .returned v ∧ Rl v S' ∧ St w0 W S' w') .ret) :=
  fun a w ha hw => by
    obtain ⟨R, h1, -⟩ := hb.h
    have hg : HE.holds w (.blk b ty cs) := (hw.perm h1.perm).own.holds _ (List.mem_cons_self ..)
    refine ⟨ha.defers, _, results_cell_row (d := dd) hres _ _ b ty cs.toArray (0, 0) (by rw [getD_of ha hv]) hg Und.h ?_ (by simpa [hl] using (Inf.size (P := P) (t := ty))), _, S', rfl, hR, hw.sub hs⟩
    have := hd.h
    cases dd <;> simp_all [aggB]
theorem l_skipU {F : Fence} {n : Nat} {P : Program} {N : Nat} {ds : List Deferred} {w0 : World} {W : Nat → Prop} {σ : List (Nat × Value)} {H : List HE} {Q : Exit → Act → World → Prop} {ops : Array Oper} {rest : List Oper} {o : Oper} [hF : Wide F] {d t j : Nat} {b : Bool}
    (hg : o.guard = some (j, b)) (ht : (ops[j]?).bind (·.dst) = some t) (hv : look σ t = some undef) (hd : o.dst = some d) (hdN : Nat.blt d N = true) (h : J N ds w0 W ((d, undef) :: σ) H (wpListIn F n P ops Q rest)) : J N ds w0 W σ H (wpListIn F n P ops Q (o :: rest)) :=
  fun a w ha hs => wpListIn_step fun K hK => by
    have hw : Region.wanted o (yielded ops a.tmps) = false := by
      unfold Region.wanted
      rw [hg]
      simp only [yielded, ht, Option.bind_some, ha.at_ t _ hv]
      rfl
    rw [hw]
    refine ⟨fun f _ => hF.out.fn f, hK _ _ ?_⟩
    rw [hd]
    exact h _ _ (ha.put d undef (by simpa using hdN)) hs
/-- Two ways join: what holds at the join. -/
theorem c_join {F : Fence} {n : Nat} {P : Program} {N : Nat} {ds : List Deferred} {w0 : World} {W : Nat → Prop} {σ : List (Nat × Value)} {H : List HE} {Q : Exit → Act → World → Prop} {x y : Code} {X : Type} (R : X → Prop) (σI : X → List (Nat × Value)) (HI : X → List HE)
    (hx : J N ds w0 W σ H (x.wpIn F n P (Exit.then (fun a w => ∃ z, R z ∧ True ∧ Tm N ds (σI z) a ∧ St w0 W (HI z) w) Q))) (hy : ∀ z, R z → J N ds w0 W (σI z) (HI z) (y.wpIn F n P Q)) : J N ds w0 W σ H ((Code.seq x y).wpIn F n P Q) :=
  c_seq (hx.mono fun a w h => wpIn_mono h (by
    rintro e a w h
    cases e with
    | normal => obtain ⟨z, h1, -, h2, h3⟩ := h; exact hy z h1 a w h2 h3
    | _ => exact h))
def fieldV (z : List Int) (i : Nat) : Int := if i < z.length then z.getD i 0 else if 0 < z.length then IntKind.i16.wrap ((z.getD (i % z.length) 0).tdiv 2) else ((i % 7 : Nat) : Int)
def fieldF (z : List Int) (m : Nat) : List Int := (List.range m).map (fieldV z)
theorem fieldF_len (z : List Int) (m : Nat) : (fieldF z m).length = m := by simp [fieldF]
theorem fieldF_succ (z : List Int) (m : Nat) : fieldF z (m + 1) = fieldF z m ++ [fieldV z m] := by simp [fieldF, List.range_succ]
attribute [local irreducible] OJ J HdJ Code.wpIn wpListIn Oper.wpIn bodyPost CallsIn Does
set_option maxRecDepth 4000
set_option maxHeartbeats 16000000 in
theorem field_any (a b : Int) (ha : InR .u8 a) (hb : InR .u8 b) (W H : Nat) (hW : 2 + a % 39 = W) (hH : 2 + b % 39 = H) (A : Option Addr) (c : Nat) (z : List Int) (w : World) (hr : RoA w (blocks []) A z.length c 1 (ints .i16 z)) (hm : z.length < 1000000) :
    Does Try.prog 24 [.int .u8 a, .int .u8 b, .slice A z.length c] [] w (fun v S' => ∃ A' c', v = .agg #[.int .i64 W, .int .i64 H, .slice A' (fieldF z (W * H)).length c'] ∧ S' = [.row (.slice A' (fieldF z (W * H)).length c') 79 1 (fieldF z (W * H)).length (ints .i16 (fieldF z (W * H)))]) := by
  have ha1 : 0 ≤ a ∧ a ≤ 255 := ha
  have hb1 : 0 ≤ b ∧ b ≤ 255 := hb
  have hW2 : 2 ≤ W ∧ W ≤ 40 := by omega
  have hH2 : 2 ≤ H ∧ H ≤ 40 := by omega
  have hWH : W * H ≤ 1600 := by have := Nat.mul_le_mul hW2.2 hH2.2; omega
  have hcast : (W : Int) * H = ((W * H : Nat) : Int) := by push_cast; rfl
  have hmul : 0 ≤ (W : Int) * H ∧ (W : Int) * H ≤ 1600 := by rw [hcast]; omega
  refine does_of Try.func24 rfl Try.ntmps24 rfl ⟨by simp, .nil⟩ (fun n => ?_)
  simp only [slots]
  refine j_nil (e := 79) (size := 1) ?_
  repeat (first | refine j_app ?_ | refine cc ?_ | ((first | refine lms rfl rfl rfl ?_ ?_ | refine lss rfl rfl ?_ ?_ | refine lns rfl rfl rfl ?_ ?_ | refine lap rfl rfl rfl rfl rfl ?_ rfl ?_); (next => first | exact trivial | omega); intros) | refine c_true rfl ?_ | refine c_false rfl ?_ | refine c_in_other rfl ?_ | refine l_nil ?_ | refine l_skip rfl rfl rfl ?_ | refine l_skip0 rfl rfl ?_ | refine lbd rfl rfl (by kernel_rfl) rfl ?_ | (refine lsl rfl rfl rfl rfl (by kernel_rfl) rfl rfl ?_; intros) | (refine lsl0 rfl rfl ?_; intros) | (refine lix rfl (by omega) ?_; rintro _ rfl) | (refine lixr rfl (by assumption) (by omega) ?_; rintro _ _ rfl _) | (refine c_drw rfl (by decide) (by decide +kernel) ?_; (repeat (first | (refine hms rfl rfl rfl ?_ ?_; (next => first | exact trivial | omega)) | refine h_skip rfl rfl rfl ?_ | (refine hmw rfl rfl rfl ?_ ?_; (next => first | exact trivial | omega)))); refine h_nil ?_) | (refine c_drp rfl (by decide) (by decide +kernel) ?_; (repeat (first | (refine p_run rfl rfl rfl ?_ ?_; (next => first | exact trivial | omega)) | refine p_skip rfl rfl rfl ?_)); refine p_nil ?_) | (refine lmw rfl rfl rfl ?_ ?_; (next => first | exact trivial | omega)) | refine lpT rfl rfl rfl rfl ?_ | refine lpF rfl rfl rfl rfl ?_)
  rw [hW, hH]
  rename_i b6 b7
  refine c_loop (X := Nat × Option Addr × Nat) (fun q => q.1 ≤ W * H) (fun q => [(2, .slice A z.length c), (6, .pointer (some ⟨b6, 0, none⟩)), (7, .pointer (some ⟨b7, 0, none⟩)), (8, .int .i64 q.1)])
    (fun q => [.blk b7 50 [.int .i64 W, .int .i64 H, .slice q.2.1 (fieldF z q.1).length q.2.2], .blk b6 50 [.int .i64 0, .int .i64 0, .slice none 0 0], .row (.slice q.2.1 (fieldF z q.1).length q.2.2) 79 1 (fieldF z q.1).length (ints .i16 (fieldF z q.1))]) (fun q => W * H - q.1) (0, none, 0) (by simp) ⟨rfl, rfl, rfl, rfl, trivial⟩ (Sub.refl _) ?_
  rintro ⟨i, A1, c1⟩ hi
  simp only at hi ⊢
  have hfl := fieldF_len z i
  have hfs := fieldF_succ z i
  repeat (first | refine j_app ?_ | refine cc ?_ | ((first | refine lms rfl rfl rfl ?_ ?_ | refine lss rfl rfl ?_ ?_ | refine lns rfl rfl rfl ?_ ?_ | refine lap rfl rfl rfl rfl rfl ?_ rfl ?_); (next => first | exact trivial | omega); intros) | refine c_true rfl ?_ | refine c_false rfl ?_ | refine c_in_other rfl ?_ | refine l_nil ?_ | refine l_skip rfl rfl rfl ?_ | refine l_skip0 rfl rfl ?_ | refine lbd rfl rfl (by kernel_rfl) rfl ?_ | (refine lsl rfl rfl rfl rfl (by kernel_rfl) rfl rfl ?_; intros) | (refine lsl0 rfl rfl ?_; intros) | (refine lix rfl (by omega) ?_; rintro _ rfl) | (refine lixr rfl (by assumption) (by omega) ?_; rintro _ _ rfl _) | (refine c_drw rfl (by decide) (by decide +kernel) ?_; (repeat (first | (refine hms rfl rfl rfl ?_ ?_; (next => first | exact trivial | omega)) | refine h_skip rfl rfl rfl ?_ | (refine hmw rfl rfl rfl ?_ ?_; (next => first | exact trivial | omega)))); refine h_nil ?_) | (refine c_drp rfl (by decide) (by decide +kernel) ?_; (repeat (first | (refine p_run rfl rfl rfl ?_ ?_; (next => first | exact trivial | omega)) | refine p_skip rfl rfl rfl ?_)); refine p_nil ?_) | (refine lmw rfl rfl rfl ?_ ?_; (next => first | exact trivial | omega)) | refine lpT rfl rfl rfl rfl ?_ | refine lpF rfl rfl rfl rfl ?_)
  refine c_cond rfl (fun h => ?_) (fun h => ?_)
  · have hlt : i < W * H := by have := of_decide_eq_true h; omega
    repeat (first | refine j_app ?_ | refine cc ?_ | ((first | refine lms rfl rfl rfl ?_ ?_ | refine lss rfl rfl ?_ ?_ | refine lns rfl rfl rfl ?_ ?_ | refine lap rfl rfl rfl rfl rfl ?_ rfl ?_); (next => first | exact trivial | omega); intros) | refine c_true rfl ?_ | refine c_false rfl ?_ | refine c_in_other rfl ?_ | refine l_nil ?_ | refine l_skip rfl rfl rfl ?_ | refine l_skip0 rfl rfl ?_ | refine lbd rfl rfl (by kernel_rfl) rfl ?_ | (refine lsl rfl rfl rfl rfl (by kernel_rfl) rfl rfl ?_; intros) | (refine lsl0 rfl rfl ?_; intros) | (refine lix rfl (by omega) ?_; rintro _ rfl) | (refine lixr rfl (by assumption) (by omega) ?_; rintro _ _ rfl _) | (refine c_drw rfl (by decide) (by decide +kernel) ?_; (repeat (first | (refine hms rfl rfl rfl ?_ ?_; (next => first | exact trivial | omega)) | refine h_skip rfl rfl rfl ?_ | (refine hmw rfl rfl rfl ?_ ?_; (next => first | exact trivial | omega)))); refine h_nil ?_) | (refine c_drp rfl (by decide) (by decide +kernel) ?_; (repeat (first | (refine p_run rfl rfl rfl ?_ ?_; (next => first | exact trivial | omega)) | refine p_skip rfl rfl rfl ?_)); refine p_nil ?_) | (refine lmw rfl rfl rfl ?_ ?_; (next => first | exact trivial | omega)) | refine lpT rfl rfl rfl rfl ?_ | refine lpF rfl rfl rfl rfl ?_)
    refine c_cond rfl (fun h2 => ?_) (fun h2 => ?_)
    · have h2' : i < z.length := by have := of_decide_eq_true h2; omega
      have hfv : fieldV z i = z.getD i 0 := if_pos h2'
      obtain ⟨bA, oA, rfl, hA⟩ := hr.at_ (by omega : 0 < z.length)
      rw [hfv] at hfs
      repeat (first | refine j_app ?_ | refine cc ?_ | ((first | refine lms rfl rfl rfl ?_ ?_ | refine lss rfl rfl ?_ ?_ | refine lns rfl rfl rfl ?_ ?_ | refine lap rfl rfl rfl rfl rfl ?_ rfl ?_); (next => first | exact trivial | omega); intros) | refine c_true rfl ?_ | refine c_false rfl ?_ | refine c_in_other rfl ?_ | refine l_nil ?_ | refine l_skip rfl rfl rfl ?_ | refine l_skip0 rfl rfl ?_ | refine lbd rfl rfl (by kernel_rfl) rfl ?_ | (refine lsl rfl rfl rfl rfl (by kernel_rfl) rfl rfl ?_; intros) | (refine lsl0 rfl rfl ?_; intros) | (refine lix rfl (by omega) ?_; rintro _ rfl) | (refine lixr rfl (by assumption) (by omega) ?_; rintro _ _ rfl _) | (refine c_drw rfl (by decide) (by decide +kernel) ?_; (repeat (first | (refine hms rfl rfl rfl ?_ ?_; (next => first | exact trivial | omega)) | refine h_skip rfl rfl rfl ?_ | (refine hmw rfl rfl rfl ?_ ?_; (next => first | exact trivial | omega)))); refine h_nil ?_) | (refine c_drp rfl (by decide) (by decide +kernel) ?_; (repeat (first | (refine p_run rfl rfl rfl ?_ ?_; (next => first | exact trivial | omega)) | refine p_skip rfl rfl rfl ?_)); refine p_nil ?_) | (refine lmw rfl rfl rfl ?_ ?_; (next => first | exact trivial | omega)) | refine lpT rfl rfl rfl rfl ?_ | refine lpF rfl rfl rfl rfl ?_)
      rename_i A2 c2
      exact c_round (i + 1, A2, c2) (by show i + 1 ≤ _; omega) (by show _ - (i + 1) < _ - i; omega) ⟨rfl, rfl, rfl, by simp [look], trivial⟩ (by simp only [hfs]; exact Sub.au)
    · have h2' : ¬ i < z.length := by have := of_decide_eq_false h2; omega
      repeat (first | refine j_app ?_ | refine cc ?_ | ((first | refine lms rfl rfl rfl ?_ ?_ | refine lss rfl rfl ?_ ?_ | refine lns rfl rfl rfl ?_ ?_ | refine lap rfl rfl rfl rfl rfl ?_ rfl ?_); (next => first | exact trivial | omega); intros) | refine c_true rfl ?_ | refine c_false rfl ?_ | refine c_in_other rfl ?_ | refine l_nil ?_ | refine l_skip rfl rfl rfl ?_ | refine l_skip0 rfl rfl ?_ | refine lbd rfl rfl (by kernel_rfl) rfl ?_ | (refine lsl rfl rfl rfl rfl (by kernel_rfl) rfl rfl ?_; intros) | (refine lsl0 rfl rfl ?_; intros) | (refine lix rfl (by omega) ?_; rintro _ rfl) | (refine lixr rfl (by assumption) (by omega) ?_; rintro _ _ rfl _) | (refine c_drw rfl (by decide) (by decide +kernel) ?_; (repeat (first | (refine hms rfl rfl rfl ?_ ?_; (next => first | exact trivial | omega)) | refine h_skip rfl rfl rfl ?_ | (refine hmw rfl rfl rfl ?_ ?_; (next => first | exact trivial | omega)))); refine h_nil ?_) | (refine c_drp rfl (by decide) (by decide +kernel) ?_; (repeat (first | (refine p_run rfl rfl rfl ?_ ?_; (next => first | exact trivial | omega)) | refine p_skip rfl rfl rfl ?_)); refine p_nil ?_) | (refine lmw rfl rfl rfl ?_ ?_; (next => first | exact trivial | omega)) | refine lpT rfl rfl rfl rfl ?_ | refine lpF rfl rfl rfl rfl ?_)
      refine c_cond rfl (fun h3 => ?_) (fun h3 => ?_)
      · have h3' : 0 < z.length := by have := of_decide_eq_true h3; omega
        have hfv : fieldV z i = IntKind.i16.wrap ((z.getD (i % z.length) 0).tdiv 2) := by unfold fieldV; rw [if_neg h2', if_pos h3']
        have hmc : (i : Int) % (z.length : Int) = ((i % z.length : Nat) : Int) := by push_cast; rfl
        have hml := Nat.mod_lt i h3'
        have hmt : ((i : Int) % (z.length : Int)).toNat = i % z.length := by rw [hmc, Int.toNat_natCast]
        have hmi : 0 ≤ (i : Int) % (z.length : Int) ∧ (i : Int) % (z.length : Int) < z.length := by rw [hmc]; omega
        rw [hfv, ← hmt] at hfs
        obtain ⟨bA, oA, rfl, hA⟩ := hr.at_ h3'
        repeat (first | refine j_app ?_ | refine cc ?_ | ((first | refine lms rfl rfl rfl ?_ ?_ | refine lss rfl rfl ?_ ?_ | refine lns rfl rfl rfl ?_ ?_ | refine lap rfl rfl rfl rfl rfl ?_ rfl ?_); (next => first | exact trivial | omega); intros) | refine c_true rfl ?_ | refine c_false rfl ?_ | refine c_in_other rfl ?_ | refine l_nil ?_ | refine l_skip rfl rfl rfl ?_ | refine l_skip0 rfl rfl ?_ | refine lbd rfl rfl (by kernel_rfl) rfl ?_ | (refine lsl rfl rfl rfl rfl (by kernel_rfl) rfl rfl ?_; intros) | (refine lsl0 rfl rfl ?_; intros) | (refine lix rfl (by omega) ?_; rintro _ rfl) | (refine lixr rfl (by assumption) (by omega) ?_; rintro _ _ rfl _) | (refine c_drw rfl (by decide) (by decide +kernel) ?_; (repeat (first | (refine hms rfl rfl rfl ?_ ?_; (next => first | exact trivial | omega)) | refine h_skip rfl rfl rfl ?_ | (refine hmw rfl rfl rfl ?_ ?_; (next => first | exact trivial | omega)))); refine h_nil ?_) | (refine c_drp rfl (by decide) (by decide +kernel) ?_; (repeat (first | (refine p_run rfl rfl rfl ?_ ?_; (next => first | exact trivial | omega)) | refine p_skip rfl rfl rfl ?_)); refine p_nil ?_) | (refine lmw rfl rfl rfl ?_ ?_; (next => first | exact trivial | omega)) | refine lpT rfl rfl rfl rfl ?_ | refine lpF rfl rfl rfl rfl ?_)
        rename_i A2 c2
        exact c_round (i + 1, A2, c2) (by show i + 1 ≤ _; omega) (by show _ - (i + 1) < _ - i; omega) ⟨rfl, rfl, rfl, by simp [look], trivial⟩ (by simp only [hfs]; exact Sub.au)
      · have h3' : ¬ 0 < z.length := by have := of_decide_eq_false h3; omega
        have hfv : fieldV z i = (i : Int) % 7 := by unfold fieldV; rw [if_neg h2', if_neg h3']; push_cast; rfl
        rw [hfv] at hfs
        repeat (first | refine j_app ?_ | refine cc ?_ | ((first | refine lms rfl rfl rfl ?_ ?_ | refine lss rfl rfl ?_ ?_ | refine lns rfl rfl rfl ?_ ?_ | refine lap rfl rfl rfl rfl rfl ?_ rfl ?_); (next => first | exact trivial | omega); intros) | refine c_true rfl ?_ | refine c_false rfl ?_ | refine c_in_other rfl ?_ | refine l_nil ?_ | refine l_skip rfl rfl rfl ?_ | refine l_skip0 rfl rfl ?_ | refine lbd rfl rfl (by kernel_rfl) rfl ?_ | (refine lsl rfl rfl rfl rfl (by kernel_rfl) rfl rfl ?_; intros) | (refine lsl0 rfl rfl ?_; intros) | (refine lix rfl (by omega) ?_; rintro _ rfl) | (refine lixr rfl (by assumption) (by omega) ?_; rintro _ _ rfl _) | (refine c_drw rfl (by decide) (by decide +kernel) ?_; (repeat (first | (refine hms rfl rfl rfl ?_ ?_; (next => first | exact trivial | omega)) | refine h_skip rfl rfl rfl ?_ | (refine hmw rfl rfl rfl ?_ ?_; (next => first | exact trivial | omega)))); refine h_nil ?_) | (refine c_drp rfl (by decide) (by decide +kernel) ?_; (repeat (first | (refine p_run rfl rfl rfl ?_ ?_; (next => first | exact trivial | omega)) | refine p_skip rfl rfl rfl ?_)); refine p_nil ?_) | (refine lmw rfl rfl rfl ?_ ?_; (next => first | exact trivial | omega)) | refine lpT rfl rfl rfl rfl ?_ | refine lpF rfl rfl rfl rfl ?_)
        rename_i A2 c2
        exact c_round (i + 1, A2, c2) (by show i + 1 ≤ _; omega) (by show _ - (i + 1) < _ - i; omega) ⟨rfl, rfl, rfl, by simp [look], trivial⟩ (by simp only [hfs]; exact Sub.au)
  · obtain rfl : i = W * H := by have := of_decide_eq_false h; omega
    repeat (first | refine j_app ?_ | refine cc ?_ | ((first | refine lms rfl rfl rfl ?_ ?_ | refine lss rfl rfl ?_ ?_ | refine lns rfl rfl rfl ?_ ?_ | refine lap rfl rfl rfl rfl rfl ?_ rfl ?_); (next => first | exact trivial | omega); intros) | refine c_true rfl ?_ | refine c_false rfl ?_ | refine c_in_other rfl ?_ | refine l_nil ?_ | refine l_skip rfl rfl rfl ?_ | refine l_skip0 rfl rfl ?_ | refine lbd rfl rfl (by kernel_rfl) rfl ?_ | (refine lsl rfl rfl rfl rfl (by kernel_rfl) rfl rfl ?_; intros) | (refine lsl0 rfl rfl ?_; intros) | (refine lix rfl (by omega) ?_; rintro _ rfl) | (refine lixr rfl (by assumption) (by omega) ?_; rintro _ _ rfl _) | (refine c_drw rfl (by decide) (by decide +kernel) ?_; (repeat (first | (refine hms rfl rfl rfl ?_ ?_; (next => first | exact trivial | omega)) | refine h_skip rfl rfl rfl ?_ | (refine hmw rfl rfl rfl ?_ ?_; (next => first | exact trivial | omega)))); refine h_nil ?_) | (refine c_drp rfl (by decide) (by decide +kernel) ?_; (repeat (first | (refine p_run rfl rfl rfl ?_ ?_; (next => first | exact trivial | omega)) | refine p_skip rfl rfl rfl ?_)); refine p_nil ?_) | (refine lmw rfl rfl rfl ?_ ?_; (next => first | exact trivial | omega)) | refine lpT rfl rfl rfl rfl ?_ | refine lpF rfl rfl rfl rfl ?_)
    exact j_outC rfl rfl rfl Sub.au ⟨_, _, rfl, rfl⟩
end Go.Proofs.Ytokoopdkofgabaa
