/- Package tile: heights got from bytes. -/
import Derived.Test.YtokoopdkofgabaaTile2
namespace Go.Proofs.Ytokoopdkofgabaa
open Go.RowKit
theorem getD_app_left {a b : List Int} {j : Nat} (h : j < a.length) : (a ++ b).getD j 0 = a.getD j 0 := by
  simp [List.getD_eq_getElem?_getD, List.getElem?_append_left h]
/-- What a height is told by stands ahead of it. -/
theorem guessF_app {a b : List Int} {w i : Nat} (hw : 0 < w) (h : i ≤ a.length) : guessF (a ++ b) w i = guessF a w i := by
  unfold guessF
  by_cases h1 : 0 < i % w
  · have hi : 0 < i := by
      rcases Nat.eq_zero_or_pos i with e | e
      · subst e; simp at h1
      · exact e
    rw [if_pos h1, if_pos h1, getD_app_left (by omega)]
  · rw [if_neg h1, if_neg h1]
    by_cases h2 : 0 < i
    · rw [if_pos h2, if_pos h2, getD_app_left (by omega)]
    · rw [if_neg h2, if_neg h2]
theorem guessF_take {p : List Int} {w n : Nat} (hw : 0 < w) (h : n ≤ p.length) : guessF p w n = guessF (p.take n) w n := by
  conv => lhs; rw [← List.take_append_drop n p]
  exact guessF_app hw (by rw [List.length_take]; omega)
/-- Heights are told by their differences. -/
theorem deltas_same {w : Nat} (hw : 0 < w) (p z : List Int) (hl : p.length ≤ z.length) (h : ∀ j, j < p.length → deltaF p w j = deltaF z w j) : ∀ n, n ≤ p.length → z.take n = p.take n := by
  intro n
  induction n with
  | zero => intro _; simp
  | succ n ih =>
    intro hn
    have h1 := ih (by omega)
    have h2 := h n (by omega)
    unfold deltaF at h2
    rw [guessF_take hw (by omega : n ≤ p.length), guessF_take hw (by omega : n ≤ z.length), h1] at h2
    rw [List.take_succ_eq_append_getElem (by omega : n < z.length), List.take_succ_eq_append_getElem (by omega : n < p.length), h1]
    have e1 : p.getD n 0 = p[n] := by rw [List.getD_eq_getElem?_getD, List.getElem?_eq_getElem (by omega)]; rfl
    have e2 : z.getD n 0 = z[n] := by rw [List.getD_eq_getElem?_getD, List.getElem?_eq_getElem (by omega)]; rfl
    rw [e1, e2] at h2
    rw [show z[n] = p[n] from by omega]
/-- A row of so many, begun. -/
def begun (p : List Int) (n : Nat) : List Int := p ++ List.replicate (n - p.length) 0
theorem begun_len (p : List Int) (n : Nat) (h : p.length ≤ n) : (begun p n).length = n := by simp [begun]; omega
theorem begun_set (p : List Int) (n : Nat) (x : Int) (h : p.length < n) : (begun p n).set p.length x = begun (p ++ [x]) n := by
  unfold begun
  rw [List.set_append_right _ _ (by omega), Nat.sub_self, show n - p.length = (n - (p ++ [x]).length) + 1 from by simp; omega, List.replicate_succ, List.set_cons_zero]
  simp
theorem begun_all (p : List Int) : begun p p.length = p := by simp [begun]
theorem in16_begun {p : List Int} (h : In16 p) (n : Nat) : In16 (begun p n) := by
  intro i
  unfold begun
  rcases Nat.lt_or_ge i p.length with h1 | h1
  · rw [getD_app_left h1]; exact h i
  · rw [List.getD_eq_getElem?_getD, List.getElem?_append_right h1, List.getElem?_replicate]
    split <;> simp
theorem in16_snoc {p : List Int} (h : In16 p) {x : Int} (h1 : -32768 ≤ x) (h2 : x ≤ 32767) : In16 (p ++ [x]) := by
  intro i
  rcases Nat.lt_trichotomy i p.length with h3 | h3 | h3
  · rw [getD_app_left h3]; exact h i
  · subst h3; simp [List.getD_eq_getElem?_getD]; omega
  · rw [List.getD_eq_getElem?_getD, List.getElem?_eq_none (by simp; omega)]; simp
/-- Bytes that are a row of so many numbers. -/
def Rowed (m : Nat) (ys : List Int) : Prop := ∃ xs : List Int, xs.length = m ∧ Fits xs ∧ pack (rowB xs) = ys
/-- What Get comes to. -/
def GetR8 (wd h : Nat) (ys : List Int) (v : Value) (S' : List HE) : Prop :=
  ∃ (zs : List Int) (A : Option Addr) (c : Nat) (code : Int) (T : List HE), v = .tuple #[.slice A zs.length c, .int .i64 code] ∧ S' = .row (.slice A zs.length c) 79 1 zs.length (ints .i16 zs) :: T ∧
    ((code = 0 ∧ zs.length = wd * h ∧ In16 zs ∧ pack (rowB (deltas zs wd)) = ys) ∨ (((code = 3 ∧ ¬ Rowed (wd * h) ys) ∨ (code = 2 ∧ Rowed (wd * h) ys)) ∧ zs = [] ∧ ∀ z, z.length = wd * h → In16 z → pack (rowB (deltas z wd)) ≠ ys))
attribute [local irreducible] OJ J HdJ Code.wpIn wpListIn Oper.wpIn bodyPost CallsIn Does
set_option maxRecDepth 4000
set_option maxHeartbeats 16000000 in
theorem get8_any (A : Option Addr) (c : Nat) (ys : List Int) (wd h : Nat) (w : World) (hr : RoA w (blocks []) A ys.length c 1 (ints .u8 ys)) (hu : U8s ys) (hm : ys.length < 100000) (hwh : 1 ≤ wd ∧ wd ≤ 16 ∧ 1 ≤ h ∧ h ≤ 16) :
    Does Try.prog 71 [.int .i64 wd, .int .i64 h, .slice A ys.length c] [] w (GetR8 wd h ys) := by
  have hab : wd * h ≤ 256 := by have := Nat.mul_le_mul hwh.2.1 hwh.2.2.2; omega
  have hR : rightB wd h = true := (rightB_iff _ _).2 (by omega)
  have hcast : (wd : Int) * (h : Int) = ((wd * h : Nat) : Int) := by push_cast; rfl
  refine does_of Try.func71 rfl Try.ntmps71 rfl ⟨by simp, .nil⟩ (fun n => ?_)
  simp only [slots]
  repeat (first | refine j_app ?_ | refine cc ?_ | ((first | refine lms rfl rfl rfl ?_ ?_ | refine lss rfl rfl ?_ ?_ | refine lns rfl rfl rfl ?_ ?_ | refine lap rfl rfl rfl rfl rfl ?_ rfl ?_); (next => first | exact trivial | omega); intros) | refine c_true rfl ?_ | refine c_false rfl ?_ | refine c_in_other rfl ?_ | refine l_nil ?_ | refine l_skip rfl rfl rfl ?_ | refine l_skip0 rfl rfl ?_ | refine lbd rfl rfl (by kernel_rfl) rfl ?_ | (refine lsl rfl rfl rfl rfl (by kernel_rfl) rfl rfl ?_; intros) | (refine lsl0 rfl rfl ?_; intros) | (refine lix rfl (by omega) ?_; rintro _ rfl) | (refine lixr rfl (by assumption) (by omega) ?_; rintro _ _ rfl _) | (refine c_drw rfl (by decide) (by decide +kernel) ?_; (repeat (first | (refine hms rfl rfl rfl ?_ ?_; (next => first | exact trivial | omega)) | refine h_skip rfl rfl rfl ?_ | (refine hmw rfl rfl rfl ?_ ?_; (next => first | exact trivial | omega)))); refine h_nil ?_) | (refine c_drp rfl (by decide) (by decide +kernel) ?_; (repeat (first | (refine p_run rfl rfl rfl ?_ ?_; (next => first | exact trivial | omega)) | refine p_skip rfl rfl rfl ?_)); refine p_nil ?_) | (refine lmw rfl rfl rfl ?_ ?_; (next => first | exact trivial | omega)) | refine lpT rfl rfl rfl rfl ?_ | refine lpF rfl rfl rfl rfl ?_)
  refine lfv (v := .bool true) rfl rfl rfl (fun w _ => (by have := right_w wd h w; rw [hR] at this; exact this)) ?_
  repeat (first | refine j_app ?_ | refine cc ?_ | ((first | refine lms rfl rfl rfl ?_ ?_ | refine lss rfl rfl ?_ ?_ | refine lns rfl rfl rfl ?_ ?_ | refine lap rfl rfl rfl rfl rfl ?_ rfl ?_); (next => first | exact trivial | omega); intros) | refine c_true rfl ?_ | refine c_false rfl ?_ | refine c_in_other rfl ?_ | refine l_nil ?_ | refine l_skip rfl rfl rfl ?_ | refine l_skip0 rfl rfl ?_ | refine lbd rfl rfl (by kernel_rfl) rfl ?_ | (refine lsl rfl rfl rfl rfl (by kernel_rfl) rfl rfl ?_; intros) | (refine lsl0 rfl rfl ?_; intros) | (refine lix rfl (by omega) ?_; rintro _ rfl) | (refine lixr rfl (by assumption) (by omega) ?_; rintro _ _ rfl _) | (refine c_drw rfl (by decide) (by decide +kernel) ?_; (repeat (first | (refine hms rfl rfl rfl ?_ ?_; (next => first | exact trivial | omega)) | refine h_skip rfl rfl rfl ?_ | (refine hmw rfl rfl rfl ?_ ?_; (next => first | exact trivial | omega)))); refine h_nil ?_) | (refine c_drp rfl (by decide) (by decide +kernel) ?_; (repeat (first | (refine p_run rfl rfl rfl ?_ ?_; (next => first | exact trivial | omega)) | refine p_skip rfl rfl rfl ?_)); refine p_nil ?_) | (refine lmw rfl rfl rfl ?_ ?_; (next => first | exact trivial | omega)) | refine lpT rfl rfl rfl rfl ?_ | refine lpF rfl rfl rfl rfl ?_)
  refine lf rfl rfl rfl (S := []) (fun w hw ho => read_any _ ys w (hr.h.go hw (Split.nil _)) (by omega)) ?_
  rintro v S' ⟨g, A5, c5, rfl, rfl⟩
  repeat (first | refine j_app ?_ | refine cc ?_ | ((first | refine lms rfl rfl rfl ?_ ?_ | refine lss rfl rfl ?_ ?_ | refine lns rfl rfl rfl ?_ ?_ | refine lap rfl rfl rfl rfl rfl ?_ rfl ?_); (next => first | exact trivial | omega); intros) | refine c_true rfl ?_ | refine c_false rfl ?_ | refine c_in_other rfl ?_ | refine l_nil ?_ | refine l_skip rfl rfl rfl ?_ | refine l_skip0 rfl rfl ?_ | refine lbd rfl rfl (by kernel_rfl) rfl ?_ | (refine lsl rfl rfl rfl rfl (by kernel_rfl) rfl rfl ?_; intros) | (refine lsl0 rfl rfl ?_; intros) | (refine lix rfl (by omega) ?_; rintro _ rfl) | (refine lixr rfl (by assumption) (by omega) ?_; rintro _ _ rfl _) | (refine c_drw rfl (by decide) (by decide +kernel) ?_; (repeat (first | (refine hms rfl rfl rfl ?_ ?_; (next => first | exact trivial | omega)) | refine h_skip rfl rfl rfl ?_ | (refine hmw rfl rfl rfl ?_ ?_; (next => first | exact trivial | omega)))); refine h_nil ?_) | (refine c_drp rfl (by decide) (by decide +kernel) ?_; (repeat (first | (refine p_run rfl rfl rfl ?_ ?_; (next => first | exact trivial | omega)) | refine p_skip rfl rfl rfl ?_)); refine p_nil ?_) | (refine lmw rfl rfl rfl ?_ ?_; (next => first | exact trivial | omega)) | refine lpT rfl rfl rfl rfl ?_ | refine lpF rfl rfl rfl rfl ?_)
  rw [hcast]
  refine lf rfl rfl rfl (fun w hw ho => isrow_any g c5 A5 ys 0 (wd * h) w ho (by omega) (by omega) (by omega)) ?_
  rintro v S' ⟨xs, Ax, cx, p', ok, wr, rfl, rfl, hp', hok⟩
  have hno3 : (∀ z : List Int, z.length = wd * h → In16 z → isAt ys 0 (rowB (deltas z wd)) → False) → ∀ z, z.length = wd * h → In16 z → pack (rowB (deltas z wd)) ≠ ys := by
    intro hf z hz1 hz2 he
    exact hf z hz1 hz2 (by rw [← he]; exact isAt_pack0 _)
  rcases hok with ⟨rfl, rfl, hxl, hxf, hxi, rfl, hxat⟩ | ⟨rfl, hno⟩
  rotate_left
  · repeat (first | refine j_app ?_ | refine cc ?_ | ((first | refine lms rfl rfl rfl ?_ ?_ | refine lss rfl rfl ?_ ?_ | refine lns rfl rfl rfl ?_ ?_ | refine lap rfl rfl rfl rfl rfl ?_ rfl ?_); (next => first | exact trivial | omega); intros) | refine c_true rfl ?_ | refine c_false rfl ?_ | refine c_in_other rfl ?_ | refine l_nil ?_ | refine l_skip rfl rfl rfl ?_ | refine l_skip0 rfl rfl ?_ | refine lbd rfl rfl (by kernel_rfl) rfl ?_ | (refine lsl rfl rfl rfl rfl (by kernel_rfl) rfl rfl ?_; intros) | (refine lsl0 rfl rfl ?_; intros) | (refine lix rfl (by omega) ?_; rintro _ rfl) | (refine lixr rfl (by assumption) (by omega) ?_; rintro _ _ rfl _) | (refine c_drw rfl (by decide) (by decide +kernel) ?_; (repeat (first | (refine hms rfl rfl rfl ?_ ?_; (next => first | exact trivial | omega)) | refine h_skip rfl rfl rfl ?_ | (refine hmw rfl rfl rfl ?_ ?_; (next => first | exact trivial | omega)))); refine h_nil ?_) | (refine c_drp rfl (by decide) (by decide +kernel) ?_; (repeat (first | (refine p_run rfl rfl rfl ?_ ?_; (next => first | exact trivial | omega)) | refine p_skip rfl rfl rfl ?_)); refine p_nil ?_) | (refine lmw rfl rfl rfl ?_ ?_; (next => first | exact trivial | omega)) | refine lpT rfl rfl rfl rfl ?_ | refine lpF rfl rfl rfl rfl ?_)
    refine j_nil (e := 79) (size := 1) ?_
    exact j_out2 rfl rfl rfl (Sub.refl _) ⟨[], none, 0, 3, _, rfl, rfl, .inr ⟨.inl ⟨rfl, fun ⟨xs', h1, h2, h3⟩ => hno xs' h1 h2 (by rw [← h3]; exact isAt_pack0 _)⟩, rfl, hno3 fun z hz1 hz2 hat => hno (deltas z wd) (by rw [deltas_len, hz1]) (deltas_fits hz2 wd) hat⟩⟩
  simp only [Nat.zero_add] at hp' ⊢
  repeat (first | refine j_app ?_ | refine cc ?_ | ((first | refine lms rfl rfl rfl ?_ ?_ | refine lss rfl rfl ?_ ?_ | refine lns rfl rfl rfl ?_ ?_ | refine lap rfl rfl rfl rfl rfl ?_ rfl ?_); (next => first | exact trivial | omega); intros) | refine c_true rfl ?_ | refine c_false rfl ?_ | refine c_in_other rfl ?_ | refine l_nil ?_ | refine l_skip rfl rfl rfl ?_ | refine l_skip0 rfl rfl ?_ | refine lbd rfl rfl (by kernel_rfl) rfl ?_ | (refine lsl rfl rfl rfl rfl (by kernel_rfl) rfl rfl ?_; intros) | (refine lsl0 rfl rfl ?_; intros) | (refine lix rfl (by omega) ?_; rintro _ rfl) | (refine lixr rfl (by assumption) (by omega) ?_; rintro _ _ rfl _) | (refine c_drw rfl (by decide) (by decide +kernel) ?_; (repeat (first | (refine hms rfl rfl rfl ?_ ?_; (next => first | exact trivial | omega)) | refine h_skip rfl rfl rfl ?_ | (refine hmw rfl rfl rfl ?_ ?_; (next => first | exact trivial | omega)))); refine h_nil ?_) | (refine c_drp rfl (by decide) (by decide +kernel) ?_; (repeat (first | (refine p_run rfl rfl rfl ?_ ?_; (next => first | exact trivial | omega)) | refine p_skip rfl rfl rfl ?_)); refine p_nil ?_) | (refine lmw rfl rfl rfl ?_ ?_; (next => first | exact trivial | omega)) | refine lpT rfl rfl rfl rfl ?_ | refine lpF rfl rfl rfl rfl ?_)
  refine lf rfl rfl rfl (fun w hw ho => close_any g c5 A5 ys (rowB xs).length w ho (by omega) hp') ?_
  rintro v S' ⟨ok, p2, wr2, rfl, rfl, hcl⟩
  cases ok with
  | false =>
    repeat (first | refine j_app ?_ | refine cc ?_ | ((first | refine lms rfl rfl rfl ?_ ?_ | refine lss rfl rfl ?_ ?_ | refine lns rfl rfl rfl ?_ ?_ | refine lap rfl rfl rfl rfl rfl ?_ rfl ?_); (next => first | exact trivial | omega); intros) | refine c_true rfl ?_ | refine c_false rfl ?_ | refine c_in_other rfl ?_ | refine l_nil ?_ | refine l_skip rfl rfl rfl ?_ | refine l_skip0 rfl rfl ?_ | refine lbd rfl rfl (by kernel_rfl) rfl ?_ | (refine lsl rfl rfl rfl rfl (by kernel_rfl) rfl rfl ?_; intros) | (refine lsl0 rfl rfl ?_; intros) | (refine lix rfl (by omega) ?_; rintro _ rfl) | (refine lixr rfl (by assumption) (by omega) ?_; rintro _ _ rfl _) | (refine c_drw rfl (by decide) (by decide +kernel) ?_; (repeat (first | (refine hms rfl rfl rfl ?_ ?_; (next => first | exact trivial | omega)) | refine h_skip rfl rfl rfl ?_ | (refine hmw rfl rfl rfl ?_ ?_; (next => first | exact trivial | omega)))); refine h_nil ?_) | (refine c_drp rfl (by decide) (by decide +kernel) ?_; (repeat (first | (refine p_run rfl rfl rfl ?_ ?_; (next => first | exact trivial | omega)) | refine p_skip rfl rfl rfl ?_)); refine p_nil ?_) | (refine lmw rfl rfl rfl ?_ ?_; (next => first | exact trivial | omega)) | refine lpT rfl rfl rfl rfl ?_ | refine lpF rfl rfl rfl rfl ?_)
    refine j_nil (e := 79) (size := 1) ?_
    have hnr : ¬ Rowed (wd * h) ys := by
      rintro ⟨xs', h1, h2, he⟩
      have hat : isAt ys 0 (rowB xs') := by rw [← he]; exact isAt_pack0 _
      have e := row_back hxat hat (by rw [h1, hxl]) hxf h2
      rw [e] at he
      have : false = true := hcl.2 ⟨by rw [← he, pack_len]; omega, fun i h1 h2 => by rw [← he] at h2 ⊢; exact pack_tail i h1 h2⟩
      cases this
    exact j_out2 rfl rfl rfl (Sub.refl _) ⟨[], none, 0, 3, _, rfl, rfl, .inr ⟨.inl ⟨rfl, hnr⟩, rfl, fun z hz1 hz2 he => hnr ⟨_, by rw [deltas_len, hz1], deltas_fits hz2 wd, he⟩⟩⟩
  | true =>
    have hpk : pack (rowB xs) = ys := pack_of hu hxat (hcl.1 rfl).1 (hcl.1 rfl).2
    repeat (first | refine j_app ?_ | refine cc ?_ | ((first | refine lms rfl rfl rfl ?_ ?_ | refine lss rfl rfl ?_ ?_ | refine lns rfl rfl rfl ?_ ?_ | refine lap rfl rfl rfl rfl rfl ?_ rfl ?_); (next => first | exact trivial | omega); intros) | refine c_true rfl ?_ | refine c_false rfl ?_ | refine c_in_other rfl ?_ | refine l_nil ?_ | refine l_skip rfl rfl rfl ?_ | refine l_skip0 rfl rfl ?_ | refine lbd rfl rfl (by kernel_rfl) rfl ?_ | (refine lsl rfl rfl rfl rfl (by kernel_rfl) rfl rfl ?_; intros) | (refine lsl0 rfl rfl ?_; intros) | (refine lix rfl (by omega) ?_; rintro _ rfl) | (refine lixr rfl (by assumption) (by omega) ?_; rintro _ _ rfl _) | (refine c_drw rfl (by decide) (by decide +kernel) ?_; (repeat (first | (refine hms rfl rfl rfl ?_ ?_; (next => first | exact trivial | omega)) | refine h_skip rfl rfl rfl ?_ | (refine hmw rfl rfl rfl ?_ ?_; (next => first | exact trivial | omega)))); refine h_nil ?_) | (refine c_drp rfl (by decide) (by decide +kernel) ?_; (repeat (first | (refine p_run rfl rfl rfl ?_ ?_; (next => first | exact trivial | omega)) | refine p_skip rfl rfl rfl ?_)); refine p_nil ?_) | (refine lmw rfl rfl rfl ?_ ?_; (next => first | exact trivial | omega)) | refine lpT rfl rfl rfl rfl ?_ | refine lpF rfl rfl rfl rfl ?_)
    rename_i b11
    refine c_loop (X := List Int) (fun p => p.length ≤ xs.length ∧ In16 p ∧ ∀ j, j < p.length → deltaF p wd j = xs.getD j 0) (fun p => [(0, .int .i64 wd), (11, .slice (some ⟨b11, 0, none⟩) xs.length xs.length), (39, .slice Ax xs.length cx), (40, .int .i64 xs.length), (41, .int .i64 p.length)])
      (fun p => [.row (.slice (some ⟨b11, 0, none⟩) xs.length xs.length) 79 1 xs.length (ints .i16 (begun p xs.length)), .row (.slice Ax xs.length cx) 21 1 xs.length (ints .i32 xs)]) (fun p => xs.length - p.length) [] ⟨by simp, by intro i; simp, by simp⟩ ⟨rfl, rfl, rfl, rfl, rfl, trivial⟩ (by simp only [begun, List.nil_append, List.length_nil, Nat.sub_zero]; exact Sub.au) ?_
    rintro p ⟨hp1, hp2, hp3⟩
    have hql := begun_len p xs.length hp1
    repeat (first | refine j_app ?_ | refine cc ?_ | ((first | refine lms rfl rfl rfl ?_ ?_ | refine lss rfl rfl ?_ ?_ | refine lns rfl rfl rfl ?_ ?_ | refine lap rfl rfl rfl rfl rfl ?_ rfl ?_); (next => first | exact trivial | omega); intros) | refine c_true rfl ?_ | refine c_false rfl ?_ | refine c_in_other rfl ?_ | refine l_nil ?_ | refine l_skip rfl rfl rfl ?_ | refine l_skip0 rfl rfl ?_ | refine lbd rfl rfl (by kernel_rfl) rfl ?_ | (refine lsl rfl rfl rfl rfl (by kernel_rfl) rfl rfl ?_; intros) | (refine lsl0 rfl rfl ?_; intros) | (refine lix rfl (by omega) ?_; rintro _ rfl) | (refine lixr rfl (by assumption) (by omega) ?_; rintro _ _ rfl _) | (refine c_drw rfl (by decide) (by decide +kernel) ?_; (repeat (first | (refine hms rfl rfl rfl ?_ ?_; (next => first | exact trivial | omega)) | refine h_skip rfl rfl rfl ?_ | (refine hmw rfl rfl rfl ?_ ?_; (next => first | exact trivial | omega)))); refine h_nil ?_) | (refine c_drp rfl (by decide) (by decide +kernel) ?_; (repeat (first | (refine p_run rfl rfl rfl ?_ ?_; (next => first | exact trivial | omega)) | refine p_skip rfl rfl rfl ?_)); refine p_nil ?_) | (refine lmw rfl rfl rfl ?_ ?_; (next => first | exact trivial | omega)) | refine lpT rfl rfl rfl rfl ?_ | refine lpF rfl rfl rfl rfl ?_)
    refine c_cond rfl (fun h5 => ?_) (fun h5 => ?_)
    · have hlt : p.length < xs.length := by have := of_decide_eq_true h5; omega
      have hgr := guessF_range hp2 wd p.length
      have hge : guessF (begun p xs.length) wd p.length = guessF p wd p.length := guessF_app (by omega) (Nat.le_refl _)
      have hmem : xs.getD p.length 0 ∈ xs := by rw [List.getD_eq_getElem?_getD, List.getElem?_eq_getElem hlt]; exact List.getElem_mem _
      have hd := hxf _ hmem
      have hd2 := foldN_cast (xs.getD p.length 0)
      have hd3 : -65536 ≤ xs.getD p.length 0 ∧ xs.getD p.length 0 ≤ 65535 := by unfold foldI at hd2; split at hd2 <;> omega
      repeat (first | refine j_app ?_ | refine cc ?_ | ((first | refine lms rfl rfl rfl ?_ ?_ | refine lss rfl rfl ?_ ?_ | refine lns rfl rfl rfl ?_ ?_ | refine lap rfl rfl rfl rfl rfl ?_ rfl ?_); (next => first | exact trivial | omega); intros) | refine c_true rfl ?_ | refine c_false rfl ?_ | refine c_in_other rfl ?_ | refine l_nil ?_ | refine l_skip rfl rfl rfl ?_ | refine l_skip0 rfl rfl ?_ | refine lbd rfl rfl (by kernel_rfl) rfl ?_ | (refine lsl rfl rfl rfl rfl (by kernel_rfl) rfl rfl ?_; intros) | (refine lsl0 rfl rfl ?_; intros) | (refine lix rfl (by omega) ?_; rintro _ rfl) | (refine lixr rfl (by assumption) (by omega) ?_; rintro _ _ rfl _) | (refine c_drw rfl (by decide) (by decide +kernel) ?_; (repeat (first | (refine hms rfl rfl rfl ?_ ?_; (next => first | exact trivial | omega)) | refine h_skip rfl rfl rfl ?_ | (refine hmw rfl rfl rfl ?_ ?_; (next => first | exact trivial | omega)))); refine h_nil ?_) | (refine c_drp rfl (by decide) (by decide +kernel) ?_; (repeat (first | (refine p_run rfl rfl rfl ?_ ?_; (next => first | exact trivial | omega)) | refine p_skip rfl rfl rfl ?_)); refine p_nil ?_) | (refine lmw rfl rfl rfl ?_ ?_; (next => first | exact trivial | omega)) | refine lpT rfl rfl rfl rfl ?_ | refine lpF rfl rfl rfl rfl ?_)
      refine lfv (v := .int .i32 (guessF p wd p.length)) rfl rfl rfl (fun w hw => by
        have hq : RoA w (blocks []) (some ⟨b11, 0, none⟩) xs.length xs.length 1 (ints .i16 (begun p xs.length)) := ⟨Ro.row hw (Split.nil _) (by first | exact (Has.here _ _) | exact (Has.there _ (Has.here _ _)) | exact (Has.there _ (Has.there _ (Has.here _ _))) | exact (Has.there _ (Has.there _ (Has.there _ (Has.here _ _)))) | exact (Has.there _ (Has.there _ (Has.there _ (Has.there _ (Has.here _ _))))) | exact (Has.there _ (Has.there _ (Has.there _ (Has.there _ (Has.there _ (Has.here _ _)))))) | exact (Has.there _ (Has.there _ (Has.there _ (Has.there _ (Has.there _ (Has.there _ (Has.here _ _))))))) | exact (Has.there _ (Has.there _ (Has.there _ (Has.there _ (Has.there _ (Has.there _ (Has.there _ (Has.here _ _)))))))) | exact (Has.there _ (Has.there _ (Has.there _ (Has.there _ (Has.there _ (Has.there _ (Has.there _ (Has.there _ (Has.here _ _))))))))) | exact (Has.there _ (Has.there _ (Has.there _ (Has.there _ (Has.there _ (Has.there _ (Has.there _ (Has.there _ (Has.there _ (Has.here _ _)))))))))) | exact (Has.there _ (Has.there _ (Has.there _ (Has.there _ (Has.there _ (Has.there _ (Has.there _ (Has.there _ (Has.there _ (Has.there _ (Has.here _ _))))))))))) | exact (Has.there _ (Has.there _ (Has.there _ (Has.there _ (Has.there _ (Has.there _ (Has.there _ (Has.there _ (Has.there _ (Has.there _ (Has.there _ (Has.here _ _)))))))))))) | exact (Has.there _ (Has.there _ (Has.there _ (Has.there _ (Has.there _ (Has.there _ (Has.there _ (Has.there _ (Has.there _ (Has.there _ (Has.there _ (Has.there _ (Has.here _ _))))))))))))) | exact (Has.there _ (Has.there _ (Has.there _ (Has.there _ (Has.there _ (Has.there _ (Has.there _ (Has.there _ (Has.there _ (Has.there _ (Has.there _ (Has.there _ (Has.there _ (Has.here _ _)))))))))))))))⟩
        have hd := guess_any (some ⟨b11, 0, none⟩) xs.length (begun p xs.length) wd p.length w (by rw [hql]; exact hq) (in16_begun hp2 _) (by omega) (by omega) (by omega)
        rw [hql, hge] at hd
        exact hd) ?_
      repeat (first | refine j_app ?_ | refine cc ?_ | ((first | refine lms rfl rfl rfl ?_ ?_ | refine lss rfl rfl ?_ ?_ | refine lns rfl rfl rfl ?_ ?_ | refine lap rfl rfl rfl rfl rfl ?_ rfl ?_); (next => first | exact trivial | omega); intros) | refine c_true rfl ?_ | refine c_false rfl ?_ | refine c_in_other rfl ?_ | refine l_nil ?_ | refine l_skip rfl rfl rfl ?_ | refine l_skip0 rfl rfl ?_ | refine lbd rfl rfl (by kernel_rfl) rfl ?_ | (refine lsl rfl rfl rfl rfl (by kernel_rfl) rfl rfl ?_; intros) | (refine lsl0 rfl rfl ?_; intros) | (refine lix rfl (by omega) ?_; rintro _ rfl) | (refine lixr rfl (by assumption) (by omega) ?_; rintro _ _ rfl _) | (refine c_drw rfl (by decide) (by decide +kernel) ?_; (repeat (first | (refine hms rfl rfl rfl ?_ ?_; (next => first | exact trivial | omega)) | refine h_skip rfl rfl rfl ?_ | (refine hmw rfl rfl rfl ?_ ?_; (next => first | exact trivial | omega)))); refine h_nil ?_) | (refine c_drp rfl (by decide) (by decide +kernel) ?_; (repeat (first | (refine p_run rfl rfl rfl ?_ ?_; (next => first | exact trivial | omega)) | refine p_skip rfl rfl rfl ?_)); refine p_nil ?_) | (refine lmw rfl rfl rfl ?_ ?_; (next => first | exact trivial | omega)) | refine lpT rfl rfl rfl rfl ?_ | refine lpF rfl rfl rfl rfl ?_)
      have bad : ¬ (-32768 ≤ guessF p wd p.length + xs.getD p.length 0 ∧ guessF p wd p.length + xs.getD p.length 0 ≤ 32767) → ∀ z, z.length = wd * h → In16 z → pack (rowB (deltas z wd)) ≠ ys := by
        intro hb
        refine hno3 fun z hz1 hz2 hat => hb ?_
        have e := row_back hxat hat (by rw [deltas_len, hz1, hxl]) hxf (deltas_fits hz2 wd)
        have e1 : ∀ j, j < p.length → deltaF p wd j = deltaF z wd j := fun j hj => by rw [hp3 j hj, ← e, deltas_get z wd j (by omega)]
        have e2 := deltas_same (by omega : 0 < wd) p z (by omega) e1 p.length (Nat.le_refl _)
        rw [List.take_of_length_le (Nat.le_refl p.length)] at e2
        have e3 : xs.getD p.length 0 = deltaF z wd p.length := by rw [← e, deltas_get z wd _ (by omega)]
        have e4 := guessF_take (by omega : 0 < wd) (by omega : p.length ≤ z.length)
        rw [e2] at e4
        rw [e3, deltaF, e4]
        have := hz2 p.length
        omega
      refine j_case 54 rfl (fun h6 => ?_) (fun h6 => ?_)
      · have h6' := of_decide_eq_true h6
        repeat (first | refine j_app ?_ | refine cc ?_ | ((first | refine lms rfl rfl rfl ?_ ?_ | refine lss rfl rfl ?_ ?_ | refine lns rfl rfl rfl ?_ ?_ | refine lap rfl rfl rfl rfl rfl ?_ rfl ?_); (next => first | exact trivial | omega); intros) | refine c_true rfl ?_ | refine c_false rfl ?_ | refine c_in_other rfl ?_ | refine l_nil ?_ | refine l_skip rfl rfl rfl ?_ | refine l_skip0 rfl rfl ?_ | refine lbd rfl rfl (by kernel_rfl) rfl ?_ | (refine lsl rfl rfl rfl rfl (by kernel_rfl) rfl rfl ?_; intros) | (refine lsl0 rfl rfl ?_; intros) | (refine lix rfl (by omega) ?_; rintro _ rfl) | (refine lixr rfl (by assumption) (by omega) ?_; rintro _ _ rfl _) | (refine c_drw rfl (by decide) (by decide +kernel) ?_; (repeat (first | (refine hms rfl rfl rfl ?_ ?_; (next => first | exact trivial | omega)) | refine h_skip rfl rfl rfl ?_ | (refine hmw rfl rfl rfl ?_ ?_; (next => first | exact trivial | omega)))); refine h_nil ?_) | (refine c_drp rfl (by decide) (by decide +kernel) ?_; (repeat (first | (refine p_run rfl rfl rfl ?_ ?_; (next => first | exact trivial | omega)) | refine p_skip rfl rfl rfl ?_)); refine p_nil ?_) | (refine lmw rfl rfl rfl ?_ ?_; (next => first | exact trivial | omega)) | refine lpT rfl rfl rfl rfl ?_ | refine lpF rfl rfl rfl rfl ?_)
        refine j_nil (e := 79) (size := 1) ?_
        exact j_out2 rfl rfl rfl (Sub.refl _) ⟨[], none, 0, 2, _, rfl, rfl, .inr ⟨.inr ⟨rfl, xs, hxl, hxf, hpk⟩, rfl, bad (by omega)⟩⟩
      have h6' := of_decide_eq_false h6
      repeat (first | refine j_app ?_ | refine cc ?_ | ((first | refine lms rfl rfl rfl ?_ ?_ | refine lss rfl rfl ?_ ?_ | refine lns rfl rfl rfl ?_ ?_ | refine lap rfl rfl rfl rfl rfl ?_ rfl ?_); (next => first | exact trivial | omega); intros) | refine c_true rfl ?_ | refine c_false rfl ?_ | refine c_in_other rfl ?_ | refine l_nil ?_ | refine l_skip rfl rfl rfl ?_ | refine l_skip0 rfl rfl ?_ | refine lbd rfl rfl (by kernel_rfl) rfl ?_ | (refine lsl rfl rfl rfl rfl (by kernel_rfl) rfl rfl ?_; intros) | (refine lsl0 rfl rfl ?_; intros) | (refine lix rfl (by omega) ?_; rintro _ rfl) | (refine lixr rfl (by assumption) (by omega) ?_; rintro _ _ rfl _) | (refine c_drw rfl (by decide) (by decide +kernel) ?_; (repeat (first | (refine hms rfl rfl rfl ?_ ?_; (next => first | exact trivial | omega)) | refine h_skip rfl rfl rfl ?_ | (refine hmw rfl rfl rfl ?_ ?_; (next => first | exact trivial | omega)))); refine h_nil ?_) | (refine c_drp rfl (by decide) (by decide +kernel) ?_; (repeat (first | (refine p_run rfl rfl rfl ?_ ?_; (next => first | exact trivial | omega)) | refine p_skip rfl rfl rfl ?_)); refine p_nil ?_) | (refine lmw rfl rfl rfl ?_ ?_; (next => first | exact trivial | omega)) | refine lpT rfl rfl rfl rfl ?_ | refine lpF rfl rfl rfl rfl ?_)
      refine c_cond rfl (fun h7 => ?_) (fun h7 => ?_)
      · have h7' := of_decide_eq_true h7
        repeat (first | refine j_app ?_ | refine cc ?_ | ((first | refine lms rfl rfl rfl ?_ ?_ | refine lss rfl rfl ?_ ?_ | refine lns rfl rfl rfl ?_ ?_ | refine lap rfl rfl rfl rfl rfl ?_ rfl ?_); (next => first | exact trivial | omega); intros) | refine c_true rfl ?_ | refine c_false rfl ?_ | refine c_in_other rfl ?_ | refine l_nil ?_ | refine l_skip rfl rfl rfl ?_ | refine l_skip0 rfl rfl ?_ | refine lbd rfl rfl (by kernel_rfl) rfl ?_ | (refine lsl rfl rfl rfl rfl (by kernel_rfl) rfl rfl ?_; intros) | (refine lsl0 rfl rfl ?_; intros) | (refine lix rfl (by omega) ?_; rintro _ rfl) | (refine lixr rfl (by assumption) (by omega) ?_; rintro _ _ rfl _) | (refine c_drw rfl (by decide) (by decide +kernel) ?_; (repeat (first | (refine hms rfl rfl rfl ?_ ?_; (next => first | exact trivial | omega)) | refine h_skip rfl rfl rfl ?_ | (refine hmw rfl rfl rfl ?_ ?_; (next => first | exact trivial | omega)))); refine h_nil ?_) | (refine c_drp rfl (by decide) (by decide +kernel) ?_; (repeat (first | (refine p_run rfl rfl rfl ?_ ?_; (next => first | exact trivial | omega)) | refine p_skip rfl rfl rfl ?_)); refine p_nil ?_) | (refine lmw rfl rfl rfl ?_ ?_; (next => first | exact trivial | omega)) | refine lpT rfl rfl rfl rfl ?_ | refine lpF rfl rfl rfl rfl ?_)
        refine j_nil (e := 79) (size := 1) ?_
        exact j_out2 rfl rfl rfl (Sub.refl _) ⟨[], none, 0, 2, _, rfl, rfl, .inr ⟨.inr ⟨rfl, xs, hxl, hxf, hpk⟩, rfl, bad (by omega)⟩⟩
      have h7' := of_decide_eq_false h7
      have hbs := begun_set p xs.length (guessF p wd p.length + xs.getD p.length 0) hlt
      repeat (first | refine j_app ?_ | refine cc ?_ | ((first | refine lms rfl rfl rfl ?_ ?_ | refine lss rfl rfl ?_ ?_ | refine lns rfl rfl rfl ?_ ?_ | refine lap rfl rfl rfl rfl rfl ?_ rfl ?_); (next => first | exact trivial | omega); intros) | refine c_true rfl ?_ | refine c_false rfl ?_ | refine c_in_other rfl ?_ | refine l_nil ?_ | refine l_skip rfl rfl rfl ?_ | refine l_skip0 rfl rfl ?_ | refine lbd rfl rfl (by kernel_rfl) rfl ?_ | (refine lsl rfl rfl rfl rfl (by kernel_rfl) rfl rfl ?_; intros) | (refine lsl0 rfl rfl ?_; intros) | (refine lix rfl (by omega) ?_; rintro _ rfl) | (refine lixr rfl (by assumption) (by omega) ?_; rintro _ _ rfl _) | (refine c_drw rfl (by decide) (by decide +kernel) ?_; (repeat (first | (refine hms rfl rfl rfl ?_ ?_; (next => first | exact trivial | omega)) | refine h_skip rfl rfl rfl ?_ | (refine hmw rfl rfl rfl ?_ ?_; (next => first | exact trivial | omega)))); refine h_nil ?_) | (refine c_drp rfl (by decide) (by decide +kernel) ?_; (repeat (first | (refine p_run rfl rfl rfl ?_ ?_; (next => first | exact trivial | omega)) | refine p_skip rfl rfl rfl ?_)); refine p_nil ?_) | (refine lmw rfl rfl rfl ?_ ?_; (next => first | exact trivial | omega)) | refine lpT rfl rfl rfl rfl ?_ | refine lpF rfl rfl rfl rfl ?_)
      rw [hbs]
      refine c_round (p ++ [guessF p wd p.length + xs.getD p.length 0]) ⟨by simp; omega, in16_snoc hp2 (by omega) (by omega), fun j hj => ?_⟩ (by show _ - (p ++ [_]).length < _ - p.length; simp; omega) ⟨rfl, rfl, rfl, rfl, by simp [look], trivial⟩ Sub.au
      rw [List.length_append, List.length_singleton] at hj
      unfold deltaF
      rw [guessF_app (by omega) (by omega)]
      rcases Nat.lt_or_ge j p.length with h8 | h8
      · rw [getD_app_left h8]; exact hp3 j h8
      · obtain rfl : j = p.length := by omega
        have : (p ++ [guessF p wd p.length + xs.getD p.length 0]).getD p.length 0 = guessF p wd p.length + xs.getD p.length 0 := by simp [List.getD_eq_getElem?_getD]
        rw [this]; omega
    · have hpe : p.length = xs.length := by have := of_decide_eq_false h5; omega
      have hdx : deltas p wd = xs := by
        apply List.ext_getElem (by rw [deltas_len, hpe])
        intro j h8 h9
        have := hp3 j (by omega)
        rw [← deltas_get p wd j (by omega), List.getD_eq_getElem?_getD, List.getD_eq_getElem?_getD, List.getElem?_eq_getElem h8, List.getElem?_eq_getElem h9] at this
        simpa using this
      have hba := begun_all p
      rw [hpe] at hba
      rw [hba, ← hpe]
      repeat (first | refine j_app ?_ | refine cc ?_ | ((first | refine lms rfl rfl rfl ?_ ?_ | refine lss rfl rfl ?_ ?_ | refine lns rfl rfl rfl ?_ ?_ | refine lap rfl rfl rfl rfl rfl ?_ rfl ?_); (next => first | exact trivial | omega); intros) | refine c_true rfl ?_ | refine c_false rfl ?_ | refine c_in_other rfl ?_ | refine l_nil ?_ | refine l_skip rfl rfl rfl ?_ | refine l_skip0 rfl rfl ?_ | refine lbd rfl rfl (by kernel_rfl) rfl ?_ | (refine lsl rfl rfl rfl rfl (by kernel_rfl) rfl rfl ?_; intros) | (refine lsl0 rfl rfl ?_; intros) | (refine lix rfl (by omega) ?_; rintro _ rfl) | (refine lixr rfl (by assumption) (by omega) ?_; rintro _ _ rfl _) | (refine c_drw rfl (by decide) (by decide +kernel) ?_; (repeat (first | (refine hms rfl rfl rfl ?_ ?_; (next => first | exact trivial | omega)) | refine h_skip rfl rfl rfl ?_ | (refine hmw rfl rfl rfl ?_ ?_; (next => first | exact trivial | omega)))); refine h_nil ?_) | (refine c_drp rfl (by decide) (by decide +kernel) ?_; (repeat (first | (refine p_run rfl rfl rfl ?_ ?_; (next => first | exact trivial | omega)) | refine p_skip rfl rfl rfl ?_)); refine p_nil ?_) | (refine lmw rfl rfl rfl ?_ ?_; (next => first | exact trivial | omega)) | refine lpT rfl rfl rfl rfl ?_ | refine lpF rfl rfl rfl rfl ?_)
      exact j_out2 rfl rfl rfl (Sub.refl _) ⟨p, _, _, 0, _, rfl, rfl, .inl ⟨rfl, by omega, hp2, by rw [hdx]; exact hpk⟩⟩
end Go.Proofs.Ytokoopdkofgabaa
