/- Package pyramid: New. -/
import Derived.Test.YtokoopdkofgabaaPyr3
import Derived.Test.YtokoopdkofgabaaTile4
namespace Go.Proofs.Ytokoopdkofgabaa
open Go.RowKit
def cellOf (v : Int) : Cel := if v = -32768 then ⟨0, 0, 0⟩ else ⟨v, v, 1⟩
def cellsN (z : List Int) : Nat → List Cel
  | 0 => []
  | i + 1 => cellsN z i ++ [cellOf (z.getD i 0)]
theorem cellsN_len (z : List Int) : ∀ i, (cellsN z i).length = i
  | 0 => rfl
  | i + 1 => by rw [cellsN, List.length_append, cellsN_len z i]; rfl
theorem cellsN_bnd (z : List Int) : ∀ i, ∀ c ∈ cellsN z i, 0 ≤ c.n ∧ c.n ≤ 1
  | 0, c, h => by simp [cellsN] at h
  | i + 1, c, h => by
    rw [cellsN, List.mem_append] at h
    rcases h with h | h
    · exact cellsN_bnd z i c h
    · have : c = cellOf (z.getD i 0) := by simpa using h
      rw [this]
      unfold cellOf
      split <;> simp
/-- Levels, the last one first. -/
inductive Stack (w h : Nat) (cs : List Cel) : List Lv → Prop
  | one (l : Lv) (e : l.w = w ∧ l.h = h ∧ l.cs = cs) : Stack w h cs [l]
  | up (t l : Lv) (r : List Lv) (hs : Stack w h cs (l :: r)) (hb : 1 < l.w ∨ 1 < l.h) (e : t.w = hf l.w ∧ t.h = hf l.h ∧ t.cs = hAll l.w l.h l.cs (hf l.h)) : Stack w h cs (t :: l :: r)
def rowsR (l : List Lv) : List HE := l.map fun l => .row (.slice l.A l.cs.length l.c) 150 3 l.cs.length (flat celE l.cs)
theorem jTo_bndM {l : List Cel} {M : Int} (h : ∀ c ∈ l, 0 ≤ c.n ∧ c.n ≤ M) : ∀ k, k ≤ l.length → 0 ≤ (jTo l k).n ∧ (jTo l k).n ≤ M * (k : Int)
  | 0, _ => by simp [jTo]
  | k + 1, hk => by
    have h1 := jTo_bndM h k (by omega)
    have h2 := h (l.getD k default) (by rw [List.getD_eq_getElem?_getD, List.getElem?_eq_getElem (by omega)]; exact List.getElem_mem _)
    have e : M * ((k + 1 : Nat) : Int) = M * (k : Int) + M := by rw [Int.natCast_add, Int.mul_add]; simp
    rw [e]
    simp only [jTo, joinC]
    generalize M * (k : Int) = u at *
    split
    · omega
    split
    · omega
    · simp only; omega
theorem atL_bnd {w h : Int} {cs : List Cel} {M : Int} (h0 : 0 ≤ M) (hok : ∀ c ∈ cs, 0 ≤ c.n ∧ c.n ≤ M) (x y : Int) : 0 ≤ (atL w h cs x y).n ∧ (atL w h cs x y).n ≤ M := by
  unfold atL
  split
  · rw [List.getD_eq_getElem?_getD]
    cases hq : cs[(y * w + x).toNat]? with
    | none => exact ⟨by decide, h0⟩
    | some c => simpa using hok c (List.mem_of_getElem? hq)
  · exact ⟨Int.le_refl 0, h0⟩
theorem hAll_mem (w h : Nat) (cs : List Cel) : ∀ y, ∀ c ∈ hAll w h cs y, ∃ x y', c = hAt w h cs x y'
  | 0, c, hc => by simp [hAll] at hc
  | y + 1, c, hc => by
    rw [hAll, List.mem_append] at hc
    rcases hc with hc | hc
    · exact hAll_mem w h cs y c hc
    · have : ∀ k, c ∈ hRow w h cs y k → ∃ x, c = hAt w h cs x y := by
        intro k
        induction k with
        | zero => intro h; simp [hRow] at h
        | succ k ih =>
          intro h
          rw [hRow, List.mem_append] at h
          rcases h with h | h
          · exact ih h
          · exact ⟨k, by simpa using h⟩
      obtain ⟨x, hx⟩ := this _ hc
      exact ⟨x, y, hx⟩
theorem hAll_bnd {w h : Nat} {cs : List Cel} {M : Int} (h0 : 0 ≤ M) (hok : ∀ c ∈ cs, 0 ≤ c.n ∧ c.n ≤ M) (y : Nat) : ∀ c ∈ hAll w h cs y, 0 ≤ c.n ∧ c.n ≤ M * 4 := by
  intro c hc
  obtain ⟨x, y', rfl⟩ := hAll_mem w h cs y c hc
  unfold hAt
  refine jTo_bndM (fun c hc => ?_) 4 (by simp)
  simp only [List.mem_cons, List.not_mem_nil, or_false] at hc
  rcases hc with rfl | rfl | rfl | rfl <;> exact atL_bnd h0 hok _ _
structure PyrR (W H : Nat) (cs : List Cel) (t : Lv) (r : List Lv) (e : Nat) : Prop where
  st : Stack W H cs (t :: r)
  ee : e + r.length = 8
  w1 : 1 ≤ t.w ∧ t.w ≤ 2 ^ e
  h1 : 1 ≤ t.h ∧ t.h ≤ 2 ^ e
  len : t.cs.length = t.w * t.h
  bnd : ∀ c ∈ t.cs, 0 ≤ c.n ∧ c.n ≤ 4 ^ r.length
theorem PyrR.small {W H : Nat} {cs : List Cel} {t : Lv} {r : List Lv} {e : Nat} (h : PyrR W H cs t r e) : r.length ≤ 8 ∧ t.w ≤ 256 ∧ t.h ≤ 256 ∧ ∀ c ∈ t.cs, CelOk c := by
  have he := h.ee
  have h2 : 2 ^ e ≤ 2 ^ 8 := Nat.pow_le_pow_right (by decide) (by omega)
  have h4 : (4 : Nat) ^ r.length ≤ 65536 := Nat.le_trans (Nat.pow_le_pow_right (by decide) (by omega : r.length ≤ 8)) (by decide)
  have h4' : (4 : Int) ^ r.length ≤ 65536 := by
    have e4 : (4 : Int) ^ r.length = ((4 ^ r.length : Nat) : Int) := (Int.natCast_pow 4 r.length).symm
    rw [e4]
    exact Int.ofNat_le.2 h4
  refine ⟨by omega, by have := h.w1; omega, by have := h.h1; omega, fun c hc => ?_⟩
  have := h.bnd c hc
  unfold CelOk
  omega
theorem PyrR.next {W H : Nat} {cs : List Cel} {t : Lv} {r : List Lv} {e : Nat} (h : PyrR W H cs t r e) (hb : 1 < t.w ∨ 1 < t.h) (A : Option Addr) (c : Nat) : ∃ e', PyrR W H cs ⟨hf t.w, hf t.h, A, c, hAll t.w t.h t.cs (hf t.h)⟩ (t :: r) e' ∧ hf t.w + hf t.h < t.w + t.h := by
  obtain ⟨e', rfl⟩ : ∃ e', e = e' + 1 := by
    cases e with
    | zero => have := h.w1; have := h.h1; simp at *; omega
    | succ e => exact ⟨e, rfl⟩
  have hw := h.w1
  have hh := h.h1
  rw [Nat.pow_succ] at hw hh
  refine ⟨e', ⟨.up _ _ _ h.st hb ⟨rfl, rfl, rfl⟩, by have := h.ee; simp at *; omega, ?_, ?_, ?_, ?_⟩, ?_⟩
  · simp only [hf]; omega
  · simp only [hf]; omega
  · simp only; rw [hAll_len, Nat.mul_comm]
  · intro c hc
    have := hAll_bnd (M := 4 ^ r.length) (Int.le_of_lt (Int.pow_pos (by decide))) h.bnd _ c hc
    simpa [Int.pow_succ] using this
  · simp only [hf]; omega
instance (w h : Nat) (A : Option Addr) (c : Nat) (cs : List Cel) : UnE lvE [.int .i64 (w : Int), .int .i64 (h : Int), .slice A cs.length c] ⟨w, h, A, c, cs⟩ := ⟨rfl⟩
instance chk_cv (W H : Int) (A : Option Addr) (c : Nat) (z : List Int) : CV Try.prog 72 [.agg #[.int .i64 W, .int .i64 H, .slice A z.length c]] (.int .i64 (chkF W H z)) True := ⟨fun _ w => chk_any W H A c z w⟩
attribute [local irreducible] OJ J HdJ Code.wpIn wpListIn Oper.wpIn bodyPost CallsIn Does
set_option maxRecDepth 4000
set_option maxHeartbeats 16000000 in
theorem new_any (W H : Nat) (A : Option Addr) (c : Nat) (z : List Int) (w : World) (hr : RoA w (blocks []) A z.length c 1 (ints .i16 z)) (hz : ∀ v ∈ z, InR .i16 v) (hok : chkF W H z = 0) :
    Does Try.prog 40 [.agg #[.int .i64 W, .int .i64 H, .slice A z.length c]] [] w (fun v S' => ∃ p AL cL t r, Stack W H (cellsN z z.length) (t :: r) ∧ t.w ≤ 1 ∧ t.h ≤ 1 ∧ v = .tuple #[.pointer (some ⟨p, 0, none⟩), .int .i64 0] ∧
      S' = .blk p 153 [.slice AL (t :: r).reverse.length cL, .int .i64 0] :: .row (.slice AL (t :: r).reverse.length cL) 148 3 (t :: r).reverse.length (flat lvE (t :: r).reverse) :: rowsR (t :: r)) := by
  have hWH : 2 ≤ W ∧ W ≤ 256 ∧ 2 ≤ H ∧ H ≤ 256 ∧ (z.length : Int) = W * H := by
    unfold chkF at hok
    split at hok
    · cases hok
    split at hok
    · rename_i h1 h2; exact ⟨by omega, by omega, by omega, by omega, h2⟩
    · cases hok
  have hzl : z.length ≤ 65536 := by
    have := Nat.mul_le_mul hWH.2.1 hWH.2.2.2.1
    have e : z.length = W * H := by have := hWH.2.2.2.2; rw [← Int.natCast_mul] at this; omega
    omega
  refine does_of Try.func40 rfl Try.ntmps40 rfl ⟨by simp, .nil⟩ (fun n => ?_)
  simp only [slots]
  refine j_nil (e := 150) (size := 3) ?_
  repeat' (first | (first | (first | refine j_app ?_ | refine cc ?_ | ((first | refine lms rfl rfl rfl ?_ ?_ | refine lss rfl rfl ?_ ?_ | refine lns rfl rfl rfl ?_ ?_ | refine lap rfl rfl rfl rfl rfl ?_ rfl ?_); (next => first | exact trivial | omega); intros) | refine c_true rfl ?_ | refine c_false rfl ?_ | refine c_in_other rfl ?_ | refine l_nil ?_ | refine l_skip rfl rfl rfl ?_ | refine l_skip0 rfl rfl ?_ | refine lbd rfl rfl (by kernel_rfl) rfl ?_ | (refine lsl rfl rfl rfl rfl (by kernel_rfl) rfl rfl ?_; intros) | (refine lsl0 rfl rfl ?_; intros) | (refine lix rfl (by omega) ?_; rintro _ rfl) | (refine lixr rfl (by assumption) (by omega) ?_; rintro _ _ rfl _) | (refine c_drw rfl (by decide) (by decide +kernel) ?_; (repeat (first | (refine hms rfl rfl rfl ?_ ?_; (next => first | exact trivial | omega)) | refine h_skip rfl rfl rfl ?_ | (refine hmw rfl rfl rfl ?_ ?_; (next => first | exact trivial | omega)))); refine h_nil ?_) | (refine c_drp rfl (by decide) (by decide +kernel) ?_; (repeat (first | (refine p_run rfl rfl rfl ?_ ?_; (next => first | exact trivial | omega)) | refine p_skip rfl rfl rfl ?_)); refine p_nil ?_)) | (refine lxv rfl rfl rfl ?_ ?_; (next => first | exact trivial | omega)) | refine lba rfl rfl (by kernel_rfl) rfl ?_ | (refine lcv rfl rfl rfl ?_ ?_; (next => first | exact trivial | omega)) | refine lpT rfl rfl rfl rfl ?_ | refine lpF rfl rfl rfl rfl ?_ | ((fail_if_success refine l_lit true rfl rfl rfl ?_); (fail_if_success refine l_lit false rfl rfl rfl ?_); refine l_gd rfl rfl rfl ?_ ?_ <;> intro _ <;> try (exfalso; first | contradiction | omega)) | (refine c_if rfl ?_ ?_ <;> intro _ <;> try (exfalso; first | contradiction | omega)) | (refine lmw rfl rfl rfl ?_ ?_; (next => first | exact trivial | omega))) | (first | (refine hms rfl rfl rfl ?_ ?_; (next => first | exact trivial | omega)) | refine hbd rfl rfl (by kernel_rfl) rfl ?_ | refine h_pT rfl rfl rfl rfl ?_ | refine h_pF rfl rfl rfl rfl ?_ | refine h_skip rfl rfl rfl ?_ | (refine hcv rfl rfl rfl ?_ ?_; (next => first | exact trivial | omega)) | ((fail_if_success refine h_lit true rfl rfl rfl ?_); (fail_if_success refine h_lit false rfl rfl rfl ?_); refine h_gd rfl rfl rfl ?_ ?_ <;> intro _ <;> try (exfalso; first | contradiction | omega)) | (refine hmw rfl rfl rfl ?_ ?_; (next => first | exact trivial | omega)) | refine h_nil ?_) | (first | (refine x_run rfl rfl rfl ?_ ?_; (next => first | exact trivial | omega)) | refine x_pT rfl rfl rfl rfl ?_ | refine x_pF rfl rfl rfl rfl ?_ | refine x_skip rfl rfl rfl ?_ | ((fail_if_success refine x_lit true rfl rfl rfl ?_); (fail_if_success refine x_lit false rfl rfl rfl ?_); refine x_gd rfl rfl rfl ?_ ?_ <;> intro _ <;> try (exfalso; first | contradiction | omega)) | refine x_nil ?_) | (first | refine t_done ?_ | refine t_all _ rfl rfl ?_ | refine allP_cons ?_ ?_ | exact allP_nil | refine t_last (by decide +kernel) ?_ | refine t_next Sub.au ?_) | refine c_drw rfl (by decide) (by decide +kernel) ?_ | refine c_dra rfl rfl (by decide) (by decide +kernel) ?_ | fail)
  rename_i b1 b5
  refine c_loop (X := Nat × Option Addr × Nat) (fun q => q.1 ≤ z.length) (fun q => [(5, .pointer (some ⟨b5, 0, none⟩)), (22, .slice A z.length c), (23, .int .i64 z.length), (24, .int .i64 q.1), (2, .pointer none), (3, .int .i64 0)])
    (fun q => [.blk b5 148 [.int .i64 W, .int .i64 H, .slice q.2.1 (cellsN z q.1).length q.2.2], .row (.slice q.2.1 (cellsN z q.1).length q.2.2) 150 3 (cellsN z q.1).length (flat celE (cellsN z q.1))]) (fun q => z.length - q.1) (0, none, 0) (by simp) ⟨rfl, rfl, rfl, rfl, rfl, rfl, trivial⟩ (by exact (Sub.cons (Has.here _ _) (Sub.cons (Has.there _ (Has.here _ _)) (Sub.nil _)))) ?_
  rintro ⟨i, A1, c1⟩ hi
  dsimp only at hi ⊢
  have hl1 := cellsN_len z i
  have ec : cellsN z (i + 1) = cellsN z i ++ [cellOf (z.getD i 0)] := rfl
  repeat' (first | (first | (first | refine j_app ?_ | refine cc ?_ | ((first | refine lms rfl rfl rfl ?_ ?_ | refine lss rfl rfl ?_ ?_ | refine lns rfl rfl rfl ?_ ?_ | refine lap rfl rfl rfl rfl rfl ?_ rfl ?_); (next => first | exact trivial | omega); intros) | refine c_true rfl ?_ | refine c_false rfl ?_ | refine c_in_other rfl ?_ | refine l_nil ?_ | refine l_skip rfl rfl rfl ?_ | refine l_skip0 rfl rfl ?_ | refine lbd rfl rfl (by kernel_rfl) rfl ?_ | (refine lsl rfl rfl rfl rfl (by kernel_rfl) rfl rfl ?_; intros) | (refine lsl0 rfl rfl ?_; intros) | (refine lix rfl (by omega) ?_; rintro _ rfl) | (refine lixr rfl (by assumption) (by omega) ?_; rintro _ _ rfl _) | (refine c_drw rfl (by decide) (by decide +kernel) ?_; (repeat (first | (refine hms rfl rfl rfl ?_ ?_; (next => first | exact trivial | omega)) | refine h_skip rfl rfl rfl ?_ | (refine hmw rfl rfl rfl ?_ ?_; (next => first | exact trivial | omega)))); refine h_nil ?_) | (refine c_drp rfl (by decide) (by decide +kernel) ?_; (repeat (first | (refine p_run rfl rfl rfl ?_ ?_; (next => first | exact trivial | omega)) | refine p_skip rfl rfl rfl ?_)); refine p_nil ?_)) | (refine lxv rfl rfl rfl ?_ ?_; (next => first | exact trivial | omega)) | refine lba rfl rfl (by kernel_rfl) rfl ?_ | (refine lcv rfl rfl rfl ?_ ?_; (next => first | exact trivial | omega)) | refine lpT rfl rfl rfl rfl ?_ | refine lpF rfl rfl rfl rfl ?_ | ((fail_if_success refine l_lit true rfl rfl rfl ?_); (fail_if_success refine l_lit false rfl rfl rfl ?_); refine l_gd rfl rfl rfl ?_ ?_ <;> intro _ <;> try (exfalso; first | contradiction | omega)) | (refine c_if rfl ?_ ?_ <;> intro _ <;> try (exfalso; first | contradiction | omega)) | (refine lmw rfl rfl rfl ?_ ?_; (next => first | exact trivial | omega))) | (first | (refine hms rfl rfl rfl ?_ ?_; (next => first | exact trivial | omega)) | refine hbd rfl rfl (by kernel_rfl) rfl ?_ | refine h_pT rfl rfl rfl rfl ?_ | refine h_pF rfl rfl rfl rfl ?_ | refine h_skip rfl rfl rfl ?_ | (refine hcv rfl rfl rfl ?_ ?_; (next => first | exact trivial | omega)) | ((fail_if_success refine h_lit true rfl rfl rfl ?_); (fail_if_success refine h_lit false rfl rfl rfl ?_); refine h_gd rfl rfl rfl ?_ ?_ <;> intro _ <;> try (exfalso; first | contradiction | omega)) | (refine hmw rfl rfl rfl ?_ ?_; (next => first | exact trivial | omega)) | refine h_nil ?_) | (first | (refine x_run rfl rfl rfl ?_ ?_; (next => first | exact trivial | omega)) | refine x_pT rfl rfl rfl rfl ?_ | refine x_pF rfl rfl rfl rfl ?_ | refine x_skip rfl rfl rfl ?_ | ((fail_if_success refine x_lit true rfl rfl rfl ?_); (fail_if_success refine x_lit false rfl rfl rfl ?_); refine x_gd rfl rfl rfl ?_ ?_ <;> intro _ <;> try (exfalso; first | contradiction | omega)) | refine x_nil ?_) | (first | refine t_done ?_ | refine t_all _ rfl rfl ?_ | refine allP_cons ?_ ?_ | exact allP_nil | refine t_last (by decide +kernel) ?_ | refine t_next Sub.au ?_) | refine c_drw rfl (by decide) (by decide +kernel) ?_ | refine c_dra rfl rfl (by decide) (by decide +kernel) ?_ | fail)
  · rename_i A2 c2
    have ec2 : cellOf (z.getD i 0) = ⟨z.getD i 0, z.getD i 0, 1⟩ := if_neg (by omega)
    refine c_round (i + 1, A2, c2) (by show i + 1 ≤ _; omega) (by show _ - (i + 1) < _ - i; omega) ⟨rfl, rfl, rfl, by simp [look], rfl, rfl, trivial⟩ (by dsimp only; rw [ec, ec2]; exact Sub.au)
  · rename_i A2 c2
    have ec2 : cellOf (z.getD i 0) = ⟨0, 0, 0⟩ := if_pos (by omega)
    refine c_round (i + 1, A2, c2) (by show i + 1 ≤ _; omega) (by show _ - (i + 1) < _ - i; omega) ⟨rfl, rfl, rfl, by simp [look], rfl, rfl, trivial⟩ (by dsimp only; rw [ec, ec2]; exact Sub.au)
  obtain rfl : i = z.length := by omega
  rename_i b7 b8 b9 _
  refine c_loop (X := Lv × List Lv × Nat × Nat × Option Addr × Nat) (fun q => PyrR W H (cellsN z z.length) q.1 q.2.1 q.2.2.1) (fun q => [(9, .pointer (some ⟨b8, 0, none⟩)), (10, .pointer (some ⟨q.2.2.2.1, 0, none⟩)), (2, .pointer none), (3, .int .i64 0)])
    (fun q => .blk q.2.2.2.1 148 (lvE q.1) :: .blk b8 153 [.slice q.2.2.2.2.1 (q.1 :: q.2.1).reverse.length q.2.2.2.2.2, .int .i64 0] :: .row (.slice q.2.2.2.2.1 (q.1 :: q.2.1).reverse.length q.2.2.2.2.2) 148 3 (q.1 :: q.2.1).reverse.length (flat lvE (q.1 :: q.2.1).reverse) ::
      .row (.slice q.1.A q.1.cs.length q.1.c) 150 3 q.1.cs.length (flat celE q.1.cs) :: rowsR q.2.1)
    (fun q => q.1.w + q.1.h) (⟨W, H, A1, c1, cellsN z z.length⟩, [], 8, b9, some ⟨b7, 0, none⟩, 1) ?_ ⟨rfl, rfl, rfl, rfl, trivial⟩ (by exact (Sub.cons (Has.here _ _) (Sub.cons (Has.here _ _) (Sub.cons (Has.here _ _) (Sub.cons (Has.there _ (Has.here _ _)) (Sub.nil _)))))) ?_
  · have e1 : z.length = W * H := by have := hWH.2.2.2.2; rw [← Int.natCast_mul] at this; omega
    exact ⟨.one _ ⟨rfl, rfl, rfl⟩, rfl, ⟨by show 1 ≤ W; omega, by show W ≤ 256; omega⟩, ⟨by show 1 ≤ H; omega, by show H ≤ 256; omega⟩, by show (cellsN z z.length).length = W * H; rw [cellsN_len, e1], fun c hc => cellsN_bnd z _ c hc⟩
  rintro ⟨t, r, e, bt, AL, cL⟩ hR
  dsimp only at hR ⊢
  obtain ⟨g1, g2, g3, g4⟩ := hR.small
  have hw1 := hR.w1
  have hh1 := hR.h1
  have hrl : (t :: r).reverse.length ≤ 100 := by rw [List.length_reverse, List.length_cons]; omega
  repeat' (first | (first | (first | refine j_app ?_ | refine cc ?_ | ((first | refine lms rfl rfl rfl ?_ ?_ | refine lss rfl rfl ?_ ?_ | refine lns rfl rfl rfl ?_ ?_ | refine lap rfl rfl rfl rfl rfl ?_ rfl ?_); (next => first | exact trivial | omega); intros) | refine c_true rfl ?_ | refine c_false rfl ?_ | refine c_in_other rfl ?_ | refine l_nil ?_ | refine l_skip rfl rfl rfl ?_ | refine l_skip0 rfl rfl ?_ | refine lbd rfl rfl (by kernel_rfl) rfl ?_ | (refine lsl rfl rfl rfl rfl (by kernel_rfl) rfl rfl ?_; intros) | (refine lsl0 rfl rfl ?_; intros) | (refine lix rfl (by omega) ?_; rintro _ rfl) | (refine lixr rfl (by assumption) (by omega) ?_; rintro _ _ rfl _) | (refine c_drw rfl (by decide) (by decide +kernel) ?_; (repeat (first | (refine hms rfl rfl rfl ?_ ?_; (next => first | exact trivial | omega)) | refine h_skip rfl rfl rfl ?_ | (refine hmw rfl rfl rfl ?_ ?_; (next => first | exact trivial | omega)))); refine h_nil ?_) | (refine c_drp rfl (by decide) (by decide +kernel) ?_; (repeat (first | (refine p_run rfl rfl rfl ?_ ?_; (next => first | exact trivial | omega)) | refine p_skip rfl rfl rfl ?_)); refine p_nil ?_)) | (refine lxv rfl rfl rfl ?_ ?_; (next => first | exact trivial | omega)) | refine lba rfl rfl (by kernel_rfl) rfl ?_ | (refine lcv rfl rfl rfl ?_ ?_; (next => first | exact trivial | omega)) | refine lpT rfl rfl rfl rfl ?_ | refine lpF rfl rfl rfl rfl ?_ | ((fail_if_success refine l_lit true rfl rfl rfl ?_); (fail_if_success refine l_lit false rfl rfl rfl ?_); refine l_gd rfl rfl rfl ?_ ?_ <;> intro _ <;> try (exfalso; first | contradiction | omega)) | (refine c_if rfl ?_ ?_ <;> intro _ <;> try (exfalso; first | contradiction | omega)) | (refine lmw rfl rfl rfl ?_ ?_; (next => first | exact trivial | omega))) | (first | (refine hms rfl rfl rfl ?_ ?_; (next => first | exact trivial | omega)) | refine hbd rfl rfl (by kernel_rfl) rfl ?_ | refine h_pT rfl rfl rfl rfl ?_ | refine h_pF rfl rfl rfl rfl ?_ | refine h_skip rfl rfl rfl ?_ | (refine hcv rfl rfl rfl ?_ ?_; (next => first | exact trivial | omega)) | ((fail_if_success refine h_lit true rfl rfl rfl ?_); (fail_if_success refine h_lit false rfl rfl rfl ?_); refine h_gd rfl rfl rfl ?_ ?_ <;> intro _ <;> try (exfalso; first | contradiction | omega)) | (refine hmw rfl rfl rfl ?_ ?_; (next => first | exact trivial | omega)) | refine h_nil ?_) | (first | (refine x_run rfl rfl rfl ?_ ?_; (next => first | exact trivial | omega)) | refine x_pT rfl rfl rfl rfl ?_ | refine x_pF rfl rfl rfl rfl ?_ | refine x_skip rfl rfl rfl ?_ | ((fail_if_success refine x_lit true rfl rfl rfl ?_); (fail_if_success refine x_lit false rfl rfl rfl ?_); refine x_gd rfl rfl rfl ?_ ?_ <;> intro _ <;> try (exfalso; first | contradiction | omega)) | refine x_nil ?_) | (first | refine t_done ?_ | refine t_all _ rfl rfl ?_ | refine allP_cons ?_ ?_ | exact allP_nil | refine t_last (by decide +kernel) ?_ | refine t_next Sub.au ?_) | refine c_drw rfl (by decide) (by decide +kernel) ?_ | refine c_dra rfl rfl (by decide) (by decide +kernel) ?_ | fail)
  · have hb : 1 < t.w ∨ 1 < t.h := .inl (by omega)
    refine lf rfl rfl rfl (S := []) (fun w hw ho => halved_any t.w t.h t.A t.c t.cs w ⟨Ro.row hw (Split.nil _) (by first | exact (Has.here _ _) | exact (Has.there _ (Has.here _ _)) | exact (Has.there _ (Has.there _ (Has.here _ _))) | exact (Has.there _ (Has.there _ (Has.there _ (Has.here _ _)))) | exact (Has.there _ (Has.there _ (Has.there _ (Has.there _ (Has.here _ _))))) | exact (Has.there _ (Has.there _ (Has.there _ (Has.there _ (Has.there _ (Has.here _ _)))))) | exact (Has.there _ (Has.there _ (Has.there _ (Has.there _ (Has.there _ (Has.there _ (Has.here _ _))))))) | exact (Has.there _ (Has.there _ (Has.there _ (Has.there _ (Has.there _ (Has.there _ (Has.there _ (Has.here _ _)))))))) | exact (Has.there _ (Has.there _ (Has.there _ (Has.there _ (Has.there _ (Has.there _ (Has.there _ (Has.there _ (Has.here _ _))))))))) | exact (Has.there _ (Has.there _ (Has.there _ (Has.there _ (Has.there _ (Has.there _ (Has.there _ (Has.there _ (Has.there _ (Has.here _ _)))))))))) | exact (Has.there _ (Has.there _ (Has.there _ (Has.there _ (Has.there _ (Has.there _ (Has.there _ (Has.there _ (Has.there _ (Has.there _ (Has.here _ _))))))))))) | exact (Has.there _ (Has.there _ (Has.there _ (Has.there _ (Has.there _ (Has.there _ (Has.there _ (Has.there _ (Has.there _ (Has.there _ (Has.there _ (Has.here _ _)))))))))))) | exact (Has.there _ (Has.there _ (Has.there _ (Has.there _ (Has.there _ (Has.there _ (Has.there _ (Has.there _ (Has.there _ (Has.there _ (Has.there _ (Has.there _ (Has.here _ _))))))))))))) | exact (Has.there _ (Has.there _ (Has.there _ (Has.there _ (Has.there _ (Has.there _ (Has.there _ (Has.there _ (Has.there _ (Has.there _ (Has.there _ (Has.there _ (Has.there _ (Has.here _ _)))))))))))))))⟩ hR.len ⟨g2, g3⟩ g4) ?_
    rintro v S' ⟨A2, c2, rfl, rfl⟩
    obtain ⟨e', hR2, hlt⟩ := hR.next hb A2 c2
    repeat' (first | (first | (first | refine j_app ?_ | refine cc ?_ | ((first | refine lms rfl rfl rfl ?_ ?_ | refine lss rfl rfl ?_ ?_ | refine lns rfl rfl rfl ?_ ?_ | refine lap rfl rfl rfl rfl rfl ?_ rfl ?_); (next => first | exact trivial | omega); intros) | refine c_true rfl ?_ | refine c_false rfl ?_ | refine c_in_other rfl ?_ | refine l_nil ?_ | refine l_skip rfl rfl rfl ?_ | refine l_skip0 rfl rfl ?_ | refine lbd rfl rfl (by kernel_rfl) rfl ?_ | (refine lsl rfl rfl rfl rfl (by kernel_rfl) rfl rfl ?_; intros) | (refine lsl0 rfl rfl ?_; intros) | (refine lix rfl (by omega) ?_; rintro _ rfl) | (refine lixr rfl (by assumption) (by omega) ?_; rintro _ _ rfl _) | (refine c_drw rfl (by decide) (by decide +kernel) ?_; (repeat (first | (refine hms rfl rfl rfl ?_ ?_; (next => first | exact trivial | omega)) | refine h_skip rfl rfl rfl ?_ | (refine hmw rfl rfl rfl ?_ ?_; (next => first | exact trivial | omega)))); refine h_nil ?_) | (refine c_drp rfl (by decide) (by decide +kernel) ?_; (repeat (first | (refine p_run rfl rfl rfl ?_ ?_; (next => first | exact trivial | omega)) | refine p_skip rfl rfl rfl ?_)); refine p_nil ?_)) | (refine lxv rfl rfl rfl ?_ ?_; (next => first | exact trivial | omega)) | refine lba rfl rfl (by kernel_rfl) rfl ?_ | (refine lcv rfl rfl rfl ?_ ?_; (next => first | exact trivial | omega)) | refine lpT rfl rfl rfl rfl ?_ | refine lpF rfl rfl rfl rfl ?_ | ((fail_if_success refine l_lit true rfl rfl rfl ?_); (fail_if_success refine l_lit false rfl rfl rfl ?_); refine l_gd rfl rfl rfl ?_ ?_ <;> intro _ <;> try (exfalso; first | contradiction | omega)) | (refine c_if rfl ?_ ?_ <;> intro _ <;> try (exfalso; first | contradiction | omega)) | (refine lmw rfl rfl rfl ?_ ?_; (next => first | exact trivial | omega))) | fail)
    generalize hq : hAll t.w t.h t.cs (hf t.h) = nc at *
    have er : (⟨hf t.w, hf t.h, A2, c2, nc⟩ :: t :: r : List Lv).reverse = (t :: r).reverse ++ [⟨hf t.w, hf t.h, A2, c2, nc⟩] := List.reverse_cons ..
    generalize (t :: r).reverse = lr at *
    refine c_drx [.blk bt 148 [.int .i64 (hf t.w : Nat), .int .i64 (hf t.h : Nat), .slice A2 nc.length c2]] [true, true, true, true, false, true, false, false, true, true, false] [4, 6, 7, 10] Sub.au rfl (by decide) (by decide +kernel) ?_
    repeat' (first | (first | (first | refine j_app ?_ | refine cc ?_ | ((first | refine lms rfl rfl rfl ?_ ?_ | refine lss rfl rfl ?_ ?_ | refine lns rfl rfl rfl ?_ ?_ | refine lap rfl rfl rfl rfl rfl ?_ rfl ?_); (next => first | exact trivial | omega); intros) | refine c_true rfl ?_ | refine c_false rfl ?_ | refine c_in_other rfl ?_ | refine l_nil ?_ | refine l_skip rfl rfl rfl ?_ | refine l_skip0 rfl rfl ?_ | refine lbd rfl rfl (by kernel_rfl) rfl ?_ | (refine lsl rfl rfl rfl rfl (by kernel_rfl) rfl rfl ?_; intros) | (refine lsl0 rfl rfl ?_; intros) | (refine lix rfl (by omega) ?_; rintro _ rfl) | (refine lixr rfl (by assumption) (by omega) ?_; rintro _ _ rfl _) | (refine c_drw rfl (by decide) (by decide +kernel) ?_; (repeat (first | (refine hms rfl rfl rfl ?_ ?_; (next => first | exact trivial | omega)) | refine h_skip rfl rfl rfl ?_ | (refine hmw rfl rfl rfl ?_ ?_; (next => first | exact trivial | omega)))); refine h_nil ?_) | (refine c_drp rfl (by decide) (by decide +kernel) ?_; (repeat (first | (refine p_run rfl rfl rfl ?_ ?_; (next => first | exact trivial | omega)) | refine p_skip rfl rfl rfl ?_)); refine p_nil ?_)) | (refine lxv rfl rfl rfl ?_ ?_; (next => first | exact trivial | omega)) | refine lba rfl rfl (by kernel_rfl) rfl ?_ | (refine lcv rfl rfl rfl ?_ ?_; (next => first | exact trivial | omega)) | refine lpT rfl rfl rfl rfl ?_ | refine lpF rfl rfl rfl rfl ?_ | ((fail_if_success refine l_lit true rfl rfl rfl ?_); (fail_if_success refine l_lit false rfl rfl rfl ?_); refine l_gd rfl rfl rfl ?_ ?_ <;> intro _ <;> try (exfalso; first | contradiction | omega)) | (refine c_if rfl ?_ ?_ <;> intro _ <;> try (exfalso; first | contradiction | omega)) | (refine lmw rfl rfl rfl ?_ ?_; (next => first | exact trivial | omega))) | (first | (refine hms rfl rfl rfl ?_ ?_; (next => first | exact trivial | omega)) | refine hbd rfl rfl (by kernel_rfl) rfl ?_ | refine h_pT rfl rfl rfl rfl ?_ | refine h_pF rfl rfl rfl rfl ?_ | refine h_skip rfl rfl rfl ?_ | (refine hcv rfl rfl rfl ?_ ?_; (next => first | exact trivial | omega)) | ((fail_if_success refine h_lit true rfl rfl rfl ?_); (fail_if_success refine h_lit false rfl rfl rfl ?_); refine h_gd rfl rfl rfl ?_ ?_ <;> intro _ <;> try (exfalso; first | contradiction | omega)) | (refine hmw rfl rfl rfl ?_ ?_; (next => first | exact trivial | omega)) | refine h_nil ?_) | (first | (refine x_run rfl rfl rfl ?_ ?_; (next => first | exact trivial | omega)) | refine x_pT rfl rfl rfl rfl ?_ | refine x_pF rfl rfl rfl rfl ?_ | refine x_skip rfl rfl rfl ?_ | ((fail_if_success refine x_lit true rfl rfl rfl ?_); (fail_if_success refine x_lit false rfl rfl rfl ?_); refine x_gd rfl rfl rfl ?_ ?_ <;> intro _ <;> try (exfalso; first | contradiction | omega)) | refine x_nil ?_) | (first | refine t_done ?_ | refine t_all _ rfl rfl ?_ | refine allP_cons ?_ ?_ | exact allP_nil | refine t_last (by decide +kernel) ?_ | refine t_next Sub.au ?_) | refine c_drw rfl (by decide) (by decide +kernel) ?_ | refine c_dra rfl rfl (by decide) (by decide +kernel) ?_ | fail)
    all_goals
      rename_i b11 AL2 cL2 b10
      refine c_round (⟨hf t.w, hf t.h, A2, c2, nc⟩, t :: r, e', b10, AL2, cL2) hR2 hlt ⟨rfl, rfl, rfl, rfl, trivial⟩ ?_
      dsimp only
      rw [er]
      exact .cons (.here _ _) (.cons (.there _ (.there _ (.there _ (.here _ _)))) (.cons (.there _ (.there _ (.there _ (.here _ _)))) (.cons (.there _ (.here _ _)) (Sub.skip (Sub.skip (Sub.refl _) _) _))))
  · have hb : 1 < t.w ∨ 1 < t.h := .inr (by omega)
    refine lf rfl rfl rfl (S := []) (fun w hw ho => halved_any t.w t.h t.A t.c t.cs w ⟨Ro.row hw (Split.nil _) (by first | exact (Has.here _ _) | exact (Has.there _ (Has.here _ _)) | exact (Has.there _ (Has.there _ (Has.here _ _))) | exact (Has.there _ (Has.there _ (Has.there _ (Has.here _ _)))) | exact (Has.there _ (Has.there _ (Has.there _ (Has.there _ (Has.here _ _))))) | exact (Has.there _ (Has.there _ (Has.there _ (Has.there _ (Has.there _ (Has.here _ _)))))) | exact (Has.there _ (Has.there _ (Has.there _ (Has.there _ (Has.there _ (Has.there _ (Has.here _ _))))))) | exact (Has.there _ (Has.there _ (Has.there _ (Has.there _ (Has.there _ (Has.there _ (Has.there _ (Has.here _ _)))))))) | exact (Has.there _ (Has.there _ (Has.there _ (Has.there _ (Has.there _ (Has.there _ (Has.there _ (Has.there _ (Has.here _ _))))))))) | exact (Has.there _ (Has.there _ (Has.there _ (Has.there _ (Has.there _ (Has.there _ (Has.there _ (Has.there _ (Has.there _ (Has.here _ _)))))))))) | exact (Has.there _ (Has.there _ (Has.there _ (Has.there _ (Has.there _ (Has.there _ (Has.there _ (Has.there _ (Has.there _ (Has.there _ (Has.here _ _))))))))))) | exact (Has.there _ (Has.there _ (Has.there _ (Has.there _ (Has.there _ (Has.there _ (Has.there _ (Has.there _ (Has.there _ (Has.there _ (Has.there _ (Has.here _ _)))))))))))) | exact (Has.there _ (Has.there _ (Has.there _ (Has.there _ (Has.there _ (Has.there _ (Has.there _ (Has.there _ (Has.there _ (Has.there _ (Has.there _ (Has.there _ (Has.here _ _))))))))))))) | exact (Has.there _ (Has.there _ (Has.there _ (Has.there _ (Has.there _ (Has.there _ (Has.there _ (Has.there _ (Has.there _ (Has.there _ (Has.there _ (Has.there _ (Has.there _ (Has.here _ _)))))))))))))))⟩ hR.len ⟨g2, g3⟩ g4) ?_
    rintro v S' ⟨A2, c2, rfl, rfl⟩
    obtain ⟨e', hR2, hlt⟩ := hR.next hb A2 c2
    repeat' (first | (first | (first | refine j_app ?_ | refine cc ?_ | ((first | refine lms rfl rfl rfl ?_ ?_ | refine lss rfl rfl ?_ ?_ | refine lns rfl rfl rfl ?_ ?_ | refine lap rfl rfl rfl rfl rfl ?_ rfl ?_); (next => first | exact trivial | omega); intros) | refine c_true rfl ?_ | refine c_false rfl ?_ | refine c_in_other rfl ?_ | refine l_nil ?_ | refine l_skip rfl rfl rfl ?_ | refine l_skip0 rfl rfl ?_ | refine lbd rfl rfl (by kernel_rfl) rfl ?_ | (refine lsl rfl rfl rfl rfl (by kernel_rfl) rfl rfl ?_; intros) | (refine lsl0 rfl rfl ?_; intros) | (refine lix rfl (by omega) ?_; rintro _ rfl) | (refine lixr rfl (by assumption) (by omega) ?_; rintro _ _ rfl _) | (refine c_drw rfl (by decide) (by decide +kernel) ?_; (repeat (first | (refine hms rfl rfl rfl ?_ ?_; (next => first | exact trivial | omega)) | refine h_skip rfl rfl rfl ?_ | (refine hmw rfl rfl rfl ?_ ?_; (next => first | exact trivial | omega)))); refine h_nil ?_) | (refine c_drp rfl (by decide) (by decide +kernel) ?_; (repeat (first | (refine p_run rfl rfl rfl ?_ ?_; (next => first | exact trivial | omega)) | refine p_skip rfl rfl rfl ?_)); refine p_nil ?_)) | (refine lxv rfl rfl rfl ?_ ?_; (next => first | exact trivial | omega)) | refine lba rfl rfl (by kernel_rfl) rfl ?_ | (refine lcv rfl rfl rfl ?_ ?_; (next => first | exact trivial | omega)) | refine lpT rfl rfl rfl rfl ?_ | refine lpF rfl rfl rfl rfl ?_ | ((fail_if_success refine l_lit true rfl rfl rfl ?_); (fail_if_success refine l_lit false rfl rfl rfl ?_); refine l_gd rfl rfl rfl ?_ ?_ <;> intro _ <;> try (exfalso; first | contradiction | omega)) | (refine c_if rfl ?_ ?_ <;> intro _ <;> try (exfalso; first | contradiction | omega)) | (refine lmw rfl rfl rfl ?_ ?_; (next => first | exact trivial | omega))) | fail)
    generalize hq : hAll t.w t.h t.cs (hf t.h) = nc at *
    have er : (⟨hf t.w, hf t.h, A2, c2, nc⟩ :: t :: r : List Lv).reverse = (t :: r).reverse ++ [⟨hf t.w, hf t.h, A2, c2, nc⟩] := List.reverse_cons ..
    generalize (t :: r).reverse = lr at *
    refine c_drx [.blk bt 148 [.int .i64 (hf t.w : Nat), .int .i64 (hf t.h : Nat), .slice A2 nc.length c2]] [true, true, true, true, false, true, false, false, true, true, false] [4, 6, 7, 10] Sub.au rfl (by decide) (by decide +kernel) ?_
    repeat' (first | (first | (first | refine j_app ?_ | refine cc ?_ | ((first | refine lms rfl rfl rfl ?_ ?_ | refine lss rfl rfl ?_ ?_ | refine lns rfl rfl rfl ?_ ?_ | refine lap rfl rfl rfl rfl rfl ?_ rfl ?_); (next => first | exact trivial | omega); intros) | refine c_true rfl ?_ | refine c_false rfl ?_ | refine c_in_other rfl ?_ | refine l_nil ?_ | refine l_skip rfl rfl rfl ?_ | refine l_skip0 rfl rfl ?_ | refine lbd rfl rfl (by kernel_rfl) rfl ?_ | (refine lsl rfl rfl rfl rfl (by kernel_rfl) rfl rfl ?_; intros) | (refine lsl0 rfl rfl ?_; intros) | (refine lix rfl (by omega) ?_; rintro _ rfl) | (refine lixr rfl (by assumption) (by omega) ?_; rintro _ _ rfl _) | (refine c_drw rfl (by decide) (by decide +kernel) ?_; (repeat (first | (refine hms rfl rfl rfl ?_ ?_; (next => first | exact trivial | omega)) | refine h_skip rfl rfl rfl ?_ | (refine hmw rfl rfl rfl ?_ ?_; (next => first | exact trivial | omega)))); refine h_nil ?_) | (refine c_drp rfl (by decide) (by decide +kernel) ?_; (repeat (first | (refine p_run rfl rfl rfl ?_ ?_; (next => first | exact trivial | omega)) | refine p_skip rfl rfl rfl ?_)); refine p_nil ?_)) | (refine lxv rfl rfl rfl ?_ ?_; (next => first | exact trivial | omega)) | refine lba rfl rfl (by kernel_rfl) rfl ?_ | (refine lcv rfl rfl rfl ?_ ?_; (next => first | exact trivial | omega)) | refine lpT rfl rfl rfl rfl ?_ | refine lpF rfl rfl rfl rfl ?_ | ((fail_if_success refine l_lit true rfl rfl rfl ?_); (fail_if_success refine l_lit false rfl rfl rfl ?_); refine l_gd rfl rfl rfl ?_ ?_ <;> intro _ <;> try (exfalso; first | contradiction | omega)) | (refine c_if rfl ?_ ?_ <;> intro _ <;> try (exfalso; first | contradiction | omega)) | (refine lmw rfl rfl rfl ?_ ?_; (next => first | exact trivial | omega))) | (first | (refine hms rfl rfl rfl ?_ ?_; (next => first | exact trivial | omega)) | refine hbd rfl rfl (by kernel_rfl) rfl ?_ | refine h_pT rfl rfl rfl rfl ?_ | refine h_pF rfl rfl rfl rfl ?_ | refine h_skip rfl rfl rfl ?_ | (refine hcv rfl rfl rfl ?_ ?_; (next => first | exact trivial | omega)) | ((fail_if_success refine h_lit true rfl rfl rfl ?_); (fail_if_success refine h_lit false rfl rfl rfl ?_); refine h_gd rfl rfl rfl ?_ ?_ <;> intro _ <;> try (exfalso; first | contradiction | omega)) | (refine hmw rfl rfl rfl ?_ ?_; (next => first | exact trivial | omega)) | refine h_nil ?_) | (first | (refine x_run rfl rfl rfl ?_ ?_; (next => first | exact trivial | omega)) | refine x_pT rfl rfl rfl rfl ?_ | refine x_pF rfl rfl rfl rfl ?_ | refine x_skip rfl rfl rfl ?_ | ((fail_if_success refine x_lit true rfl rfl rfl ?_); (fail_if_success refine x_lit false rfl rfl rfl ?_); refine x_gd rfl rfl rfl ?_ ?_ <;> intro _ <;> try (exfalso; first | contradiction | omega)) | refine x_nil ?_) | (first | refine t_done ?_ | refine t_all _ rfl rfl ?_ | refine allP_cons ?_ ?_ | exact allP_nil | refine t_last (by decide +kernel) ?_ | refine t_next Sub.au ?_) | refine c_drw rfl (by decide) (by decide +kernel) ?_ | refine c_dra rfl rfl (by decide) (by decide +kernel) ?_ | fail)
    all_goals
      rename_i b11 AL2 cL2 b10
      refine c_round (⟨hf t.w, hf t.h, A2, c2, nc⟩, t :: r, e', b10, AL2, cL2) hR2 hlt ⟨rfl, rfl, rfl, rfl, trivial⟩ ?_
      dsimp only
      rw [er]
      exact .cons (.here _ _) (.cons (.there _ (.there _ (.there _ (.here _ _)))) (.cons (.there _ (.there _ (.there _ (.here _ _)))) (.cons (.there _ (.here _ _)) (Sub.skip (Sub.skip (Sub.refl _) _) _))))
  · refine j_outK (S' := .blk b8 153 [.slice AL (t :: r).reverse.length cL, .int .i64 0] :: .row (.slice AL (t :: r).reverse.length cL) 148 3 (t :: r).reverse.length (flat lvE (t :: r).reverse) :: rowsR (t :: r)) (Sub.skip (Sub.refl _) _) ?_
    (repeat (first | refine k_tmp rfl ?_ | refine k_cell rfl ?_)); refine k_nil ?_
    exact ⟨b8, AL, cL, t, r, hR.st, by omega, by omega, rfl, rfl⟩
end Go.Proofs.Ytokoopdkofgabaa
