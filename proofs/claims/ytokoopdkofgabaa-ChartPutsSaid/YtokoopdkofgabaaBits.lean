/- Package bits: the writer and the reader. -/
import Derived.Test.YtokoopdkofgabaaTab
namespace Go.Proofs.Ytokoopdkofgabaa
open Go.RowKit

/-- Bits as bytes, the highest of each byte first. -/
def bitN (bs : List Bool) (i : Nat) : Nat := if bs.getD i false then 1 else 0
def packAt (bs : List Bool) (k : Nat) : Nat := 128 * bitN bs (8 * k) + 64 * bitN bs (8 * k + 1) + 32 * bitN bs (8 * k + 2) + 16 * bitN bs (8 * k + 3) + 8 * bitN bs (8 * k + 4) + 4 * bitN bs (8 * k + 5) + 2 * bitN bs (8 * k + 6) + bitN bs (8 * k + 7)
def pack (bs : List Bool) : List Int := (List.range ((bs.length + 7) / 8)).map fun k => (packAt bs k : Int)

/-- A writer at block g. -/
abbrev Wr (g : Nat) (A : Option Addr) (c : Nat) (bs : List Bool) : List HE :=
  [.blk g 187 [.slice A (pack bs).length c, .int .i64 bs.length], .row (.slice A (pack bs).length c) 5 1 (pack bs).length (ints .u8 (pack bs))]

theorem pack_len (bs : List Bool) : (pack bs).length = (bs.length + 7) / 8 := by simp [pack]
def grow (bs : List Bool) : List Int := if bs.length % 8 = 0 then pack bs ++ [0] else pack bs
theorem grow_len (bs : List Bool) : (grow bs).length = bs.length / 8 + 1 := by
  unfold grow; split <;> simp [pack_len] <;> omega
theorem bitN_snoc (bs : List Bool) (b : Bool) (i : Nat) : bitN (bs ++ [b]) i = bitN bs i + if i = bs.length ∧ b = true then 1 else 0 := by
  unfold bitN
  rcases Nat.lt_trichotomy i bs.length with h | h | h
  · rw [if_neg (fun e : i = bs.length ∧ b = true => by omega)]
    simp [List.getD_eq_getElem?_getD, List.getElem?_append_left h]
  · subst h
    cases b <;> simp [List.getD_eq_getElem?_getD]
  · rw [if_neg (fun e : i = bs.length ∧ b = true => by omega)]
    have h1 : (bs ++ [b])[i]? = none := List.getElem?_eq_none (by simp; omega)
    have h2 : bs[i]? = none := List.getElem?_eq_none (by omega)
    simp [List.getD_eq_getElem?_getD, h1, h2]
theorem bitN_le (bs : List Bool) (i : Nat) : bitN bs i ≤ 1 := by unfold bitN; split <;> omega
theorem bitN_out (bs : List Bool) (i : Nat) (h : bs.length ≤ i) : bitN bs i = 0 := by
  unfold bitN
  have h2 : bs[i]? = none := List.getElem?_eq_none h
  simp [List.getD_eq_getElem?_getD, h2]
theorem packAt_lt (bs : List Bool) (k : Nat) : packAt bs k < 256 := by
  unfold packAt
  have := bitN_le bs
  have h0 := this (8 * k); have h1 := this (8 * k + 1); have h2 := this (8 * k + 2); have h3 := this (8 * k + 3); have h4 := this (8 * k + 4); have h5 := this (8 * k + 5); have h6 := this (8 * k + 6); have h7 := this (8 * k + 7)
  omega
theorem packAt_snoc (bs : List Bool) (b : Bool) (k : Nat) : packAt (bs ++ [b]) k = packAt bs k + if bs.length / 8 = k ∧ b = true then 2 ^ (7 - bs.length % 8) else 0 := by
  unfold packAt
  simp only [bitN_snoc]
  cases b with
  | false => simp
  | true =>
    simp only [and_true]
    by_cases hk : bs.length / 8 = k
    · rw [if_pos hk]
      obtain h | h | h | h | h | h | h | h : bs.length % 8 = 0 ∨ bs.length % 8 = 1 ∨ bs.length % 8 = 2 ∨ bs.length % 8 = 3 ∨ bs.length % 8 = 4 ∨ bs.length % 8 = 5 ∨ bs.length % 8 = 6 ∨ bs.length % 8 = 7 := by omega
      all_goals
        rw [h]
        have e : bs.length = 8 * k + bs.length % 8 := by omega
        rw [h] at e
        rw [e]
        simp
        try omega
    · rw [if_neg hk]
      have : ∀ r, r < 8 → ¬ (8 * k + r = bs.length) := fun r hr e => hk (by omega)
      have h0 := this 0 (by omega); have h1 := this 1 (by omega); have h2 := this 2 (by omega); have h3 := this 3 (by omega); have h4 := this 4 (by omega); have h5 := this 5 (by omega); have h6 := this 6 (by omega); have h7 := this 7 (by omega)
      rw [Nat.add_zero] at h0
      simp [h0, h1, h2, h3, h4, h5, h6, h7]
theorem packAt_low (bs : List Bool) : packAt bs (bs.length / 8) % 2 ^ (7 - bs.length % 8 + 1) = 0 := by
  unfold packAt
  have o := bitN_out bs
  obtain h | h | h | h | h | h | h | h : bs.length % 8 = 0 ∨ bs.length % 8 = 1 ∨ bs.length % 8 = 2 ∨ bs.length % 8 = 3 ∨ bs.length % 8 = 4 ∨ bs.length % 8 = 5 ∨ bs.length % 8 = 6 ∨ bs.length % 8 = 7 := by omega
  all_goals
    rw [h]
    simp only [Nat.reduceSub, Nat.reduceAdd, Nat.reducePow]
    try rw [o (8 * (bs.length / 8)) (by omega)]
    try rw [o (8 * (bs.length / 8) + 1) (by omega)]
    try rw [o (8 * (bs.length / 8) + 2) (by omega)]
    try rw [o (8 * (bs.length / 8) + 3) (by omega)]
    try rw [o (8 * (bs.length / 8) + 4) (by omega)]
    try rw [o (8 * (bs.length / 8) + 5) (by omega)]
    try rw [o (8 * (bs.length / 8) + 6) (by omega)]
    try rw [o (8 * (bs.length / 8) + 7) (by omega)]
    try omega
theorem getElem?_pack (bs : List Bool) (k : Nat) : (pack bs)[k]? = if k < (bs.length + 7) / 8 then some (packAt bs k : Int) else none := by
  unfold pack
  rw [List.getElem?_map]
  by_cases h : k < (bs.length + 7) / 8
  · simp [h]
  · simp [h]
theorem grow_at (bs : List Bool) : (grow bs)[bs.length / 8]? = some (packAt bs (bs.length / 8) : Int) := by
  unfold grow
  split
  · rename_i h
    have hz : packAt bs (bs.length / 8) = 0 := by
      have h1 := packAt_low bs
      have h2 := packAt_lt bs (bs.length / 8)
      rw [h] at h1
      simp at h1
      omega
    rw [hz, List.getElem?_append_right (by rw [pack_len]; omega), show bs.length / 8 - (pack bs).length = 0 from by rw [pack_len]; omega]
    rfl
  · rw [getElem?_pack, if_pos (by omega)]
theorem pack_snoc (bs : List Bool) (b : Bool) : pack (bs ++ [b]) = (grow bs).set (bs.length / 8) ((packAt bs (bs.length / 8) + if b = true then 2 ^ (7 - bs.length % 8) else 0 : Nat) : Int) := by
  apply List.ext_getElem?
  intro k
  rw [getElem?_pack, packAt_snoc, List.length_append, List.length_singleton]
  by_cases hk : bs.length / 8 = k
  · subst hk
    rw [List.getElem?_set_self (by rw [grow_len]; omega), if_pos (by omega)]
    simp
  · rw [List.getElem?_set_ne hk, if_neg (fun e : bs.length / 8 = k ∧ b = true => hk e.1)]
    by_cases h8 : bs.length % 8 = 0
    · rw [grow, if_pos h8]
      rcases Nat.lt_or_ge k (pack bs).length with h | h
      · rw [List.getElem?_append_left h, getElem?_pack]
        rw [pack_len] at h
        rw [if_pos (by omega), if_pos h]; simp
      · rw [List.getElem?_append_right h]
        rw [pack_len] at h ⊢
        rw [if_neg (by omega), List.getElem?_eq_none (by simp; omega)]
    · rw [grow, if_neg h8, getElem?_pack]
      by_cases h : k < (bs.length + 7) / 8
      · rw [if_pos h, if_pos (by omega)]; simp
      · rw [if_neg h, if_neg (by omega)]
theorem or_byte : ∀ (x : Fin 256) (r : Fin 8), (x : Nat) % 2 ^ (7 - (r : Nat) + 1) = 0 → bits .or .u8 ((x : Nat) : Int) (128 / 2 ^ (r : Nat)) = ((x + 2 ^ (7 - (r : Nat)) : Nat) : Int) := by decide +kernel

attribute [local irreducible] OJ J HdJ Code.wpIn wpListIn Oper.wpIn bodyPost CallsIn Does
set_option maxRecDepth 4000
set_option maxHeartbeats 1000000 in
theorem bit_any (g c : Nat) (A : Option Addr) (bs : List Bool) (b : Bool) (w : World) (hown : Own (Wr g A c bs) w) (hm : bs.length < 1000000000) :
    Does Try.prog 151 [.pointer (some ⟨g, 0, none⟩), .bool b] (Wr g A c bs) w (fun v S' => v = .tuple #[] ∧ ∃ A' c', S' = Wr g A' c' (bs ++ [b])) := by
  have hpl := pack_len bs
  refine does_of Try.func151 rfl Try.ntmps151 rfl hown (fun n => ?_)
  simp only [slots]
  repeat (first | refine j_app ?_ | refine cc ?_ | ((first | refine lms rfl rfl rfl ?_ ?_ | refine lss rfl rfl ?_ ?_ | refine lns rfl rfl rfl ?_ ?_ | refine lap rfl rfl rfl rfl rfl ?_ rfl ?_); (next => first | exact trivial | omega); intros) | refine c_true rfl ?_ | refine c_false rfl ?_ | refine c_in_other rfl ?_ | refine l_nil ?_ | refine l_skip rfl rfl rfl ?_ | refine l_skip0 rfl rfl ?_ | refine lbd rfl rfl (by kernel_rfl) rfl ?_ | (refine lsl rfl rfl rfl rfl (by kernel_rfl) rfl rfl ?_; intros) | (refine lsl0 rfl rfl ?_; intros) | (refine lix rfl (by omega) ?_; rintro _ rfl) | (refine lixr rfl (by assumption) (by omega) ?_; rintro _ _ rfl _) | (refine c_drw rfl (by decide) (by decide +kernel) ?_; (repeat (first | (refine hms rfl rfl rfl ?_ ?_; (next => first | exact trivial | omega)) | refine h_skip rfl rfl rfl ?_ | (refine hmw rfl rfl rfl ?_ ?_; (next => first | exact trivial | omega)))); refine h_nil ?_) | (refine c_drp rfl (by decide) (by decide +kernel) ?_; (repeat (first | (refine p_run rfl rfl rfl ?_ ?_; (next => first | exact trivial | omega)) | refine p_skip rfl rfl rfl ?_)); refine p_nil ?_) | (refine lmw rfl rfl rfl ?_ ?_; (next => first | exact trivial | omega)))
  refine c_seam (X := Option Addr × Nat) (fun _ => True) (fun _ => [(0, .pointer (some ⟨g, 0, none⟩)), (1, .bool b)])
    (fun x => [.blk g 187 [.slice x.1 (grow bs).length x.2, .int .i64 bs.length], .row (.slice x.1 (grow bs).length x.2) 5 1 (grow bs).length (ints .u8 (grow bs))]) ?_ ?_
  · refine c_cond rfl (fun h => ?_) (fun h => ?_)
    · have hg : grow bs = pack bs ++ [0] := if_pos (by have := beq_iff_eq.1 h; omega)
      repeat (first | refine j_app ?_ | refine cc ?_ | ((first | refine lms rfl rfl rfl ?_ ?_ | refine lss rfl rfl ?_ ?_ | refine lns rfl rfl rfl ?_ ?_ | refine lap rfl rfl rfl rfl rfl ?_ rfl ?_); (next => first | exact trivial | omega); intros) | refine c_true rfl ?_ | refine c_false rfl ?_ | refine c_in_other rfl ?_ | refine l_nil ?_ | refine l_skip rfl rfl rfl ?_ | refine l_skip0 rfl rfl ?_ | refine lbd rfl rfl (by kernel_rfl) rfl ?_ | (refine lsl rfl rfl rfl rfl (by kernel_rfl) rfl rfl ?_; intros) | (refine lsl0 rfl rfl ?_; intros) | (refine lix rfl (by omega) ?_; rintro _ rfl) | (refine lixr rfl (by assumption) (by omega) ?_; rintro _ _ rfl _) | (refine c_drw rfl (by decide) (by decide +kernel) ?_; (repeat (first | (refine hms rfl rfl rfl ?_ ?_; (next => first | exact trivial | omega)) | refine h_skip rfl rfl rfl ?_ | (refine hmw rfl rfl rfl ?_ ?_; (next => first | exact trivial | omega)))); refine h_nil ?_) | (refine c_drp rfl (by decide) (by decide +kernel) ?_; (repeat (first | (refine p_run rfl rfl rfl ?_ ?_; (next => first | exact trivial | omega)) | refine p_skip rfl rfl rfl ?_)); refine p_nil ?_) | (refine lmw rfl rfl rfl ?_ ?_; (next => first | exact trivial | omega)))
      rw [hg]
      exact c_at_seam (_, _) trivial ⟨rfl, rfl, trivial⟩ (.cons (Has.there _ (Has.here _ _)) (.cons (Has.there _ (Has.here _ _)) (.nil _)))
    · have hg : grow bs = pack bs := if_neg (by have := beq_eq_false_iff_ne.1 h; omega)
      repeat (first | refine j_app ?_ | refine cc ?_ | ((first | refine lms rfl rfl rfl ?_ ?_ | refine lss rfl rfl ?_ ?_ | refine lns rfl rfl rfl ?_ ?_ | refine lap rfl rfl rfl rfl rfl ?_ rfl ?_); (next => first | exact trivial | omega); intros) | refine c_true rfl ?_ | refine c_false rfl ?_ | refine c_in_other rfl ?_ | refine l_nil ?_ | refine l_skip rfl rfl rfl ?_ | refine l_skip0 rfl rfl ?_ | refine lbd rfl rfl (by kernel_rfl) rfl ?_ | (refine lsl rfl rfl rfl rfl (by kernel_rfl) rfl rfl ?_; intros) | (refine lsl0 rfl rfl ?_; intros) | (refine lix rfl (by omega) ?_; rintro _ rfl) | (refine lixr rfl (by assumption) (by omega) ?_; rintro _ _ rfl _) | (refine c_drw rfl (by decide) (by decide +kernel) ?_; (repeat (first | (refine hms rfl rfl rfl ?_ ?_; (next => first | exact trivial | omega)) | refine h_skip rfl rfl rfl ?_ | (refine hmw rfl rfl rfl ?_ ?_; (next => first | exact trivial | omega)))); refine h_nil ?_) | (refine c_drp rfl (by decide) (by decide +kernel) ?_; (repeat (first | (refine p_run rfl rfl rfl ?_ ?_; (next => first | exact trivial | omega)) | refine p_skip rfl rfl rfl ?_)); refine p_nil ?_) | (refine lmw rfl rfl rfl ?_ ?_; (next => first | exact trivial | omega)))
      rw [hg]
      exact c_at_seam (A, c) trivial ⟨rfl, rfl, trivial⟩ (Sub.refl _)
  · rintro ⟨A1, c1⟩ -
    have hgl := grow_len bs
    have hga := grow_at bs
    have hps := pack_snoc bs b
    simp only
    repeat (first | refine j_app ?_ | refine cc ?_ | ((first | refine lms rfl rfl rfl ?_ ?_ | refine lss rfl rfl ?_ ?_ | refine lns rfl rfl rfl ?_ ?_ | refine lap rfl rfl rfl rfl rfl ?_ rfl ?_); (next => first | exact trivial | omega); intros) | refine c_true rfl ?_ | refine c_false rfl ?_ | refine c_in_other rfl ?_ | refine l_nil ?_ | refine l_skip rfl rfl rfl ?_ | refine l_skip0 rfl rfl ?_ | refine lbd rfl rfl (by kernel_rfl) rfl ?_ | (refine lsl rfl rfl rfl rfl (by kernel_rfl) rfl rfl ?_; intros) | (refine lsl0 rfl rfl ?_; intros) | (refine lix rfl (by omega) ?_; rintro _ rfl) | (refine lixr rfl (by assumption) (by omega) ?_; rintro _ _ rfl _) | (refine c_drw rfl (by decide) (by decide +kernel) ?_; (repeat (first | (refine hms rfl rfl rfl ?_ ?_; (next => first | exact trivial | omega)) | refine h_skip rfl rfl rfl ?_ | (refine hmw rfl rfl rfl ?_ ?_; (next => first | exact trivial | omega)))); refine h_nil ?_) | (refine c_drp rfl (by decide) (by decide +kernel) ?_; (repeat (first | (refine p_run rfl rfl rfl ?_ ?_; (next => first | exact trivial | omega)) | refine p_skip rfl rfl rfl ?_)); refine p_nil ?_) | (refine lmw rfl rfl rfl ?_ ?_; (next => first | exact trivial | omega)))
    refine c_cond rfl (fun h => ?_) (fun h => ?_)
    · subst h
      refine j_opn (A := A1) (m := (grow bs).length) (cc := c1) (by omega) ?_
      rintro g1 rfl
      repeat (first | refine j_app ?_ | refine cc ?_ | ((first | refine lms rfl rfl rfl ?_ ?_ | refine lss rfl rfl ?_ ?_ | refine lns rfl rfl rfl ?_ ?_ | refine lap rfl rfl rfl rfl rfl ?_ rfl ?_); (next => first | exact trivial | omega); intros) | refine c_true rfl ?_ | refine c_false rfl ?_ | refine c_in_other rfl ?_ | refine l_nil ?_ | refine l_skip rfl rfl rfl ?_ | refine l_skip0 rfl rfl ?_ | refine lbd rfl rfl (by kernel_rfl) rfl ?_ | (refine lsl rfl rfl rfl rfl (by kernel_rfl) rfl rfl ?_; intros) | (refine lsl0 rfl rfl ?_; intros) | (refine lix rfl (by omega) ?_; rintro _ rfl) | (refine lixr rfl (by assumption) (by omega) ?_; rintro _ _ rfl _) | (refine c_drw rfl (by decide) (by decide +kernel) ?_; (repeat (first | (refine hms rfl rfl rfl ?_ ?_; (next => first | exact trivial | omega)) | refine h_skip rfl rfl rfl ?_ | (refine hmw rfl rfl rfl ?_ ?_; (next => first | exact trivial | omega)))); refine h_nil ?_) | (refine c_drp rfl (by decide) (by decide +kernel) ?_; (repeat (first | (refine p_run rfl rfl rfl ?_ ?_; (next => first | exact trivial | omega)) | refine p_skip rfl rfl rfl ?_)); refine p_nil ?_) | (refine lmw rfl rfl rfl ?_ ?_; (next => first | exact trivial | omega)))
      have hr := or_byte ⟨packAt bs (bs.length / 8), packAt_lt _ _⟩ ⟨bs.length % 8, by omega⟩ (packAt_low bs)
      have e0 : ((bs.length : Int) / 8).toNat = bs.length / 8 := by omega
      have e3 : ((bs.length : Int) % 8).toNat = bs.length % 8 := by omega
      have e1 : (pack (bs ++ [true])).length = (grow bs).length := by rw [hps, List.length_set]
      have e2 : pack (bs ++ [true]) = (grow bs).set (bs.length / 8) (bits .or .u8 ((grow bs).getD (bs.length / 8) 0) (128 / 2 ^ (bs.length % 8))) := by
        rw [List.getD_eq_getElem?_getD, hga, Option.getD_some, hr, hps]; simp
      refine j_outN (S' := Wr g (some ⟨g1, 0, none⟩) c1 (bs ++ [true])) rfl ?_ ⟨rfl, _, _, rfl⟩
      simp only [Wr, e0, e3, e1, List.length_append]
      rw [e2]
      exact Sub.refl _
    · subst h
      repeat (first | refine j_app ?_ | refine cc ?_ | ((first | refine lms rfl rfl rfl ?_ ?_ | refine lss rfl rfl ?_ ?_ | refine lns rfl rfl rfl ?_ ?_ | refine lap rfl rfl rfl rfl rfl ?_ rfl ?_); (next => first | exact trivial | omega); intros) | refine c_true rfl ?_ | refine c_false rfl ?_ | refine c_in_other rfl ?_ | refine l_nil ?_ | refine l_skip rfl rfl rfl ?_ | refine l_skip0 rfl rfl ?_ | refine lbd rfl rfl (by kernel_rfl) rfl ?_ | (refine lsl rfl rfl rfl rfl (by kernel_rfl) rfl rfl ?_; intros) | (refine lsl0 rfl rfl ?_; intros) | (refine lix rfl (by omega) ?_; rintro _ rfl) | (refine lixr rfl (by assumption) (by omega) ?_; rintro _ _ rfl _) | (refine c_drw rfl (by decide) (by decide +kernel) ?_; (repeat (first | (refine hms rfl rfl rfl ?_ ?_; (next => first | exact trivial | omega)) | refine h_skip rfl rfl rfl ?_ | (refine hmw rfl rfl rfl ?_ ?_; (next => first | exact trivial | omega)))); refine h_nil ?_) | (refine c_drp rfl (by decide) (by decide +kernel) ?_; (repeat (first | (refine p_run rfl rfl rfl ?_ ?_; (next => first | exact trivial | omega)) | refine p_skip rfl rfl rfl ?_)); refine p_nil ?_) | (refine lmw rfl rfl rfl ?_ ?_; (next => first | exact trivial | omega)))
      have e1 : pack (bs ++ [false]) = grow bs := by
        rw [hps]
        apply List.ext_getElem?
        intro k
        by_cases hk : bs.length / 8 = k
        · subst hk; rw [List.getElem?_set_self (by omega), hga]; simp
        · rw [List.getElem?_set_ne hk]
      refine j_outN (S' := Wr g A1 c1 (bs ++ [false])) rfl ?_ ⟨rfl, _, _, rfl⟩
      simp only [Wr, e1, List.length_append]
      exact Sub.refl _

set_option maxHeartbeats 1000000 in
theorem bytes_any (g c : Nat) (A : Option Addr) (bs : List Bool) (w : World) (hown : Own (Wr g A c bs) w) (hm : bs.length < 1000000000) :
    Does Try.prog 109 [.pointer (some ⟨g, 0, none⟩)] (Wr g A c bs) w
      (fun v S' => ∃ A' c', v = .slice A' (pack bs).length c' ∧ S' = .row (.slice A' (pack bs).length c') 5 1 (pack bs).length (ints .u8 (pack bs)) :: Wr g A c bs) := by
  have hpl := pack_len bs
  refine does_of Try.func109 rfl Try.ntmps109 rfl hown (fun n => ?_)
  simp only [slots]
  repeat (first | refine j_app ?_ | refine cc ?_ | ((first | refine lms rfl rfl rfl ?_ ?_ | refine lss rfl rfl ?_ ?_ | refine lns rfl rfl rfl ?_ ?_ | refine lap rfl rfl rfl rfl rfl ?_ rfl ?_); (next => first | exact trivial | omega); intros) | refine c_true rfl ?_ | refine c_false rfl ?_ | refine c_in_other rfl ?_ | refine l_nil ?_ | refine l_skip rfl rfl rfl ?_ | refine l_skip0 rfl rfl ?_ | refine lbd rfl rfl (by kernel_rfl) rfl ?_ | (refine lsl rfl rfl rfl rfl (by kernel_rfl) rfl rfl ?_; intros) | (refine lsl0 rfl rfl ?_; intros) | (refine lix rfl (by omega) ?_; rintro _ rfl) | (refine lixr rfl (by assumption) (by omega) ?_; rintro _ _ rfl _) | (refine c_drw rfl (by decide) (by decide +kernel) ?_; (repeat (first | (refine hms rfl rfl rfl ?_ ?_; (next => first | exact trivial | omega)) | refine h_skip rfl rfl rfl ?_ | (refine hmw rfl rfl rfl ?_ ?_; (next => first | exact trivial | omega)))); refine h_nil ?_) | (refine c_drp rfl (by decide) (by decide +kernel) ?_; (repeat (first | (refine p_run rfl rfl rfl ?_ ?_; (next => first | exact trivial | omega)) | refine p_skip rfl rfl rfl ?_)); refine p_nil ?_) | (refine lmw rfl rfl rfl ?_ ?_; (next => first | exact trivial | omega)))
  exact j_out1 rfl rfl (Sub.refl _) ⟨_, _, rfl, rfl⟩

set_option maxHeartbeats 1000000 in
theorem ones_any (g c : Nat) (A : Option Addr) (bs : List Bool) (m : Nat) (w : World) (hown : Own (Wr g A c bs) w) (hm : bs.length + m < 900000000) :
    Does Try.prog 154 [.pointer (some ⟨g, 0, none⟩), .int .i64 m] (Wr g A c bs) w (fun v S' => v = .tuple #[] ∧ ∃ A' c', S' = Wr g A' c' (bs ++ List.replicate m true ++ [false])) := by
  refine does_of Try.func154 rfl Try.ntmps154 rfl hown (fun n => ?_)
  simp only [slots]
  repeat (first | refine j_app ?_ | refine cc ?_ | ((first | refine lms rfl rfl rfl ?_ ?_ | refine lss rfl rfl ?_ ?_ | refine lns rfl rfl rfl ?_ ?_ | refine lap rfl rfl rfl rfl rfl ?_ rfl ?_); (next => first | exact trivial | omega); intros) | refine c_true rfl ?_ | refine c_false rfl ?_ | refine c_in_other rfl ?_ | refine l_nil ?_ | refine l_skip rfl rfl rfl ?_ | refine l_skip0 rfl rfl ?_ | refine lbd rfl rfl (by kernel_rfl) rfl ?_ | (refine lsl rfl rfl rfl rfl (by kernel_rfl) rfl rfl ?_; intros) | (refine lsl0 rfl rfl ?_; intros) | (refine lix rfl (by omega) ?_; rintro _ rfl) | (refine lixr rfl (by assumption) (by omega) ?_; rintro _ _ rfl _) | (refine c_drw rfl (by decide) (by decide +kernel) ?_; (repeat (first | (refine hms rfl rfl rfl ?_ ?_; (next => first | exact trivial | omega)) | refine h_skip rfl rfl rfl ?_ | (refine hmw rfl rfl rfl ?_ ?_; (next => first | exact trivial | omega)))); refine h_nil ?_) | (refine c_drp rfl (by decide) (by decide +kernel) ?_; (repeat (first | (refine p_run rfl rfl rfl ?_ ?_; (next => first | exact trivial | omega)) | refine p_skip rfl rfl rfl ?_)); refine p_nil ?_) | (refine lmw rfl rfl rfl ?_ ?_; (next => first | exact trivial | omega)))
  refine c_loop (X := Nat × Option Addr × Nat) (fun x => x.1 ≤ m) (fun x => [(0, .pointer (some ⟨g, 0, none⟩)), (4, .int .i64 m), (5, .int .i64 x.1)]) (fun x => Wr g x.2.1 x.2.2 (bs ++ List.replicate x.1 true)) (fun x => m - x.1) (0, A, c) (by simp) ⟨rfl, rfl, rfl, trivial⟩ ?_ ?_
  · simp only [List.replicate_zero, List.append_nil]; exact Sub.refl _
  rintro ⟨i, A1, c1⟩ hi
  simp only at hi ⊢
  repeat (first | refine j_app ?_ | refine cc ?_ | ((first | refine lms rfl rfl rfl ?_ ?_ | refine lss rfl rfl ?_ ?_ | refine lns rfl rfl rfl ?_ ?_ | refine lap rfl rfl rfl rfl rfl ?_ rfl ?_); (next => first | exact trivial | omega); intros) | refine c_true rfl ?_ | refine c_false rfl ?_ | refine c_in_other rfl ?_ | refine l_nil ?_ | refine l_skip rfl rfl rfl ?_ | refine l_skip0 rfl rfl ?_ | refine lbd rfl rfl (by kernel_rfl) rfl ?_ | (refine lsl rfl rfl rfl rfl (by kernel_rfl) rfl rfl ?_; intros) | (refine lsl0 rfl rfl ?_; intros) | (refine lix rfl (by omega) ?_; rintro _ rfl) | (refine lixr rfl (by assumption) (by omega) ?_; rintro _ _ rfl _) | (refine c_drw rfl (by decide) (by decide +kernel) ?_; (repeat (first | (refine hms rfl rfl rfl ?_ ?_; (next => first | exact trivial | omega)) | refine h_skip rfl rfl rfl ?_ | (refine hmw rfl rfl rfl ?_ ?_; (next => first | exact trivial | omega)))); refine h_nil ?_) | (refine c_drp rfl (by decide) (by decide +kernel) ?_; (repeat (first | (refine p_run rfl rfl rfl ?_ ?_; (next => first | exact trivial | omega)) | refine p_skip rfl rfl rfl ?_)); refine p_nil ?_) | (refine lmw rfl rfl rfl ?_ ?_; (next => first | exact trivial | omega)))
  refine c_cond rfl (fun h => ?_) (fun h => ?_)
  · have hlt : i < m := by simpa using h
    repeat (first | refine j_app ?_ | refine cc ?_ | ((first | refine lms rfl rfl rfl ?_ ?_ | refine lss rfl rfl ?_ ?_ | refine lns rfl rfl rfl ?_ ?_ | refine lap rfl rfl rfl rfl rfl ?_ rfl ?_); (next => first | exact trivial | omega); intros) | refine c_true rfl ?_ | refine c_false rfl ?_ | refine c_in_other rfl ?_ | refine l_nil ?_ | refine l_skip rfl rfl rfl ?_ | refine l_skip0 rfl rfl ?_ | refine lbd rfl rfl (by kernel_rfl) rfl ?_ | (refine lsl rfl rfl rfl rfl (by kernel_rfl) rfl rfl ?_; intros) | (refine lsl0 rfl rfl ?_; intros) | (refine lix rfl (by omega) ?_; rintro _ rfl) | (refine lixr rfl (by assumption) (by omega) ?_; rintro _ _ rfl _) | (refine c_drw rfl (by decide) (by decide +kernel) ?_; (repeat (first | (refine hms rfl rfl rfl ?_ ?_; (next => first | exact trivial | omega)) | refine h_skip rfl rfl rfl ?_ | (refine hmw rfl rfl rfl ?_ ?_; (next => first | exact trivial | omega)))); refine h_nil ?_) | (refine c_drp rfl (by decide) (by decide +kernel) ?_; (repeat (first | (refine p_run rfl rfl rfl ?_ ?_; (next => first | exact trivial | omega)) | refine p_skip rfl rfl rfl ?_)); refine p_nil ?_) | (refine lmw rfl rfl rfl ?_ ?_; (next => first | exact trivial | omega)))
    refine lfn rfl rfl (Split.cons (Has.here _ _) (Split.cons (Has.here _ _) (Split.nil _))) rfl (fun w hw ho => bit_any g c1 A1 _ true w ho (by simp; omega)) ?_
    rintro v S' ⟨rfl, A2, c2, rfl⟩
    repeat (first | refine j_app ?_ | refine cc ?_ | ((first | refine lms rfl rfl rfl ?_ ?_ | refine lss rfl rfl ?_ ?_ | refine lns rfl rfl rfl ?_ ?_ | refine lap rfl rfl rfl rfl rfl ?_ rfl ?_); (next => first | exact trivial | omega); intros) | refine c_true rfl ?_ | refine c_false rfl ?_ | refine c_in_other rfl ?_ | refine l_nil ?_ | refine l_skip rfl rfl rfl ?_ | refine l_skip0 rfl rfl ?_ | refine lbd rfl rfl (by kernel_rfl) rfl ?_ | (refine lsl rfl rfl rfl rfl (by kernel_rfl) rfl rfl ?_; intros) | (refine lsl0 rfl rfl ?_; intros) | (refine lix rfl (by omega) ?_; rintro _ rfl) | (refine lixr rfl (by assumption) (by omega) ?_; rintro _ _ rfl _) | (refine c_drw rfl (by decide) (by decide +kernel) ?_; (repeat (first | (refine hms rfl rfl rfl ?_ ?_; (next => first | exact trivial | omega)) | refine h_skip rfl rfl rfl ?_ | (refine hmw rfl rfl rfl ?_ ?_; (next => first | exact trivial | omega)))); refine h_nil ?_) | (refine c_drp rfl (by decide) (by decide +kernel) ?_; (repeat (first | (refine p_run rfl rfl rfl ?_ ?_; (next => first | exact trivial | omega)) | refine p_skip rfl rfl rfl ?_)); refine p_nil ?_) | (refine lmw rfl rfl rfl ?_ ?_; (next => first | exact trivial | omega)))
    refine c_round (i + 1, A2, c2) (by show i + 1 ≤ m; omega) (by show m - (i + 1) < m - i; omega) (by exact ⟨rfl, rfl, by simp [look], trivial⟩) ?_
    rw [List.append_assoc, show List.replicate i true ++ [true] = List.replicate (i + 1) true from by rw [List.replicate_succ']]
    exact Sub.refl _
  · have hge : i = m := by simp at h; omega
    subst hge
    repeat (first | refine j_app ?_ | refine cc ?_ | ((first | refine lms rfl rfl rfl ?_ ?_ | refine lss rfl rfl ?_ ?_ | refine lns rfl rfl rfl ?_ ?_ | refine lap rfl rfl rfl rfl rfl ?_ rfl ?_); (next => first | exact trivial | omega); intros) | refine c_true rfl ?_ | refine c_false rfl ?_ | refine c_in_other rfl ?_ | refine l_nil ?_ | refine l_skip rfl rfl rfl ?_ | refine l_skip0 rfl rfl ?_ | refine lbd rfl rfl (by kernel_rfl) rfl ?_ | (refine lsl rfl rfl rfl rfl (by kernel_rfl) rfl rfl ?_; intros) | (refine lsl0 rfl rfl ?_; intros) | (refine lix rfl (by omega) ?_; rintro _ rfl) | (refine lixr rfl (by assumption) (by omega) ?_; rintro _ _ rfl _) | (refine c_drw rfl (by decide) (by decide +kernel) ?_; (repeat (first | (refine hms rfl rfl rfl ?_ ?_; (next => first | exact trivial | omega)) | refine h_skip rfl rfl rfl ?_ | (refine hmw rfl rfl rfl ?_ ?_; (next => first | exact trivial | omega)))); refine h_nil ?_) | (refine c_drp rfl (by decide) (by decide +kernel) ?_; (repeat (first | (refine p_run rfl rfl rfl ?_ ?_; (next => first | exact trivial | omega)) | refine p_skip rfl rfl rfl ?_)); refine p_nil ?_) | (refine lmw rfl rfl rfl ?_ ?_; (next => first | exact trivial | omega)))
    refine lfn rfl rfl (Split.cons (Has.here _ _) (Split.cons (Has.here _ _) (Split.nil _))) rfl (fun w hw ho => bit_any g c1 A1 _ false w ho (by simp; omega)) ?_
    rintro v S' ⟨rfl, A2, c2, rfl⟩
    repeat (first | refine j_app ?_ | refine cc ?_ | ((first | refine lms rfl rfl rfl ?_ ?_ | refine lss rfl rfl ?_ ?_ | refine lns rfl rfl rfl ?_ ?_ | refine lap rfl rfl rfl rfl rfl ?_ rfl ?_); (next => first | exact trivial | omega); intros) | refine c_true rfl ?_ | refine c_false rfl ?_ | refine c_in_other rfl ?_ | refine l_nil ?_ | refine l_skip rfl rfl rfl ?_ | refine l_skip0 rfl rfl ?_ | refine lbd rfl rfl (by kernel_rfl) rfl ?_ | (refine lsl rfl rfl rfl rfl (by kernel_rfl) rfl rfl ?_; intros) | (refine lsl0 rfl rfl ?_; intros) | (refine lix rfl (by omega) ?_; rintro _ rfl) | (refine lixr rfl (by assumption) (by omega) ?_; rintro _ _ rfl _) | (refine c_drw rfl (by decide) (by decide +kernel) ?_; (repeat (first | (refine hms rfl rfl rfl ?_ ?_; (next => first | exact trivial | omega)) | refine h_skip rfl rfl rfl ?_ | (refine hmw rfl rfl rfl ?_ ?_; (next => first | exact trivial | omega)))); refine h_nil ?_) | (refine c_drp rfl (by decide) (by decide +kernel) ?_; (repeat (first | (refine p_run rfl rfl rfl ?_ ?_; (next => first | exact trivial | omega)) | refine p_skip rfl rfl rfl ?_)); refine p_nil ?_) | (refine lmw rfl rfl rfl ?_ ?_; (next => first | exact trivial | omega)))
    exact j_outN rfl (Sub.refl _) ⟨rfl, A2, c2, rfl⟩
end Go.Proofs.Ytokoopdkofgabaa
