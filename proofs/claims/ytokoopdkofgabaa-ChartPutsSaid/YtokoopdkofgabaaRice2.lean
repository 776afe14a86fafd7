/- Package rice: reading. -/
import Derived.Test.YtokoopdkofgabaaRice
import Derived.Test.YtokoopdkofgabaaBits3
namespace Go.Proofs.Ytokoopdkofgabaa
open Go.RowKit
theorem or_add (a b k : Nat) (h : b < 2 ^ k) (h32 : a * 2 ^ k + b < 4294967296) : bits .or .u32 ((a * 2 ^ k : Nat) : Int) (b : Int) = ((a * 2 ^ k + b : Nat) : Int) := by
  have e : a * 2 ^ k ||| b = a * 2 ^ k + b := by
    have := Nat.two_pow_add_eq_or_of_lt h a
    rw [Nat.mul_comm]; exact this.symm
  show IntKind.u32.wrap ((BitVec.ofInt 32 ((a * 2 ^ k : Nat) : Int) ||| BitVec.ofInt 32 (b : Int)).toNat : Int) = _
  rw [BitVec.toNat_or, BitVec.ofInt_natCast, BitVec.ofInt_natCast, BitVec.toNat_ofNat, BitVec.toNat_ofNat, Nat.mod_eq_of_lt (by omega), Nat.mod_eq_of_lt (by omega), e, wrap_in]
  exact ⟨by omega, by omega⟩
/-- No code is the beginning of another one: the ones ahead tell. -/
theorem ones_same {ys : List Int} {p i j : Nat} (hi : isAt ys p (List.replicate i true ++ [false])) (hj : isAt ys p (List.replicate j true ++ [false])) : i = j := by
  rw [isAt_append, isAt_ones, List.length_replicate, isAt_one] at hi hj
  rcases Nat.lt_trichotomy i j with h | h | h
  · have := hj.1.2 i h; rw [hi.2.2] at this; cases this
  · exact h
  · have := hi.1.2 j h; rw [hj.2.2] at this; cases this
theorem code_low {n k : Nat} (h : shN n k < 20) : codeB n k = List.replicate (shN n k) true ++ [false] ++ numBits n k := if_pos h
theorem code_high {n k : Nat} (h : ¬ shN n k < 20) : codeB n k = List.replicate 20 true ++ [false] ++ numBits n 17 := if_neg h
/-- In the midst: bits that stand at p are the code of at most one number. -/
theorem code_same {ys : List Int} {p n m k : Nat} (hn : n < 131072) (hm : m < 131072) (h1 : isAt ys p (codeB n k)) (h2 : isAt ys p (codeB m k)) : n = m := by
  have key : ∀ n m : Nat, n < 131072 → m < 131072 → shN n k < 20 → ¬ shN m k < 20 → isAt ys p (codeB n k) → isAt ys p (codeB m k) → False := by
    intro n m _ _ ha hb h1 h2
    rw [code_low ha, isAt_append] at h1
    rw [code_high hb, isAt_append] at h2
    have := ones_same h1.1 h2.1
    omega
  by_cases ha : shN n k < 20 <;> by_cases hb : shN m k < 20
  · rw [code_low ha, isAt_append] at h1
    rw [code_low hb, isAt_append] at h2
    have e := ones_same h1.1 h2.1
    rw [e] at h1
    have e1 := (isAt_num.1 h1.2).2
    have e2 := (isAt_num.1 h2.2).2
    rw [e2] at e1
    unfold shN at e
    rw [← Nat.div_add_mod n (2 ^ k), ← Nat.div_add_mod m (2 ^ k), e, e1]
  · exact (key n m hn hm ha hb h1 h2).elim
  · exact (key m n hm hn hb ha h2 h1).elim
  · rw [code_high ha, isAt_append] at h1
    rw [code_high hb, isAt_append] at h2
    have e1 := (isAt_num.1 h1.2).2
    have e2 := (isAt_num.1 h2.2).2
    rw [e2, Nat.mod_eq_of_lt (by omega), Nat.mod_eq_of_lt (by omega)] at e1
    exact e1.symm

attribute [local irreducible] OJ J HdJ Code.wpIn wpListIn Oper.wpIn bodyPost CallsIn Does
set_option maxRecDepth 4000
/-- What Get comes to. -/
def GetR (g c : Nat) (A : Option Addr) (ys : List Int) (p k : Nat) (v : Value) (S' : List HE) : Prop :=
  ∃ (n p' : Nat) (ok wr : Bool), v = .tuple #[.int .u32 n, .bool ok] ∧ S' = Rd g A c ys p' wr ∧ p' ≤ 8 * ys.length ∧
    ((ok = true ∧ wr = false ∧ n < 131072 ∧ p' = p + sizeN n k ∧ isAt ys p (codeB n k)) ∨ (ok = false ∧ ∀ m, m < 131072 → ¬ isAt ys p (codeB m k)))
set_option maxHeartbeats 4000000 in
theorem get_any (g c : Nat) (A : Option Addr) (ys : List Int) (p k : Nat) (w : World) (hown : Own (Rd g A c ys p false) w) (hm : ys.length < 100000000) (hp : p ≤ 8 * ys.length) (hk : k ≤ 16) :
    Does Try.prog 137 [.pointer (some ⟨g, 0, none⟩), .int .i64 k] (Rd g A c ys p false) w (GetR g c A ys p k) := by
  refine does_of Try.func137 rfl Try.ntmps137 rfl hown (fun n => ?_)
  simp only [slots]
  repeat (first | refine j_app ?_ | refine cc ?_ | ((first | refine lms rfl rfl rfl ?_ ?_ | refine lss rfl rfl ?_ ?_ | refine lns rfl rfl rfl ?_ ?_ | refine lap rfl rfl rfl rfl rfl ?_ rfl ?_); (next => first | exact trivial | omega); intros) | refine c_true rfl ?_ | refine c_false rfl ?_ | refine c_in_other rfl ?_ | refine l_nil ?_ | refine l_skip rfl rfl rfl ?_ | refine l_skip0 rfl rfl ?_ | refine lbd rfl rfl (by kernel_rfl) rfl ?_ | (refine lsl rfl rfl rfl rfl (by kernel_rfl) rfl rfl ?_; intros) | (refine lsl0 rfl rfl ?_; intros) | (refine lix rfl (by omega) ?_; rintro _ rfl) | (refine lixr rfl (by assumption) (by omega) ?_; rintro _ _ rfl _) | (refine c_drw rfl (by decide) (by decide +kernel) ?_; (repeat (first | (refine hms rfl rfl rfl ?_ ?_; (next => first | exact trivial | omega)) | refine h_skip rfl rfl rfl ?_ | (refine hmw rfl rfl rfl ?_ ?_; (next => first | exact trivial | omega)))); refine h_nil ?_) | (refine c_drp rfl (by decide) (by decide +kernel) ?_; (repeat (first | (refine p_run rfl rfl rfl ?_ ?_; (next => first | exact trivial | omega)) | refine p_skip rfl rfl rfl ?_)); refine p_nil ?_) | (refine lmw rfl rfl rfl ?_ ?_; (next => first | exact trivial | omega)))
  refine lfn rfl rfl (Split.cons (Has.here _ _) (Split.cons (Has.here _ _) (Split.nil _))) rfl (fun w hw ho => rones_any g c A ys p 20 w ho hm hp (by omega)) ?_
  rintro v S' ⟨j, p1, wr1, rfl, rfl, hp1, hj⟩
  repeat (first | refine j_app ?_ | refine cc ?_ | ((first | refine lms rfl rfl rfl ?_ ?_ | refine lss rfl rfl ?_ ?_ | refine lns rfl rfl rfl ?_ ?_ | refine lap rfl rfl rfl rfl rfl ?_ rfl ?_); (next => first | exact trivial | omega); intros) | refine c_true rfl ?_ | refine c_false rfl ?_ | refine c_in_other rfl ?_ | refine l_nil ?_ | refine l_skip rfl rfl rfl ?_ | refine l_skip0 rfl rfl ?_ | refine lbd rfl rfl (by kernel_rfl) rfl ?_ | (refine lsl rfl rfl rfl rfl (by kernel_rfl) rfl rfl ?_; intros) | (refine lsl0 rfl rfl ?_; intros) | (refine lix rfl (by omega) ?_; rintro _ rfl) | (refine lixr rfl (by assumption) (by omega) ?_; rintro _ _ rfl _) | (refine c_drw rfl (by decide) (by decide +kernel) ?_; (repeat (first | (refine hms rfl rfl rfl ?_ ?_; (next => first | exact trivial | omega)) | refine h_skip rfl rfl rfl ?_ | (refine hmw rfl rfl rfl ?_ ?_; (next => first | exact trivial | omega)))); refine h_nil ?_) | (refine c_drp rfl (by decide) (by decide +kernel) ?_; (repeat (first | (refine p_run rfl rfl rfl ?_ ?_; (next => first | exact trivial | omega)) | refine p_skip rfl rfl rfl ?_)); refine p_nil ?_) | (refine lmw rfl rfl rfl ?_ ?_; (next => first | exact trivial | omega)))
  rcases hj with ⟨rfl, hj, rfl, hat⟩ | ⟨rfl, hno⟩
  · refine lfk (v := .bool true) rfl rfl (Split.cons (Has.here _ _) (Split.cons (Has.here _ _) (Split.nil _))) (Sub.refl _) rfl (fun w hw ho => right_any g c A ys _ false w ho) ?_
    repeat (first | refine j_app ?_ | refine cc ?_ | ((first | refine lms rfl rfl rfl ?_ ?_ | refine lss rfl rfl ?_ ?_ | refine lns rfl rfl rfl ?_ ?_ | refine lap rfl rfl rfl rfl rfl ?_ rfl ?_); (next => first | exact trivial | omega); intros) | refine c_true rfl ?_ | refine c_false rfl ?_ | refine c_in_other rfl ?_ | refine l_nil ?_ | refine l_skip rfl rfl rfl ?_ | refine l_skip0 rfl rfl ?_ | refine lbd rfl rfl (by kernel_rfl) rfl ?_ | (refine lsl rfl rfl rfl rfl (by kernel_rfl) rfl rfl ?_; intros) | (refine lsl0 rfl rfl ?_; intros) | (refine lix rfl (by omega) ?_; rintro _ rfl) | (refine lixr rfl (by assumption) (by omega) ?_; rintro _ _ rfl _) | (refine c_drw rfl (by decide) (by decide +kernel) ?_; (repeat (first | (refine hms rfl rfl rfl ?_ ?_; (next => first | exact trivial | omega)) | refine h_skip rfl rfl rfl ?_ | (refine hmw rfl rfl rfl ?_ ?_; (next => first | exact trivial | omega)))); refine h_nil ?_) | (refine c_drp rfl (by decide) (by decide +kernel) ?_; (repeat (first | (refine p_run rfl rfl rfl ?_ ?_; (next => first | exact trivial | omega)) | refine p_skip rfl rfl rfl ?_)); refine p_nil ?_) | (refine lmw rfl rfl rfl ?_ ?_; (next => first | exact trivial | omega)))
    have hk2 : 2 ^ k ≤ 65536 := by rw [show 65536 = 2 ^ 16 from rfl]; exact Nat.pow_le_pow_right (by omega) hk
    refine c_cond rfl (fun h => ?_) (fun h => ?_)
    · have hj2 : j < 20 := by have := of_decide_eq_true h; omega
      have hjk : j * 2 ^ k ≤ 19 * 65536 := Nat.mul_le_mul (by omega) hk2
      have hsh : shL j k = j * 2 ^ k := rfl
      repeat (first | refine j_app ?_ | refine cc ?_ | ((first | refine lms rfl rfl rfl ?_ ?_ | refine lss rfl rfl ?_ ?_ | refine lns rfl rfl rfl ?_ ?_ | refine lap rfl rfl rfl rfl rfl ?_ rfl ?_); (next => first | exact trivial | omega); intros) | refine c_true rfl ?_ | refine c_false rfl ?_ | refine c_in_other rfl ?_ | refine l_nil ?_ | refine l_skip rfl rfl rfl ?_ | refine l_skip0 rfl rfl ?_ | refine lbd rfl rfl (by kernel_rfl) rfl ?_ | (refine lsl rfl rfl rfl rfl (by kernel_rfl) rfl rfl ?_; intros) | (refine lsl0 rfl rfl ?_; intros) | (refine lix rfl (by omega) ?_; rintro _ rfl) | (refine lixr rfl (by assumption) (by omega) ?_; rintro _ _ rfl _) | (refine c_drw rfl (by decide) (by decide +kernel) ?_; (repeat (first | (refine hms rfl rfl rfl ?_ ?_; (next => first | exact trivial | omega)) | refine h_skip rfl rfl rfl ?_ | (refine hmw rfl rfl rfl ?_ ?_; (next => first | exact trivial | omega)))); refine h_nil ?_) | (refine c_drp rfl (by decide) (by decide +kernel) ?_; (repeat (first | (refine p_run rfl rfl rfl ?_ ?_; (next => first | exact trivial | omega)) | refine p_skip rfl rfl rfl ?_)); refine p_nil ?_) | (refine lmw rfl rfl rfl ?_ ?_; (next => first | exact trivial | omega)))
      refine lfn rfl rfl (Split.cons (Has.here _ _) (Split.cons (Has.here _ _) (Split.nil _))) rfl (fun w hw ho => rnum_any g c A ys _ k false w ho hm hp1 (by omega)) ?_
      rintro v S' ⟨x, p2, wr2, rfl, hx, rfl, hp2, hx2⟩
      repeat (first | refine j_app ?_ | refine cc ?_ | ((first | refine lms rfl rfl rfl ?_ ?_ | refine lss rfl rfl ?_ ?_ | refine lns rfl rfl rfl ?_ ?_ | refine lap rfl rfl rfl rfl rfl ?_ rfl ?_); (next => first | exact trivial | omega); intros) | refine c_true rfl ?_ | refine c_false rfl ?_ | refine c_in_other rfl ?_ | refine l_nil ?_ | refine l_skip rfl rfl rfl ?_ | refine l_skip0 rfl rfl ?_ | refine lbd rfl rfl (by kernel_rfl) rfl ?_ | (refine lsl rfl rfl rfl rfl (by kernel_rfl) rfl rfl ?_; intros) | (refine lsl0 rfl rfl ?_; intros) | (refine lix rfl (by omega) ?_; rintro _ rfl) | (refine lixr rfl (by assumption) (by omega) ?_; rintro _ _ rfl _) | (refine c_drw rfl (by decide) (by decide +kernel) ?_; (repeat (first | (refine hms rfl rfl rfl ?_ ?_; (next => first | exact trivial | omega)) | refine h_skip rfl rfl rfl ?_ | (refine hmw rfl rfl rfl ?_ ?_; (next => first | exact trivial | omega)))); refine h_nil ?_) | (refine c_drp rfl (by decide) (by decide +kernel) ?_; (repeat (first | (refine p_run rfl rfl rfl ?_ ?_; (next => first | exact trivial | omega)) | refine p_skip rfl rfl rfl ?_)); refine p_nil ?_) | (refine lmw rfl rfl rfl ?_ ?_; (next => first | exact trivial | omega)))
      have hor : bits .or .u32 ((shL j k : Nat) : Int) (x : Int) = ((j * 2 ^ k + x : Nat) : Int) := or_add j x k hx (by omega)
      have hq : shN (j * 2 ^ k + x) k = j := by
        unfold shN; rw [Nat.mul_comm, Nat.mul_add_div (Nat.pow_pos (by omega)), Nat.div_eq_of_lt hx, Nat.add_zero]
      have hrem : (j * 2 ^ k + x) % 2 ^ k = x := by rw [Nat.mul_comm, Nat.mul_add_mod, Nat.mod_eq_of_lt hx]
      have hcode : codeB (j * 2 ^ k + x) k = List.replicate j true ++ [false] ++ numBits (j * 2 ^ k + x) k := by rw [code_low (by omega), hq]
      rcases hx2 with ⟨rfl, -, rfl, hat2⟩ | ⟨rfl, hno2⟩
      · refine lfk (v := .bool true) rfl rfl (Split.cons (Has.here _ _) (Split.cons (Has.here _ _) (Split.nil _))) (Sub.refl _) rfl (fun w hw ho => right_any g c A ys _ false w ho) ?_
        repeat (first | refine j_app ?_ | refine cc ?_ | ((first | refine lms rfl rfl rfl ?_ ?_ | refine lss rfl rfl ?_ ?_ | refine lns rfl rfl rfl ?_ ?_ | refine lap rfl rfl rfl rfl rfl ?_ rfl ?_); (next => first | exact trivial | omega); intros) | refine c_true rfl ?_ | refine c_false rfl ?_ | refine c_in_other rfl ?_ | refine l_nil ?_ | refine l_skip rfl rfl rfl ?_ | refine l_skip0 rfl rfl ?_ | refine lbd rfl rfl (by kernel_rfl) rfl ?_ | (refine lsl rfl rfl rfl rfl (by kernel_rfl) rfl rfl ?_; intros) | (refine lsl0 rfl rfl ?_; intros) | (refine lix rfl (by omega) ?_; rintro _ rfl) | (refine lixr rfl (by assumption) (by omega) ?_; rintro _ _ rfl _) | (refine c_drw rfl (by decide) (by decide +kernel) ?_; (repeat (first | (refine hms rfl rfl rfl ?_ ?_; (next => first | exact trivial | omega)) | refine h_skip rfl rfl rfl ?_ | (refine hmw rfl rfl rfl ?_ ?_; (next => first | exact trivial | omega)))); refine h_nil ?_) | (refine c_drp rfl (by decide) (by decide +kernel) ?_; (repeat (first | (refine p_run rfl rfl rfl ?_ ?_; (next => first | exact trivial | omega)) | refine p_skip rfl rfl rfl ?_)); refine p_nil ?_) | (refine lmw rfl rfl rfl ?_ ?_; (next => first | exact trivial | omega)))
        rw [hor]
        refine j_out2 rfl rfl rfl (Sub.refl _) ?_
        by_cases hb : j * 2 ^ k + x < 131072
        · refine ⟨_, _, true, false, by rw [decide_eq_true (by omega)], rfl, hp2, .inl ⟨rfl, rfl, hb, ?_, ?_⟩⟩
          · unfold sizeN; rw [hq, if_pos hj2]; omega
          · rw [hcode, isAt_append]
            refine ⟨hat, ?_⟩
            rw [List.length_append, List.length_replicate, List.length_singleton, ← Nat.add_assoc]
            refine isAt_num.2 ⟨(isAt_num.1 hat2).1, ?_⟩
            rw [hrem, (isAt_num.1 hat2).2, Nat.mod_eq_of_lt hx]
        · refine ⟨_, _, false, false, by rw [decide_eq_false (by omega)], rfl, hp2, .inr ⟨rfl, fun m hm2 hatm => ?_⟩⟩
          by_cases hq2 : shN m k < 20
          · rw [code_low hq2, isAt_append] at hatm
            have e := ones_same hat hatm.1
            rw [← e, List.length_append, List.length_replicate, List.length_singleton, ← Nat.add_assoc] at hatm
            have e2 := (isAt_num.1 hatm.2).2
            rw [(isAt_num.1 hat2).2, Nat.mod_eq_of_lt hx] at e2
            apply hb
            unfold shN at e
            rw [e, e2, Nat.mul_comm, Nat.div_add_mod]; exact hm2
          · rw [code_high hq2, isAt_append] at hatm
            have e := ones_same hat hatm.1
            omega
      · refine lfk (v := .bool false) rfl rfl (Split.cons (Has.here _ _) (Split.cons (Has.here _ _) (Split.nil _))) (Sub.refl _) rfl (fun w hw ho => right_any g c A ys _ true w ho) ?_
        repeat (first | refine j_app ?_ | refine cc ?_ | ((first | refine lms rfl rfl rfl ?_ ?_ | refine lss rfl rfl ?_ ?_ | refine lns rfl rfl rfl ?_ ?_ | refine lap rfl rfl rfl rfl rfl ?_ rfl ?_); (next => first | exact trivial | omega); intros) | refine c_true rfl ?_ | refine c_false rfl ?_ | refine c_in_other rfl ?_ | refine l_nil ?_ | refine l_skip rfl rfl rfl ?_ | refine l_skip0 rfl rfl ?_ | refine lbd rfl rfl (by kernel_rfl) rfl ?_ | (refine lsl rfl rfl rfl rfl (by kernel_rfl) rfl rfl ?_; intros) | (refine lsl0 rfl rfl ?_; intros) | (refine lix rfl (by omega) ?_; rintro _ rfl) | (refine lixr rfl (by assumption) (by omega) ?_; rintro _ _ rfl _) | (refine c_drw rfl (by decide) (by decide +kernel) ?_; (repeat (first | (refine hms rfl rfl rfl ?_ ?_; (next => first | exact trivial | omega)) | refine h_skip rfl rfl rfl ?_ | (refine hmw rfl rfl rfl ?_ ?_; (next => first | exact trivial | omega)))); refine h_nil ?_) | (refine c_drp rfl (by decide) (by decide +kernel) ?_; (repeat (first | (refine p_run rfl rfl rfl ?_ ?_; (next => first | exact trivial | omega)) | refine p_skip rfl rfl rfl ?_)); refine p_nil ?_) | (refine lmw rfl rfl rfl ?_ ?_; (next => first | exact trivial | omega)))
        rw [hor]
        refine j_out2 rfl rfl rfl (Sub.refl _) ⟨_, _, false, true, rfl, rfl, hp2, .inr ⟨rfl, fun m hm2 hatm => ?_⟩⟩
        by_cases hq2 : shN m k < 20
        · rw [code_low hq2, isAt_append] at hatm
          have e := ones_same hat hatm.1
          rw [← e, List.length_append, List.length_replicate, List.length_singleton, ← Nat.add_assoc] at hatm
          exact hno2 rfl _ hatm.2
        · rw [code_high hq2, isAt_append] at hatm
          have e := ones_same hat hatm.1
          omega
    · have hj2 : j = 20 := by have := of_decide_eq_false h; omega
      subst hj2
      repeat (first | refine j_app ?_ | refine cc ?_ | ((first | refine lms rfl rfl rfl ?_ ?_ | refine lss rfl rfl ?_ ?_ | refine lns rfl rfl rfl ?_ ?_ | refine lap rfl rfl rfl rfl rfl ?_ rfl ?_); (next => first | exact trivial | omega); intros) | refine c_true rfl ?_ | refine c_false rfl ?_ | refine c_in_other rfl ?_ | refine l_nil ?_ | refine l_skip rfl rfl rfl ?_ | refine l_skip0 rfl rfl ?_ | refine lbd rfl rfl (by kernel_rfl) rfl ?_ | (refine lsl rfl rfl rfl rfl (by kernel_rfl) rfl rfl ?_; intros) | (refine lsl0 rfl rfl ?_; intros) | (refine lix rfl (by omega) ?_; rintro _ rfl) | (refine lixr rfl (by assumption) (by omega) ?_; rintro _ _ rfl _) | (refine c_drw rfl (by decide) (by decide +kernel) ?_; (repeat (first | (refine hms rfl rfl rfl ?_ ?_; (next => first | exact trivial | omega)) | refine h_skip rfl rfl rfl ?_ | (refine hmw rfl rfl rfl ?_ ?_; (next => first | exact trivial | omega)))); refine h_nil ?_) | (refine c_drp rfl (by decide) (by decide +kernel) ?_; (repeat (first | (refine p_run rfl rfl rfl ?_ ?_; (next => first | exact trivial | omega)) | refine p_skip rfl rfl rfl ?_)); refine p_nil ?_) | (refine lmw rfl rfl rfl ?_ ?_; (next => first | exact trivial | omega)))
      refine lfn rfl rfl (Split.cons (Has.here _ _) (Split.cons (Has.here _ _) (Split.nil _))) rfl (fun w hw ho => rnum_any g c A ys _ 17 false w ho hm hp1 (by omega)) ?_
      rintro v S' ⟨x, p2, wr2, rfl, hx, rfl, hp2, hx2⟩
      have hx3 : x < 131072 := by simpa using hx
      have hshx := shN_le x k
      repeat (first | refine j_app ?_ | refine cc ?_ | ((first | refine lms rfl rfl rfl ?_ ?_ | refine lss rfl rfl ?_ ?_ | refine lns rfl rfl rfl ?_ ?_ | refine lap rfl rfl rfl rfl rfl ?_ rfl ?_); (next => first | exact trivial | omega); intros) | refine c_true rfl ?_ | refine c_false rfl ?_ | refine c_in_other rfl ?_ | refine l_nil ?_ | refine l_skip rfl rfl rfl ?_ | refine l_skip0 rfl rfl ?_ | refine lbd rfl rfl (by kernel_rfl) rfl ?_ | (refine lsl rfl rfl rfl rfl (by kernel_rfl) rfl rfl ?_; intros) | (refine lsl0 rfl rfl ?_; intros) | (refine lix rfl (by omega) ?_; rintro _ rfl) | (refine lixr rfl (by assumption) (by omega) ?_; rintro _ _ rfl _) | (refine c_drw rfl (by decide) (by decide +kernel) ?_; (repeat (first | (refine hms rfl rfl rfl ?_ ?_; (next => first | exact trivial | omega)) | refine h_skip rfl rfl rfl ?_ | (refine hmw rfl rfl rfl ?_ ?_; (next => first | exact trivial | omega)))); refine h_nil ?_) | (refine c_drp rfl (by decide) (by decide +kernel) ?_; (repeat (first | (refine p_run rfl rfl rfl ?_ ?_; (next => first | exact trivial | omega)) | refine p_skip rfl rfl rfl ?_)); refine p_nil ?_) | (refine lmw rfl rfl rfl ?_ ?_; (next => first | exact trivial | omega)))
      rcases hx2 with ⟨rfl, -, rfl, hat2⟩ | ⟨rfl, hno2⟩
      · refine c_drw rfl (by decide) (by decide +kernel) ?_
        repeat (first | (refine hms rfl rfl rfl ?_ ?_; (next => first | exact trivial | omega)) | refine h_skip rfl rfl rfl ?_ | (refine hmw rfl rfl rfl ?_ ?_; (next => first | exact trivial | omega)))
        refine hfk (v := .bool true) rfl rfl (Split.cons (Has.here _ _) (Split.cons (Has.here _ _) (Split.nil _))) (Sub.refl _) rfl (fun w hw ho => right_any g c A ys _ false w ho) ?_
        repeat (first | (refine hms rfl rfl rfl ?_ ?_; (next => first | exact trivial | omega)) | refine h_skip rfl rfl rfl ?_ | (refine hmw rfl rfl rfl ?_ ?_; (next => first | exact trivial | omega)))
        refine h_nil ?_
        repeat (first | refine j_app ?_ | refine cc ?_ | ((first | refine lms rfl rfl rfl ?_ ?_ | refine lss rfl rfl ?_ ?_ | refine lns rfl rfl rfl ?_ ?_ | refine lap rfl rfl rfl rfl rfl ?_ rfl ?_); (next => first | exact trivial | omega); intros) | refine c_true rfl ?_ | refine c_false rfl ?_ | refine c_in_other rfl ?_ | refine l_nil ?_ | refine l_skip rfl rfl rfl ?_ | refine l_skip0 rfl rfl ?_ | refine lbd rfl rfl (by kernel_rfl) rfl ?_ | (refine lsl rfl rfl rfl rfl (by kernel_rfl) rfl rfl ?_; intros) | (refine lsl0 rfl rfl ?_; intros) | (refine lix rfl (by omega) ?_; rintro _ rfl) | (refine lixr rfl (by assumption) (by omega) ?_; rintro _ _ rfl _) | (refine c_drw rfl (by decide) (by decide +kernel) ?_; (repeat (first | (refine hms rfl rfl rfl ?_ ?_; (next => first | exact trivial | omega)) | refine h_skip rfl rfl rfl ?_ | (refine hmw rfl rfl rfl ?_ ?_; (next => first | exact trivial | omega)))); refine h_nil ?_) | (refine c_drp rfl (by decide) (by decide +kernel) ?_; (repeat (first | (refine p_run rfl rfl rfl ?_ ?_; (next => first | exact trivial | omega)) | refine p_skip rfl rfl rfl ?_)); refine p_nil ?_) | (refine lmw rfl rfl rfl ?_ ?_; (next => first | exact trivial | omega)))
        refine j_out2 rfl rfl rfl (Sub.refl _) ?_
        by_cases hb : shN x k < 20
        · refine ⟨_, _, false, false, by rw [decide_eq_false (by omega)], rfl, hp2, .inr ⟨rfl, fun m hm2 hatm => ?_⟩⟩
          by_cases hq2 : shN m k < 20
          · rw [code_low hq2, isAt_append] at hatm
            have e := ones_same hat hatm.1
            omega
          · rw [code_high hq2, isAt_append] at hatm
            rw [List.length_append, List.length_replicate, List.length_singleton, ← Nat.add_assoc] at hatm
            have e2 := (isAt_num.1 hatm.2).2
            rw [(isAt_num.1 hat2).2, Nat.mod_eq_of_lt hx, Nat.mod_eq_of_lt hm2] at e2
            subst e2; exact hq2 hb
        · refine ⟨_, _, true, false, by rw [decide_eq_true (by omega)], rfl, hp2, .inl ⟨rfl, rfl, hx3, ?_, ?_⟩⟩
          · unfold sizeN; rw [if_neg hb]
          · rw [code_high hb, isAt_append]
            refine ⟨hat, ?_⟩
            rw [List.length_append, List.length_replicate, List.length_singleton, ← Nat.add_assoc]
            exact hat2
      · refine c_drw rfl (by decide) (by decide +kernel) ?_
        repeat (first | (refine hms rfl rfl rfl ?_ ?_; (next => first | exact trivial | omega)) | refine h_skip rfl rfl rfl ?_ | (refine hmw rfl rfl rfl ?_ ?_; (next => first | exact trivial | omega)))
        refine hfk (v := .bool false) rfl rfl (Split.cons (Has.here _ _) (Split.cons (Has.here _ _) (Split.nil _))) (Sub.refl _) rfl (fun w hw ho => right_any g c A ys _ true w ho) ?_
        repeat (first | (refine hms rfl rfl rfl ?_ ?_; (next => first | exact trivial | omega)) | refine h_skip rfl rfl rfl ?_ | (refine hmw rfl rfl rfl ?_ ?_; (next => first | exact trivial | omega)))
        refine h_nil ?_
        repeat (first | refine j_app ?_ | refine cc ?_ | ((first | refine lms rfl rfl rfl ?_ ?_ | refine lss rfl rfl ?_ ?_ | refine lns rfl rfl rfl ?_ ?_ | refine lap rfl rfl rfl rfl rfl ?_ rfl ?_); (next => first | exact trivial | omega); intros) | refine c_true rfl ?_ | refine c_false rfl ?_ | refine c_in_other rfl ?_ | refine l_nil ?_ | refine l_skip rfl rfl rfl ?_ | refine l_skip0 rfl rfl ?_ | refine lbd rfl rfl (by kernel_rfl) rfl ?_ | (refine lsl rfl rfl rfl rfl (by kernel_rfl) rfl rfl ?_; intros) | (refine lsl0 rfl rfl ?_; intros) | (refine lix rfl (by omega) ?_; rintro _ rfl) | (refine lixr rfl (by assumption) (by omega) ?_; rintro _ _ rfl _) | (refine c_drw rfl (by decide) (by decide +kernel) ?_; (repeat (first | (refine hms rfl rfl rfl ?_ ?_; (next => first | exact trivial | omega)) | refine h_skip rfl rfl rfl ?_ | (refine hmw rfl rfl rfl ?_ ?_; (next => first | exact trivial | omega)))); refine h_nil ?_) | (refine c_drp rfl (by decide) (by decide +kernel) ?_; (repeat (first | (refine p_run rfl rfl rfl ?_ ?_; (next => first | exact trivial | omega)) | refine p_skip rfl rfl rfl ?_)); refine p_nil ?_) | (refine lmw rfl rfl rfl ?_ ?_; (next => first | exact trivial | omega)))
        refine j_out2 rfl rfl rfl (Sub.refl _) ⟨_, _, false, true, rfl, rfl, hp2, .inr ⟨rfl, fun m hm2 hatm => ?_⟩⟩
        by_cases hq2 : shN m k < 20
        · rw [code_low hq2, isAt_append] at hatm
          have e := ones_same hat hatm.1
          omega
        · rw [code_high hq2, isAt_append] at hatm
          rw [List.length_append, List.length_replicate, List.length_singleton, ← Nat.add_assoc] at hatm
          exact hno2 rfl _ hatm.2
  · refine lfk (v := .bool false) rfl rfl (Split.cons (Has.here _ _) (Split.cons (Has.here _ _) (Split.nil _))) (Sub.refl _) rfl (fun w hw ho => right_any g c A ys _ true w ho) ?_
    repeat (first | refine j_app ?_ | refine cc ?_ | ((first | refine lms rfl rfl rfl ?_ ?_ | refine lss rfl rfl ?_ ?_ | refine lns rfl rfl rfl ?_ ?_ | refine lap rfl rfl rfl rfl rfl ?_ rfl ?_); (next => first | exact trivial | omega); intros) | refine c_true rfl ?_ | refine c_false rfl ?_ | refine c_in_other rfl ?_ | refine l_nil ?_ | refine l_skip rfl rfl rfl ?_ | refine l_skip0 rfl rfl ?_ | refine lbd rfl rfl (by kernel_rfl) rfl ?_ | (refine lsl rfl rfl rfl rfl (by kernel_rfl) rfl rfl ?_; intros) | (refine lsl0 rfl rfl ?_; intros) | (refine lix rfl (by omega) ?_; rintro _ rfl) | (refine lixr rfl (by assumption) (by omega) ?_; rintro _ _ rfl _) | (refine c_drw rfl (by decide) (by decide +kernel) ?_; (repeat (first | (refine hms rfl rfl rfl ?_ ?_; (next => first | exact trivial | omega)) | refine h_skip rfl rfl rfl ?_ | (refine hmw rfl rfl rfl ?_ ?_; (next => first | exact trivial | omega)))); refine h_nil ?_) | (refine c_drp rfl (by decide) (by decide +kernel) ?_; (repeat (first | (refine p_run rfl rfl rfl ?_ ?_; (next => first | exact trivial | omega)) | refine p_skip rfl rfl rfl ?_)); refine p_nil ?_) | (refine lmw rfl rfl rfl ?_ ?_; (next => first | exact trivial | omega)))
    refine j_out2 rfl rfl rfl (Sub.refl _) ⟨0, _, false, true, rfl, rfl, hp1, .inr ⟨rfl, fun m hm2 hatm => ?_⟩⟩
    by_cases hq2 : shN m k < 20
    · rw [code_low hq2, isAt_append] at hatm
      exact hno _ (by omega) hatm.1
    · rw [code_high hq2, isAt_append] at hatm
      exact hno 20 (by omega) hatm.1
end Go.Proofs.Ytokoopdkofgabaa
