/- Package rice, and the reference's layer 7: the functions that only reckon; the numbers behind them. -/
import Derived.Test.YtokoopdkofgabaaBits2
import Derived.Test.YtokoopdkofgabaaEng8
namespace Go.Proofs.Ytokoopdkofgabaa
open Go.RowKit

theorem xor_zero (a : Int) : bits .xor .i32 a 0 = IntKind.i32.wrap a := by
  show IntKind.i32.wrap ((BitVec.ofInt 32 a ^^^ BitVec.ofInt 32 0).toNat : Int) = _
  rw [show BitVec.ofInt 32 0 = 0#32 from rfl, BitVec.xor_zero, BitVec.toNat_ofInt]
  simp [IntKind.wrap, IntKind.bits, IntKind.signed]
  omega
theorem xor_ones (a : Int) : bits .xor .i32 a (-1) = IntKind.i32.wrap (-a - 1) := by
  show IntKind.i32.wrap ((BitVec.ofInt 32 a ^^^ BitVec.ofInt 32 (-1)).toNat : Int) = _
  rw [show BitVec.ofInt 32 (-1) = BitVec.allOnes 32 from by decide, BitVec.xor_allOnes, BitVec.toNat_not, BitVec.toNat_ofInt]
  simp [IntKind.wrap, IntKind.bits, IntKind.signed]
  omega

/-- A number folded, and what was folded. -/
def foldI (x : Int) : Int := if x < 0 then -2 * x - 1 else 2 * x
def unfoldI (n : Int) : Int := if n % 2 = 0 then n / 2 else -(n / 2) - 1
theorem foldI_range (x : Int) (h0 : -2147483648 ≤ x) (h1 : x ≤ 2147483647) : 0 ≤ foldI x ∧ foldI x ≤ 4294967295 := by unfold foldI; split <;> omega
theorem fold_eq (x : Int) (h0 : -2147483648 ≤ x) (h1 : x ≤ 2147483647) :
    IntKind.u32.wrap (bits .xor .i32 (IntKind.i32.wrap (x * 2 ^ 1)) (x / 2 ^ 31)) = foldI x := by
  unfold foldI
  by_cases hx : x < 0
  · rw [if_pos hx, show x / 2 ^ 31 = -1 from by omega, xor_ones]
    simp [IntKind.wrap, IntKind.bits, IntKind.signed]
    omega
  · rw [if_neg hx, show x / 2 ^ 31 = 0 from by omega, xor_zero]
    simp [IntKind.wrap, IntKind.bits, IntKind.signed]
    omega
theorem and_one_u32 (n : Int) (h0 : 0 ≤ n) (h1 : n ≤ 4294967295) : bits .and .u32 n 1 = n % 2 := by
  obtain ⟨m, rfl⟩ := Int.eq_ofNat_of_zero_le h0
  show IntKind.u32.wrap ((BitVec.ofInt 32 (m : Int) &&& BitVec.ofInt 32 1).toNat : Int) = _
  have e : (BitVec.ofInt 32 (m : Int) &&& BitVec.ofInt 32 1).toNat = m % 2 := by
    rw [BitVec.toNat_and, BitVec.ofInt_natCast, BitVec.toNat_ofNat, Nat.mod_eq_of_lt (by omega)]
    exact Nat.and_one_is_mod m
  rw [e, wrap_in (k := .u32) (c := ((m % 2 : Nat) : Int)) ⟨by omega, by omega⟩]
  omega
theorem unfold_eq (n : Int) (h0 : 0 ≤ n) (h1 : n ≤ 4294967295) :
    bits .xor .i32 (n / 2 ^ 1) (IntKind.i32.wrap (0 - IntKind.i32.wrap (bits .and .u32 n 1))) = unfoldI n := by
  rw [and_one_u32 n h0 h1]
  unfold unfoldI
  by_cases hx : n % 2 = 0
  · rw [if_pos hx, hx, show IntKind.i32.wrap (0 - IntKind.i32.wrap 0) = 0 from by decide, xor_zero]
    simp [IntKind.wrap, IntKind.bits, IntKind.signed]
    omega
  · rw [if_neg hx, show n % 2 = 1 from by omega, show IntKind.i32.wrap (0 - IntKind.i32.wrap 1) = -1 from by decide, xor_ones]
    simp [IntKind.wrap, IntKind.bits, IntKind.signed]
    omega
theorem unfold_fold (x : Int) : unfoldI (foldI x) = x := by unfold unfoldI foldI; split <;> split <;> omega
theorem fold_unfold (n : Int) (h : 0 ≤ n) : foldI (unfoldI n) = n := by unfold unfoldI foldI; split <;> split <;> omega
theorem unfoldI_range (n : Int) (h0 : 0 ≤ n) (h1 : n ≤ 4294967295) : -2147483648 ≤ unfoldI n ∧ unfoldI n ≤ 2147483647 := by unfold unfoldI; split <;> omega
theorem foldI_inj (x y : Int) : foldI x = foldI y ↔ x = y := ⟨fun h => by rw [← unfold_fold x, h, unfold_fold], fun h => by rw [h]⟩

def foldN (x : Int) : Nat := (foldI x).toNat
theorem foldN_cast (x : Int) : (foldN x : Int) = foldI x := by unfold foldN foldI; split <;> omega
theorem foldN_le (x : Int) (h0 : -2147483648 ≤ x) (h1 : x ≤ 2147483647) : foldN x ≤ 4294967295 := by have := foldI_range x h0 h1; have := foldN_cast x; omega
attribute [local irreducible] OJ J HdJ Code.wpIn wpListIn Oper.wpIn bodyPost CallsIn Does
set_option maxRecDepth 4000

set_option maxHeartbeats 1000000 in
theorem fold_any (x : Int) (w : World) (h0 : -2147483648 ≤ x) (h1 : x ≤ 2147483647) : Does Try.prog 153 [.int .i32 x] [] w (fun v S' => v = .int .u32 (foldN x : Nat) ∧ S' = []) := by
  have he := fold_eq x h0 h1
  refine does_of Try.func153 rfl Try.ntmps153 rfl ⟨by simp, .nil⟩ (fun n => ?_)
  simp only [slots]
  repeat (first | refine j_app ?_ | refine cc ?_ | ((first | refine lms rfl rfl rfl ?_ ?_ | refine lss rfl rfl ?_ ?_ | refine lns rfl rfl rfl ?_ ?_ | refine lap rfl rfl rfl rfl rfl ?_ rfl ?_); (next => first | exact trivial | omega); intros) | refine c_true rfl ?_ | refine c_false rfl ?_ | refine c_in_other rfl ?_ | refine l_nil ?_ | refine l_skip rfl rfl rfl ?_ | refine l_skip0 rfl rfl ?_ | refine lbd rfl rfl (by kernel_rfl) rfl ?_ | (refine lsl rfl rfl rfl rfl (by kernel_rfl) rfl rfl ?_; intros) | (refine lsl0 rfl rfl ?_; intros) | (refine lix rfl (by omega) ?_; rintro _ rfl) | (refine lixr rfl (by assumption) (by omega) ?_; rintro _ _ rfl _) | (refine c_drw rfl (by decide) (by decide +kernel) ?_; (repeat (first | (refine hms rfl rfl rfl ?_ ?_; (next => first | exact trivial | omega)) | refine h_skip rfl rfl rfl ?_ | (refine hmw rfl rfl rfl ?_ ?_; (next => first | exact trivial | omega)))); refine h_nil ?_) | (refine c_drp rfl (by decide) (by decide +kernel) ?_; (repeat (first | (refine p_run rfl rfl rfl ?_ ?_; (next => first | exact trivial | omega)) | refine p_skip rfl rfl rfl ?_)); refine p_nil ?_) | (refine lmw rfl rfl rfl ?_ ?_; (next => first | exact trivial | omega)))
  exact j_out1 rfl rfl (.nil _) ⟨congrArg (Value.int .u32) (he.trans (foldN_cast x).symm), rfl⟩
set_option maxHeartbeats 1000000 in
theorem unfold_any (x : Int) (w : World) (h0 : 0 ≤ x) (h1 : x ≤ 4294967295) : Does Try.prog 138 [.int .u32 x] [] w (fun v S' => v = .int .i32 (unfoldI x) ∧ S' = []) := by
  have he := unfold_eq x h0 h1
  refine does_of Try.func138 rfl Try.ntmps138 rfl ⟨by simp, .nil⟩ (fun n => ?_)
  simp only [slots]
  repeat (first | refine j_app ?_ | refine cc ?_ | ((first | refine lms rfl rfl rfl ?_ ?_ | refine lss rfl rfl ?_ ?_ | refine lns rfl rfl rfl ?_ ?_ | refine lap rfl rfl rfl rfl rfl ?_ rfl ?_); (next => first | exact trivial | omega); intros) | refine c_true rfl ?_ | refine c_false rfl ?_ | refine c_in_other rfl ?_ | refine l_nil ?_ | refine l_skip rfl rfl rfl ?_ | refine l_skip0 rfl rfl ?_ | refine lbd rfl rfl (by kernel_rfl) rfl ?_ | (refine lsl rfl rfl rfl rfl (by kernel_rfl) rfl rfl ?_; intros) | (refine lsl0 rfl rfl ?_; intros) | (refine lix rfl (by omega) ?_; rintro _ rfl) | (refine lixr rfl (by assumption) (by omega) ?_; rintro _ _ rfl _) | (refine c_drw rfl (by decide) (by decide +kernel) ?_; (repeat (first | (refine hms rfl rfl rfl ?_ ?_; (next => first | exact trivial | omega)) | refine h_skip rfl rfl rfl ?_ | (refine hmw rfl rfl rfl ?_ ?_; (next => first | exact trivial | omega)))); refine h_nil ?_) | (refine c_drp rfl (by decide) (by decide +kernel) ?_; (repeat (first | (refine p_run rfl rfl rfl ?_ ?_; (next => first | exact trivial | omega)) | refine p_skip rfl rfl rfl ?_)); refine p_nil ?_) | (refine lmw rfl rfl rfl ?_ ?_; (next => first | exact trivial | omega)))
  exact j_out1 rfl rfl (.nil _) ⟨congrArg (Value.int .i32) he, rfl⟩
set_option maxHeartbeats 1000000 in
theorem rfold_any (x : Int) (w : World) (h0 : -2147483648 ≤ x) (h1 : x ≤ 2147483647) : Does Try.prog 149 [.int .i32 x] [] w (fun v S' => v = .int .u32 (foldN x : Nat) ∧ S' = []) := by
  refine does_of Try.func149 rfl Try.ntmps149 rfl ⟨by simp, .nil⟩ (fun n => ?_)
  simp only [slots]
  repeat (first | refine j_app ?_ | refine cc ?_ | ((first | refine lms rfl rfl rfl ?_ ?_ | refine lss rfl rfl ?_ ?_ | refine lns rfl rfl rfl ?_ ?_ | refine lap rfl rfl rfl rfl rfl ?_ rfl ?_); (next => first | exact trivial | omega); intros) | refine c_true rfl ?_ | refine c_false rfl ?_ | refine c_in_other rfl ?_ | refine l_nil ?_ | refine l_skip rfl rfl rfl ?_ | refine l_skip0 rfl rfl ?_ | refine lbd rfl rfl (by kernel_rfl) rfl ?_ | (refine lsl rfl rfl rfl rfl (by kernel_rfl) rfl rfl ?_; intros) | (refine lsl0 rfl rfl ?_; intros) | (refine lix rfl (by omega) ?_; rintro _ rfl) | (refine lixr rfl (by assumption) (by omega) ?_; rintro _ _ rfl _) | (refine c_drw rfl (by decide) (by decide +kernel) ?_; (repeat (first | (refine hms rfl rfl rfl ?_ ?_; (next => first | exact trivial | omega)) | refine h_skip rfl rfl rfl ?_ | (refine hmw rfl rfl rfl ?_ ?_; (next => first | exact trivial | omega)))); refine h_nil ?_) | (refine c_drp rfl (by decide) (by decide +kernel) ?_; (repeat (first | (refine p_run rfl rfl rfl ?_ ?_; (next => first | exact trivial | omega)) | refine p_skip rfl rfl rfl ?_)); refine p_nil ?_) | (refine lmw rfl rfl rfl ?_ ?_; (next => first | exact trivial | omega)))
  refine c_cond rfl (fun h => ?_) (fun h => ?_)
  · have hx : x < 0 := by simpa using h
    have he : foldI x = -2 * x - 1 := if_pos hx
    repeat (first | refine j_app ?_ | refine cc ?_ | ((first | refine lms rfl rfl rfl ?_ ?_ | refine lss rfl rfl ?_ ?_ | refine lns rfl rfl rfl ?_ ?_ | refine lap rfl rfl rfl rfl rfl ?_ rfl ?_); (next => first | exact trivial | omega); intros) | refine c_true rfl ?_ | refine c_false rfl ?_ | refine c_in_other rfl ?_ | refine l_nil ?_ | refine l_skip rfl rfl rfl ?_ | refine l_skip0 rfl rfl ?_ | refine lbd rfl rfl (by kernel_rfl) rfl ?_ | (refine lsl rfl rfl rfl rfl (by kernel_rfl) rfl rfl ?_; intros) | (refine lsl0 rfl rfl ?_; intros) | (refine lix rfl (by omega) ?_; rintro _ rfl) | (refine lixr rfl (by assumption) (by omega) ?_; rintro _ _ rfl _) | (refine c_drw rfl (by decide) (by decide +kernel) ?_; (repeat (first | (refine hms rfl rfl rfl ?_ ?_; (next => first | exact trivial | omega)) | refine h_skip rfl rfl rfl ?_ | (refine hmw rfl rfl rfl ?_ ?_; (next => first | exact trivial | omega)))); refine h_nil ?_) | (refine c_drp rfl (by decide) (by decide +kernel) ?_; (repeat (first | (refine p_run rfl rfl rfl ?_ ?_; (next => first | exact trivial | omega)) | refine p_skip rfl rfl rfl ?_)); refine p_nil ?_) | (refine lmw rfl rfl rfl ?_ ?_; (next => first | exact trivial | omega)))
    exact j_out1 rfl rfl (.nil _) ⟨by rw [foldN_cast, he], rfl⟩
  · have hx : ¬ x < 0 := by simpa using h
    have he : foldI x = 2 * x := if_neg hx
    repeat (first | refine j_app ?_ | refine cc ?_ | ((first | refine lms rfl rfl rfl ?_ ?_ | refine lss rfl rfl ?_ ?_ | refine lns rfl rfl rfl ?_ ?_ | refine lap rfl rfl rfl rfl rfl ?_ rfl ?_); (next => first | exact trivial | omega); intros) | refine c_true rfl ?_ | refine c_false rfl ?_ | refine c_in_other rfl ?_ | refine l_nil ?_ | refine l_skip rfl rfl rfl ?_ | refine l_skip0 rfl rfl ?_ | refine lbd rfl rfl (by kernel_rfl) rfl ?_ | (refine lsl rfl rfl rfl rfl (by kernel_rfl) rfl rfl ?_; intros) | (refine lsl0 rfl rfl ?_; intros) | (refine lix rfl (by omega) ?_; rintro _ rfl) | (refine lixr rfl (by assumption) (by omega) ?_; rintro _ _ rfl _) | (refine c_drw rfl (by decide) (by decide +kernel) ?_; (repeat (first | (refine hms rfl rfl rfl ?_ ?_; (next => first | exact trivial | omega)) | refine h_skip rfl rfl rfl ?_ | (refine hmw rfl rfl rfl ?_ ?_; (next => first | exact trivial | omega)))); refine h_nil ?_) | (refine c_drp rfl (by decide) (by decide +kernel) ?_; (repeat (first | (refine p_run rfl rfl rfl ?_ ?_; (next => first | exact trivial | omega)) | refine p_skip rfl rfl rfl ?_)); refine p_nil ?_) | (refine lmw rfl rfl rfl ?_ ?_; (next => first | exact trivial | omega)))
    exact j_out1 rfl rfl (.nil _) ⟨by rw [foldN_cast, he], rfl⟩

/-- How many bits a code has. -/
def sizeN (n k : Nat) : Nat := if shN n k < 20 then shN n k + 1 + k else 38
set_option maxHeartbeats 1000000 in
theorem size_any (x k : Nat) (w : World) (hx : x ≤ 4294967295) (hk : k ≤ 16) : Does Try.prog 150 [.int .u32 x, .int .i64 k] [] w (fun v S' => v = .int .i64 (sizeN x k) ∧ S' = []) := by
  have hd : shN x k ≤ x := shN_le _ _
  refine does_of Try.func150 rfl Try.ntmps150 rfl ⟨by simp, .nil⟩ (fun n => ?_)
  simp only [slots]
  repeat (first | refine j_app ?_ | refine cc ?_ | ((first | refine lms rfl rfl rfl ?_ ?_ | refine lss rfl rfl ?_ ?_ | refine lns rfl rfl rfl ?_ ?_ | refine lap rfl rfl rfl rfl rfl ?_ rfl ?_); (next => first | exact trivial | omega); intros) | refine c_true rfl ?_ | refine c_false rfl ?_ | refine c_in_other rfl ?_ | refine l_nil ?_ | refine l_skip rfl rfl rfl ?_ | refine l_skip0 rfl rfl ?_ | refine lbd rfl rfl (by kernel_rfl) rfl ?_ | (refine lsl rfl rfl rfl rfl (by kernel_rfl) rfl rfl ?_; intros) | (refine lsl0 rfl rfl ?_; intros) | (refine lix rfl (by omega) ?_; rintro _ rfl) | (refine lixr rfl (by assumption) (by omega) ?_; rintro _ _ rfl _) | (refine c_drw rfl (by decide) (by decide +kernel) ?_; (repeat (first | (refine hms rfl rfl rfl ?_ ?_; (next => first | exact trivial | omega)) | refine h_skip rfl rfl rfl ?_ | (refine hmw rfl rfl rfl ?_ ?_; (next => first | exact trivial | omega)))); refine h_nil ?_) | (refine c_drp rfl (by decide) (by decide +kernel) ?_; (repeat (first | (refine p_run rfl rfl rfl ?_ ?_; (next => first | exact trivial | omega)) | refine p_skip rfl rfl rfl ?_)); refine p_nil ?_) | (refine lmw rfl rfl rfl ?_ ?_; (next => first | exact trivial | omega)))
  refine c_cond rfl (fun h => ?_) (fun h => ?_)
  · have hx : shN x k < 20 := by have := of_decide_eq_true h; omega
    have he : sizeN x k = shN x k + 1 + k := if_pos hx
    repeat (first | refine j_app ?_ | refine cc ?_ | ((first | refine lms rfl rfl rfl ?_ ?_ | refine lss rfl rfl ?_ ?_ | refine lns rfl rfl rfl ?_ ?_ | refine lap rfl rfl rfl rfl rfl ?_ rfl ?_); (next => first | exact trivial | omega); intros) | refine c_true rfl ?_ | refine c_false rfl ?_ | refine c_in_other rfl ?_ | refine l_nil ?_ | refine l_skip rfl rfl rfl ?_ | refine l_skip0 rfl rfl ?_ | refine lbd rfl rfl (by kernel_rfl) rfl ?_ | (refine lsl rfl rfl rfl rfl (by kernel_rfl) rfl rfl ?_; intros) | (refine lsl0 rfl rfl ?_; intros) | (refine lix rfl (by omega) ?_; rintro _ rfl) | (refine lixr rfl (by assumption) (by omega) ?_; rintro _ _ rfl _) | (refine c_drw rfl (by decide) (by decide +kernel) ?_; (repeat (first | (refine hms rfl rfl rfl ?_ ?_; (next => first | exact trivial | omega)) | refine h_skip rfl rfl rfl ?_ | (refine hmw rfl rfl rfl ?_ ?_; (next => first | exact trivial | omega)))); refine h_nil ?_) | (refine c_drp rfl (by decide) (by decide +kernel) ?_; (repeat (first | (refine p_run rfl rfl rfl ?_ ?_; (next => first | exact trivial | omega)) | refine p_skip rfl rfl rfl ?_)); refine p_nil ?_) | (refine lmw rfl rfl rfl ?_ ?_; (next => first | exact trivial | omega)))
    exact j_out1 rfl rfl (.nil _) ⟨by rw [he]; simp, rfl⟩
  · have hx : ¬ shN x k < 20 := by have := of_decide_eq_false h; omega
    have he : sizeN x k = 38 := if_neg hx
    repeat (first | refine j_app ?_ | refine cc ?_ | ((first | refine lms rfl rfl rfl ?_ ?_ | refine lss rfl rfl ?_ ?_ | refine lns rfl rfl rfl ?_ ?_ | refine lap rfl rfl rfl rfl rfl ?_ rfl ?_); (next => first | exact trivial | omega); intros) | refine c_true rfl ?_ | refine c_false rfl ?_ | refine c_in_other rfl ?_ | refine l_nil ?_ | refine l_skip rfl rfl rfl ?_ | refine l_skip0 rfl rfl ?_ | refine lbd rfl rfl (by kernel_rfl) rfl ?_ | (refine lsl rfl rfl rfl rfl (by kernel_rfl) rfl rfl ?_; intros) | (refine lsl0 rfl rfl ?_; intros) | (refine lix rfl (by omega) ?_; rintro _ rfl) | (refine lixr rfl (by assumption) (by omega) ?_; rintro _ _ rfl _) | (refine c_drw rfl (by decide) (by decide +kernel) ?_; (repeat (first | (refine hms rfl rfl rfl ?_ ?_; (next => first | exact trivial | omega)) | refine h_skip rfl rfl rfl ?_ | (refine hmw rfl rfl rfl ?_ ?_; (next => first | exact trivial | omega)))); refine h_nil ?_) | (refine c_drp rfl (by decide) (by decide +kernel) ?_; (repeat (first | (refine p_run rfl rfl rfl ?_ ?_; (next => first | exact trivial | omega)) | refine p_skip rfl rfl rfl ?_)); refine p_nil ?_) | (refine lmw rfl rfl rfl ?_ ?_; (next => first | exact trivial | omega)))
    exact j_out1 rfl rfl (.nil _) ⟨by rw [he]; rfl, rfl⟩

/-- A number's code. -/
def codeB (n k : Nat) : List Bool := if shN n k < 20 then List.replicate (shN n k) true ++ [false] ++ numBits n k else List.replicate 20 true ++ [false] ++ numBits n 17
theorem codeB_len (n k : Nat) : (codeB n k).length = sizeN n k := by
  unfold codeB sizeN; split <;> simp [numBits_len]; omega
set_option maxHeartbeats 1000000 in
theorem put_any (g c : Nat) (A : Option Addr) (bs : List Bool) (x k : Nat) (w : World) (hown : Own (Wr g A c bs) w) (hm : bs.length < 700000000) (hx : x ≤ 4294967295) (hk : k ≤ 16) :
    Does Try.prog 134 [.pointer (some ⟨g, 0, none⟩), .int .u32 x, .int .i64 k] (Wr g A c bs) w (fun v S' => v = .tuple #[] ∧ ∃ A' c', S' = Wr g A' c' (bs ++ codeB x k)) := by
  have hd : shN x k ≤ x := shN_le _ _
  refine does_of Try.func134 rfl Try.ntmps134 rfl hown (fun n => ?_)
  simp only [slots]
  repeat (first | refine j_app ?_ | refine cc ?_ | ((first | refine lms rfl rfl rfl ?_ ?_ | refine lss rfl rfl ?_ ?_ | refine lns rfl rfl rfl ?_ ?_ | refine lap rfl rfl rfl rfl rfl ?_ rfl ?_); (next => first | exact trivial | omega); intros) | refine c_true rfl ?_ | refine c_false rfl ?_ | refine c_in_other rfl ?_ | refine l_nil ?_ | refine l_skip rfl rfl rfl ?_ | refine l_skip0 rfl rfl ?_ | refine lbd rfl rfl (by kernel_rfl) rfl ?_ | (refine lsl rfl rfl rfl rfl (by kernel_rfl) rfl rfl ?_; intros) | (refine lsl0 rfl rfl ?_; intros) | (refine lix rfl (by omega) ?_; rintro _ rfl) | (refine lixr rfl (by assumption) (by omega) ?_; rintro _ _ rfl _) | (refine c_drw rfl (by decide) (by decide +kernel) ?_; (repeat (first | (refine hms rfl rfl rfl ?_ ?_; (next => first | exact trivial | omega)) | refine h_skip rfl rfl rfl ?_ | (refine hmw rfl rfl rfl ?_ ?_; (next => first | exact trivial | omega)))); refine h_nil ?_) | (refine c_drp rfl (by decide) (by decide +kernel) ?_; (repeat (first | (refine p_run rfl rfl rfl ?_ ?_; (next => first | exact trivial | omega)) | refine p_skip rfl rfl rfl ?_)); refine p_nil ?_) | (refine lmw rfl rfl rfl ?_ ?_; (next => first | exact trivial | omega)))
  refine c_cond rfl (fun h => ?_) (fun h => ?_)
  · have hx : shN x k < 20 := by have := of_decide_eq_true h; omega
    have he : codeB x k = List.replicate (shN x k) true ++ [false] ++ numBits x k := if_pos hx
    repeat (first | refine j_app ?_ | refine cc ?_ | ((first | refine lms rfl rfl rfl ?_ ?_ | refine lss rfl rfl ?_ ?_ | refine lns rfl rfl rfl ?_ ?_ | refine lap rfl rfl rfl rfl rfl ?_ rfl ?_); (next => first | exact trivial | omega); intros) | refine c_true rfl ?_ | refine c_false rfl ?_ | refine c_in_other rfl ?_ | refine l_nil ?_ | refine l_skip rfl rfl rfl ?_ | refine l_skip0 rfl rfl ?_ | refine lbd rfl rfl (by kernel_rfl) rfl ?_ | (refine lsl rfl rfl rfl rfl (by kernel_rfl) rfl rfl ?_; intros) | (refine lsl0 rfl rfl ?_; intros) | (refine lix rfl (by omega) ?_; rintro _ rfl) | (refine lixr rfl (by assumption) (by omega) ?_; rintro _ _ rfl _) | (refine c_drw rfl (by decide) (by decide +kernel) ?_; (repeat (first | (refine hms rfl rfl rfl ?_ ?_; (next => first | exact trivial | omega)) | refine h_skip rfl rfl rfl ?_ | (refine hmw rfl rfl rfl ?_ ?_; (next => first | exact trivial | omega)))); refine h_nil ?_) | (refine c_drp rfl (by decide) (by decide +kernel) ?_; (repeat (first | (refine p_run rfl rfl rfl ?_ ?_; (next => first | exact trivial | omega)) | refine p_skip rfl rfl rfl ?_)); refine p_nil ?_) | (refine lmw rfl rfl rfl ?_ ?_; (next => first | exact trivial | omega)))
    refine lfn rfl rfl (Split.cons (Has.here _ _) (Split.cons (Has.here _ _) (Split.nil _))) rfl (fun w hw ho => ones_any g c A bs _ w ho (by omega)) ?_
    rintro v S' ⟨rfl, A1, c1, rfl⟩
    repeat (first | refine j_app ?_ | refine cc ?_ | ((first | refine lms rfl rfl rfl ?_ ?_ | refine lss rfl rfl ?_ ?_ | refine lns rfl rfl rfl ?_ ?_ | refine lap rfl rfl rfl rfl rfl ?_ rfl ?_); (next => first | exact trivial | omega); intros) | refine c_true rfl ?_ | refine c_false rfl ?_ | refine c_in_other rfl ?_ | refine l_nil ?_ | refine l_skip rfl rfl rfl ?_ | refine l_skip0 rfl rfl ?_ | refine lbd rfl rfl (by kernel_rfl) rfl ?_ | (refine lsl rfl rfl rfl rfl (by kernel_rfl) rfl rfl ?_; intros) | (refine lsl0 rfl rfl ?_; intros) | (refine lix rfl (by omega) ?_; rintro _ rfl) | (refine lixr rfl (by assumption) (by omega) ?_; rintro _ _ rfl _) | (refine c_drw rfl (by decide) (by decide +kernel) ?_; (repeat (first | (refine hms rfl rfl rfl ?_ ?_; (next => first | exact trivial | omega)) | refine h_skip rfl rfl rfl ?_ | (refine hmw rfl rfl rfl ?_ ?_; (next => first | exact trivial | omega)))); refine h_nil ?_) | (refine c_drp rfl (by decide) (by decide +kernel) ?_; (repeat (first | (refine p_run rfl rfl rfl ?_ ?_; (next => first | exact trivial | omega)) | refine p_skip rfl rfl rfl ?_)); refine p_nil ?_) | (refine lmw rfl rfl rfl ?_ ?_; (next => first | exact trivial | omega)))
    refine lfn rfl rfl (Split.cons (Has.here _ _) (Split.cons (Has.here _ _) (Split.nil _))) rfl (fun w hw ho => num_any g c1 A1 _ x k w ho (by simp; omega) (by omega) (by omega)) ?_
    rintro v S' ⟨rfl, A2, c2, rfl⟩
    repeat (first | refine j_app ?_ | refine cc ?_ | ((first | refine lms rfl rfl rfl ?_ ?_ | refine lss rfl rfl ?_ ?_ | refine lns rfl rfl rfl ?_ ?_ | refine lap rfl rfl rfl rfl rfl ?_ rfl ?_); (next => first | exact trivial | omega); intros) | refine c_true rfl ?_ | refine c_false rfl ?_ | refine c_in_other rfl ?_ | refine l_nil ?_ | refine l_skip rfl rfl rfl ?_ | refine l_skip0 rfl rfl ?_ | refine lbd rfl rfl (by kernel_rfl) rfl ?_ | (refine lsl rfl rfl rfl rfl (by kernel_rfl) rfl rfl ?_; intros) | (refine lsl0 rfl rfl ?_; intros) | (refine lix rfl (by omega) ?_; rintro _ rfl) | (refine lixr rfl (by assumption) (by omega) ?_; rintro _ _ rfl _) | (refine c_drw rfl (by decide) (by decide +kernel) ?_; (repeat (first | (refine hms rfl rfl rfl ?_ ?_; (next => first | exact trivial | omega)) | refine h_skip rfl rfl rfl ?_ | (refine hmw rfl rfl rfl ?_ ?_; (next => first | exact trivial | omega)))); refine h_nil ?_) | (refine c_drp rfl (by decide) (by decide +kernel) ?_; (repeat (first | (refine p_run rfl rfl rfl ?_ ?_; (next => first | exact trivial | omega)) | refine p_skip rfl rfl rfl ?_)); refine p_nil ?_) | (refine lmw rfl rfl rfl ?_ ?_; (next => first | exact trivial | omega)))
    rw [List.append_assoc, List.append_assoc, ← List.append_assoc _ [false], ← he]
    exact j_out0 rfl (Sub.refl _) ⟨rfl, A2, c2, rfl⟩
  · have hx : ¬ shN x k < 20 := by have := of_decide_eq_false h; omega
    have he : codeB x k = List.replicate 20 true ++ [false] ++ numBits x 17 := if_neg hx
    repeat (first | refine j_app ?_ | refine cc ?_ | ((first | refine lms rfl rfl rfl ?_ ?_ | refine lss rfl rfl ?_ ?_ | refine lns rfl rfl rfl ?_ ?_ | refine lap rfl rfl rfl rfl rfl ?_ rfl ?_); (next => first | exact trivial | omega); intros) | refine c_true rfl ?_ | refine c_false rfl ?_ | refine c_in_other rfl ?_ | refine l_nil ?_ | refine l_skip rfl rfl rfl ?_ | refine l_skip0 rfl rfl ?_ | refine lbd rfl rfl (by kernel_rfl) rfl ?_ | (refine lsl rfl rfl rfl rfl (by kernel_rfl) rfl rfl ?_; intros) | (refine lsl0 rfl rfl ?_; intros) | (refine lix rfl (by omega) ?_; rintro _ rfl) | (refine lixr rfl (by assumption) (by omega) ?_; rintro _ _ rfl _) | (refine c_drw rfl (by decide) (by decide +kernel) ?_; (repeat (first | (refine hms rfl rfl rfl ?_ ?_; (next => first | exact trivial | omega)) | refine h_skip rfl rfl rfl ?_ | (refine hmw rfl rfl rfl ?_ ?_; (next => first | exact trivial | omega)))); refine h_nil ?_) | (refine c_drp rfl (by decide) (by decide +kernel) ?_; (repeat (first | (refine p_run rfl rfl rfl ?_ ?_; (next => first | exact trivial | omega)) | refine p_skip rfl rfl rfl ?_)); refine p_nil ?_) | (refine lmw rfl rfl rfl ?_ ?_; (next => first | exact trivial | omega)))
    refine lfn rfl rfl (Split.cons (Has.here _ _) (Split.cons (Has.here _ _) (Split.nil _))) rfl (fun w hw ho => ones_any g c A bs 20 w ho (by omega)) ?_
    rintro v S' ⟨rfl, A1, c1, rfl⟩
    repeat (first | refine j_app ?_ | refine cc ?_ | ((first | refine lms rfl rfl rfl ?_ ?_ | refine lss rfl rfl ?_ ?_ | refine lns rfl rfl rfl ?_ ?_ | refine lap rfl rfl rfl rfl rfl ?_ rfl ?_); (next => first | exact trivial | omega); intros) | refine c_true rfl ?_ | refine c_false rfl ?_ | refine c_in_other rfl ?_ | refine l_nil ?_ | refine l_skip rfl rfl rfl ?_ | refine l_skip0 rfl rfl ?_ | refine lbd rfl rfl (by kernel_rfl) rfl ?_ | (refine lsl rfl rfl rfl rfl (by kernel_rfl) rfl rfl ?_; intros) | (refine lsl0 rfl rfl ?_; intros) | (refine lix rfl (by omega) ?_; rintro _ rfl) | (refine lixr rfl (by assumption) (by omega) ?_; rintro _ _ rfl _) | (refine c_drw rfl (by decide) (by decide +kernel) ?_; (repeat (first | (refine hms rfl rfl rfl ?_ ?_; (next => first | exact trivial | omega)) | refine h_skip rfl rfl rfl ?_ | (refine hmw rfl rfl rfl ?_ ?_; (next => first | exact trivial | omega)))); refine h_nil ?_) | (refine c_drp rfl (by decide) (by decide +kernel) ?_; (repeat (first | (refine p_run rfl rfl rfl ?_ ?_; (next => first | exact trivial | omega)) | refine p_skip rfl rfl rfl ?_)); refine p_nil ?_) | (refine lmw rfl rfl rfl ?_ ?_; (next => first | exact trivial | omega)))
    refine lfn rfl rfl (Split.cons (Has.here _ _) (Split.cons (Has.here _ _) (Split.nil _))) rfl (fun w hw ho => num_any g c1 A1 _ x 17 w ho (by simp; omega) (by omega) (by omega)) ?_
    rintro v S' ⟨rfl, A2, c2, rfl⟩
    repeat (first | refine j_app ?_ | refine cc ?_ | ((first | refine lms rfl rfl rfl ?_ ?_ | refine lss rfl rfl ?_ ?_ | refine lns rfl rfl rfl ?_ ?_ | refine lap rfl rfl rfl rfl rfl ?_ rfl ?_); (next => first | exact trivial | omega); intros) | refine c_true rfl ?_ | refine c_false rfl ?_ | refine c_in_other rfl ?_ | refine l_nil ?_ | refine l_skip rfl rfl rfl ?_ | refine l_skip0 rfl rfl ?_ | refine lbd rfl rfl (by kernel_rfl) rfl ?_ | (refine lsl rfl rfl rfl rfl (by kernel_rfl) rfl rfl ?_; intros) | (refine lsl0 rfl rfl ?_; intros) | (refine lix rfl (by omega) ?_; rintro _ rfl) | (refine lixr rfl (by assumption) (by omega) ?_; rintro _ _ rfl _) | (refine c_drw rfl (by decide) (by decide +kernel) ?_; (repeat (first | (refine hms rfl rfl rfl ?_ ?_; (next => first | exact trivial | omega)) | refine h_skip rfl rfl rfl ?_ | (refine hmw rfl rfl rfl ?_ ?_; (next => first | exact trivial | omega)))); refine h_nil ?_) | (refine c_drp rfl (by decide) (by decide +kernel) ?_; (repeat (first | (refine p_run rfl rfl rfl ?_ ?_; (next => first | exact trivial | omega)) | refine p_skip rfl rfl rfl ?_)); refine p_nil ?_) | (refine lmw rfl rfl rfl ?_ ?_; (next => first | exact trivial | omega)))
    rw [List.append_assoc, List.append_assoc, ← List.append_assoc _ [false], ← he]
    exact j_outN rfl (Sub.refl _) ⟨rfl, A2, c2, rfl⟩
end Go.Proofs.Ytokoopdkofgabaa
