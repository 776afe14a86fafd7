import Derived.Laws.BytesArg
import Derived.Laws.Strings
import Derived.Laws.Pointers
import Derived.Laws.CopyRow
import Derived.Laws.MakeOwn
import Derived.Laws.Slices
import Derived.Test.YtemmnpgebpffbaaGreatMG04
set_option linter.unusedVariables false
set_option linter.unusedSimpArgs false
/- Package bits: the writer's Num; the reader. -/
namespace Go.Proofs.YtemmnpgebpffbaaGreat
open Go.RowKit
attribute [local irreducible] OJ J HdJ Code.wpIn wpListIn Oper.wpIn bodyPost CallsIn Does
set_option maxRecDepth 4000

theorem and_oneN (n : Nat) (h : n < 18446744073709551616) : bits .and .u64 (n : Int) 1 = ((n % 2 : Nat) : Int) := by
  show IntKind.u64.wrap ((BitVec.ofInt 64 (n : Int) &&& BitVec.ofInt 64 1).toNat : Int) = _
  have e : (BitVec.ofInt 64 (n : Int) &&& BitVec.ofInt 64 1).toNat = n % 2 := by
    rw [BitVec.toNat_and, BitVec.ofInt_natCast, BitVec.toNat_ofNat, Nat.mod_eq_of_lt (by omega)]
    exact Nat.and_one_is_mod n
  rw [e, wrap_in (k := .u64) (c := ((n % 2 : Nat) : Int)) ⟨by omega, by omega⟩]
/-- The lowest bits of a number, the highest first. -/
def numBits (x m : Nat) : List Bool := (List.range m).map fun i => x.testBit (m - 1 - i)
theorem numBits_len (x m : Nat) : (numBits x m).length = m := by simp [numBits]
theorem numBits_take (x m i : Nat) (h : i < m) : (numBits x m).take (i + 1) = (numBits x m).take i ++ [x.testBit (m - 1 - i)] := by
  rw [List.take_succ_eq_append_getElem (by rw [numBits_len]; exact h)]
  simp [numBits]

set_option maxHeartbeats 1000000 in
theorem num_any (g c : Nat) (A : Option Addr) (bs : List Bool) (x m : Nat) (w : World) (hown : Own (Wr g A c bs) w) (hm : bs.length < 800000000) (hx : x < 18446744073709551616) (h64 : m ≤ 64) :
    Does Tryz.prog 133 [.pointer (some ⟨g, 0, none⟩), .int .u64 x, .int .i64 m] (Wr g A c bs) w (fun v S' => v = .tuple #[] ∧ ∃ A' c', S' = Wr g A' c' (bs ++ numBits x m)) := by
  have hnl := numBits_len x m
  refine does_of Tryz.func133 rfl Tryz.ntmps133 rfl hown (fun n => ?_)
  simp only [slots]
  refine z_go2
  refine c_loop (X := Nat × Option Addr × Nat) (fun x => x.1 ≤ m) (fun y => [(0, .pointer (some ⟨g, 0, none⟩)), (1, .int .u64 x), (2, .int .i64 m), (8, .int .i64 m), (9, .int .i64 y.1)]) (fun y => Wr g y.2.1 y.2.2 (bs ++ (numBits x m).take y.1)) (fun y => m - y.1) (0, A, c) (by simp) ⟨rfl, rfl, rfl, rfl, rfl, trivial⟩ ?_ ?_
  · simp only [List.take_zero, List.append_nil]; exact Sub.refl _
  rintro ⟨i, A1, c1⟩ hi
  simp only at hi ⊢
  refine z_go2
  refine c_cond rfl (fun h => ?_) (fun h => ?_)
  · have hlt : i < m := by simpa using h
    refine z_go2
    refine j_case 19 rfl (fun h2 => ?_) (fun h2 => by exfalso; simp at h2; omega)
    refine z_go2
    have hx2 : x / 2 ^ (m - 1 - i) < 18446744073709551616 := Nat.lt_of_le_of_lt (Nat.div_le_self _ _) hx
    have hb : (bits .and .u64 ((x : Int) / 2 ^ ((m : Int) - 1 - i).toNat) 1 == 1) = x.testBit (m - 1 - i) := by
      have e : (x : Int) / 2 ^ ((m : Int) - 1 - i).toNat = ((x / 2 ^ (m - 1 - i) : Nat) : Int) := by
        rw [show ((m : Int) - 1 - i).toNat = m - 1 - i from by omega]; push_cast; rfl
      rw [e, and_oneN _ hx2]
      rw [Nat.testBit_eq_decide_div_mod_eq, Bool.eq_iff_iff]; simp only [beq_iff_eq, decide_eq_true_eq]; omega
    rw [hb]
    refine lfn rfl rfl (Split.cons (Has.here _ _) (Split.cons (Has.here _ _) (Split.nil _))) rfl (fun w hw ho => bit_any g c1 A1 _ _ w ho (by simp; omega)) ?_
    rintro v S' ⟨rfl, A2, c2, rfl⟩
    refine z_go2
    refine c_round (i + 1, A2, c2) (by show i + 1 ≤ m; omega) (by show m - (i + 1) < m - i; omega) (by exact ⟨rfl, rfl, rfl, rfl, by simp [look], trivial⟩) ?_
    rw [numBits_take x m i hlt, ← List.append_assoc]
    exact Sub.refl _
  · have hge : i = m := by simp at h; omega
    subst hge
    refine z_go2
    rw [List.take_of_length_le (by omega)]
    exact j_outN rfl (Sub.refl _) ⟨rfl, A1, c1, rfl⟩

/-- A reader at block g, of the bytes ys, at bit p. -/
abbrev Rd (g : Nat) (A : Option Addr) (c : Nat) (ys : List Int) (p : Nat) (wr : Bool) : List HE :=
  [.blk g 248 [.slice A ys.length c, .int .i64 p, .bool wr], .row (.slice A ys.length c) 5 1 ys.length (ints .u8 ys)]

set_option maxHeartbeats 1000000 in
theorem read_any (u : Value) (ys : List Int) (w : World) (hr : Ro w (blocks []) 1 u ys.length (ints .u8 ys)) (hm : ys.length < 100000000) :
    Does Tryz.prog 148 [u] [] w (fun v S' => ∃ g A' c', v = .pointer (some ⟨g, 0, none⟩) ∧ S' = Rd g A' c' ys 0 false) := by
  refine does_of Tryz.func148 rfl Tryz.ntmps148 rfl ⟨by simp, .nil⟩ (fun n => ?_)
  simp only [slots]
  have := RoC.mk hr
  refine z_go2
  exact j_out1 rfl rfl (Sub.refl _) ⟨_, _, _, rfl, rfl⟩

set_option maxHeartbeats 1000000 in
theorem right_any (g c : Nat) (A : Option Addr) (ys : List Int) (p : Nat) (wr : Bool) (w : World) (hown : Own (Rd g A c ys p wr) w) :
    Does Tryz.prog 155 [.pointer (some ⟨g, 0, none⟩)] (Rd g A c ys p wr) w (fun v S' => v = .bool (!wr) ∧ S' = Rd g A c ys p wr) := by
  refine does_of Tryz.func155 rfl Tryz.ntmps155 rfl hown (fun n => ?_)
  simp only [slots]
  refine z_go2
  exact j_out1 rfl rfl (Sub.refl _) ⟨rfl, rfl⟩
set_option maxHeartbeats 1000000 in
theorem left_any (g c : Nat) (A : Option Addr) (ys : List Int) (p : Nat) (wr : Bool) (w : World) (hown : Own (Rd g A c ys p wr) w) (hm : ys.length < 100000000) (hp : p ≤ 8 * ys.length) :
    Does Tryz.prog 158 [.pointer (some ⟨g, 0, none⟩)] (Rd g A c ys p wr) w (fun v S' => v = .int .i64 (8 * ys.length - p) ∧ S' = Rd g A c ys p wr) := by
  refine does_of Tryz.func158 rfl Tryz.ntmps158 rfl hown (fun n => ?_)
  simp only [slots]
  refine z_go2
  exact j_out1 rfl rfl (Sub.refl _) ⟨rfl, rfl⟩

/-- Bit number i of bytes, as the program reckons it. -/
def bitY (ys : List Int) (i : Nat) : Bool := bits .and .u8 (ys.getD (i / 8) 0) (128 / 2 ^ (i % 8)) != 0

set_option maxHeartbeats 2000000 in
theorem rbit_yes (g c : Nat) (A : Option Addr) (ys : List Int) (p : Nat) (w : World) (hown : Own (Rd g A c ys p false) w) (hm : ys.length < 100000000) (hp : p < 8 * ys.length) :
    Does Tryz.prog 159 [.pointer (some ⟨g, 0, none⟩)] (Rd g A c ys p false) w (fun v S' => v = .bool (bitY ys p) ∧ S' = Rd g A c ys (p + 1) false) := by
  refine does_of Tryz.func159 rfl Tryz.ntmps159 rfl hown (fun n => ?_)
  simp only [slots]
  refine z_go2
  refine lfk (v := .int .i64 (8 * ys.length - p)) rfl rfl (Split.cons (Has.here _ _) (Split.cons (Has.here _ _) (Split.nil _))) (Sub.refl _) rfl (fun w hw ho => left_any g c A ys p false w ho hm (by omega)) ?_
  refine z_go2
  refine c_cond rfl (fun h => by exfalso; simp at h; omega) (fun h => ?_)
  refine z_go2
  refine j_opn (A := A) (m := ys.length) (cc := c) (by omega) ?_
  rintro g1 rfl
  refine z_go2
  have e0 : ((p : Int) / 8).toNat = p / 8 := by omega
  have e3 : ((p : Int) % 8).toNat = p % 8 := by omega
  rw [e0, e3]
  exact j_out1 rfl rfl (Sub.refl _) ⟨rfl, rfl⟩

set_option maxHeartbeats 2000000 in
theorem rbit_no (g c : Nat) (A : Option Addr) (ys : List Int) (p : Nat) (wr : Bool) (w : World) (hown : Own (Rd g A c ys p wr) w) (hm : ys.length < 100000000) (hp : wr = true ∧ p ≤ 8 * ys.length ∨ p = 8 * ys.length) :
    Does Tryz.prog 159 [.pointer (some ⟨g, 0, none⟩)] (Rd g A c ys p wr) w (fun v S' => v = .bool false ∧ S' = Rd g A c ys p true) := by
  refine does_of Tryz.func159 rfl Tryz.ntmps159 rfl hown (fun n => ?_)
  simp only [slots]
  cases wr with
  | true =>
    refine z_go2
    exact j_out1 rfl rfl (Sub.refl _) ⟨rfl, rfl⟩
  | false =>
    refine z_go2
    refine lfk (v := .int .i64 (8 * ys.length - p)) rfl rfl (Split.cons (Has.here _ _) (Split.cons (Has.here _ _) (Split.nil _))) (Sub.refl _) rfl (fun w hw ho => left_any g c A ys p false w ho hm (by omega)) ?_
    refine z_go2
    have hp' : p = 8 * ys.length := by rcases hp with ⟨h, -⟩ | h; cases h; exact h
    refine c_cond rfl (fun h => ?_) (fun h => by exfalso; simp at h; omega)
    refine z_go2
    exact j_out1 rfl rfl (Sub.refl _) ⟨rfl, rfl⟩

/-- The number of some bits. -/
def numV (ys : List Int) (p : Nat) : Nat → Nat
  | 0 => 0
  | k + 1 => 2 * numV ys p k + if bitY ys (p + k) then 1 else 0
theorem numV_lt (ys : List Int) (p k : Nat) : numV ys p k < 2 ^ k := by
  induction k with
  | zero => simp [numV]
  | succ k ih => simp only [numV, Nat.pow_succ]; split <;> omega
theorem or_one (v : Nat) (h : 2 * v + 1 < 18446744073709551616) : bits .or .u64 ((2 * v : Nat) : Int) 1 = ((2 * v + 1 : Nat) : Int) := by
  have e : (2 * v) ||| 1 = 2 * v + 1 := by
    have := Nat.two_pow_add_eq_or_of_lt (i := 1) (b := 1) (by omega) v
    simpa using this.symm
  have h1 : (BitVec.ofInt 64 ((2 * v : Nat) : Int) ||| BitVec.ofInt 64 1).toNat = 2 * v + 1 := by
    rw [BitVec.toNat_or, BitVec.ofInt_natCast, BitVec.toNat_ofNat, Nat.mod_eq_of_lt (by omega)]
    exact e
  show IntKind.u64.wrap ((BitVec.ofInt 64 ((2 * v : Nat) : Int) ||| BitVec.ofInt 64 1).toNat : Int) = _
  rw [h1, wrap_in]
  exact ⟨by omega, by omega⟩

set_option maxHeartbeats 2000000 in
theorem rnum_yes (g c : Nat) (A : Option Addr) (ys : List Int) (p m : Nat) (w : World) (hown : Own (Rd g A c ys p false) w) (hm : ys.length < 100000000) (hp : p + m ≤ 8 * ys.length) (h64 : m ≤ 63) :
    Does Tryz.prog 154 [.pointer (some ⟨g, 0, none⟩), .int .i64 m] (Rd g A c ys p false) w (fun v S' => v = .int .u64 (numV ys p m) ∧ S' = Rd g A c ys (p + m) false) := by
  refine does_of Tryz.func154 rfl Tryz.ntmps154 rfl hown (fun n => ?_)
  simp only [slots]
  refine z_go2
  refine j_case 8 rfl (fun h => by exfalso; simp at h; omega) (fun h => ?_)
  refine z_go2
  refine lfk (v := .int .i64 (8 * ys.length - p)) rfl rfl (Split.cons (Has.here _ _) (Split.cons (Has.here _ _) (Split.nil _))) (Sub.refl _) rfl (fun w hw ho => left_any g c A ys p false w ho hm (by omega)) ?_
  refine z_go2
  refine j_case 14 rfl (fun h => by exfalso; simp at h; omega) (fun h => ?_)
  refine z_go2
  refine c_loop (X := Nat) (fun i => i ≤ m) (fun i => [(0, .pointer (some ⟨g, 0, none⟩)), (1, .int .i64 m), (5, .int .u64 (numV ys p i)), (23, .int .i64 m), (24, .int .i64 i)]) (fun i => Rd g A c ys (p + i) false) (fun i => m - i) 0 (by simp) ⟨rfl, rfl, rfl, rfl, rfl, trivial⟩ (Sub.refl _) ?_
  intro i hi
  refine z_go2
  refine c_cond rfl (fun h => ?_) (fun h => ?_)
  · have hlt : i < m := by simpa using h
    have hv := numV_lt ys p i
    have h2 : 2 ^ i * 4 ≤ 2 ^ 64 := by rw [show (4 : Nat) = 2 ^ 2 from rfl, ← Nat.pow_add]; exact Nat.pow_le_pow_right (by omega) (by omega)
    rw [show (2 : Nat) ^ 64 = 18446744073709551616 from by decide] at h2
    refine z_go2
    rw [show (numV ys p i : Int) * 2 ^ 1 = ((2 * numV ys p i : Nat) : Int) from by omega]
    refine lfn rfl rfl (Split.cons (Has.here _ _) (Split.cons (Has.here _ _) (Split.nil _))) rfl (fun w hw ho => rbit_yes g c A ys (p + i) w ho hm (by omega)) ?_
    rintro v S' ⟨rfl, rfl⟩
    refine z_go2
    have hor := or_one (numV ys p i) (by omega)
    refine c_cond rfl (fun hb => ?_) (fun hb => ?_)
    · have e1 : numV ys p (i + 1) = 2 * numV ys p i + 1 := by simp [numV, hb]
      refine z_go2
      refine c_round (i + 1) (by show i + 1 ≤ m; omega) (by show m - (i + 1) < m - i; omega) (by refine ⟨rfl, rfl, ?_, rfl, by simp [look], trivial⟩; rw [e1, ← hor]; rfl) ?_
      exact (Sub.refl _)
    · have e1 : numV ys p (i + 1) = 2 * numV ys p i := by simp [numV, hb]
      refine z_go2
      refine c_round (i + 1) (by show i + 1 ≤ m; omega) (by show m - (i + 1) < m - i; omega) (by refine ⟨rfl, rfl, ?_, rfl, by simp [look], trivial⟩; rw [e1]; rfl) ?_
      exact (Sub.refl _)
  · have hge : i = m := by simp at h; omega
    subst hge
    refine z_go2
    exact j_out1 rfl rfl (Sub.refl _) ⟨rfl, rfl⟩

set_option maxHeartbeats 2000000 in
theorem rnum_no (g c : Nat) (A : Option Addr) (ys : List Int) (p m : Nat) (wr : Bool) (w : World) (hown : Own (Rd g A c ys p wr) w) (hm : ys.length < 100000000) (hp : p ≤ 8 * ys.length) (h64 : m ≤ 63) (hno : wr = true ∨ 8 * ys.length < p + m) :
    Does Tryz.prog 154 [.pointer (some ⟨g, 0, none⟩), .int .i64 m] (Rd g A c ys p wr) w (fun v S' => v = .int .u64 0 ∧ S' = Rd g A c ys p true) := by
  refine does_of Tryz.func154 rfl Tryz.ntmps154 rfl hown (fun n => ?_)
  simp only [slots]
  refine z_go2
  refine j_case 8 rfl (fun h => by exfalso; simp at h; omega) (fun h => ?_)
  refine z_go2
  refine lfk (v := .int .i64 (8 * ys.length - p)) rfl rfl (Split.cons (Has.here _ _) (Split.cons (Has.here _ _) (Split.nil _))) (Sub.refl _) rfl (fun w hw ho => left_any g c A ys p wr w ho hm (by omega)) ?_
  refine z_go2
  refine j_case 14 rfl (fun h => ?_) (fun h => ?_)
  · refine z_go2
    exact j_out1 rfl rfl (Sub.refl _) ⟨rfl, rfl⟩
  · obtain rfl : wr = true := by rcases hno with e | e; exact e; exfalso; simp at h; omega
    refine z_go2
    exact j_out1 rfl rfl (Sub.refl _) ⟨rfl, rfl⟩

set_option maxHeartbeats 2000000 in
theorem rones_yes (g c : Nat) (A : Option Addr) (ys : List Int) (p m j : Nat) (w : World) (hown : Own (Rd g A c ys p false) w) (hm : ys.length < 100000000) (hj : j ≤ m) (hp : p + j < 8 * ys.length) (hm2 : m < 1000000)
    (h1 : ∀ i, i < j → bitY ys (p + i) = true) (h0 : bitY ys (p + j) = false) :
    Does Tryz.prog 160 [.pointer (some ⟨g, 0, none⟩), .int .i64 m] (Rd g A c ys p false) w (fun v S' => v = .int .i64 j ∧ S' = Rd g A c ys (p + j + 1) false) := by
  refine does_of Tryz.func160 rfl Tryz.ntmps160 rfl hown (fun n => ?_)
  simp only [slots]
  refine z_go2
  refine c_loop (X := Nat) (fun i => i ≤ j) (fun i => [(0, .pointer (some ⟨g, 0, none⟩)), (1, .int .i64 m), (5, .int .i64 i)]) (fun i => Rd g A c ys (p + i) false) (fun i => j - i) 0 (by simp) ⟨rfl, rfl, rfl, trivial⟩ (Sub.refl _) ?_
  intro i hi
  refine z_go2
  refine lfn rfl rfl (Split.cons (Has.here _ _) (Split.cons (Has.here _ _) (Split.nil _))) rfl (fun w hw ho => rbit_yes g c A ys (p + i) w ho hm (by omega)) ?_
  rintro v S' ⟨rfl, rfl⟩
  by_cases hlt : i < j
  · rw [h1 i hlt]
    refine z_go2
    refine c_cond rfl (fun h => by exfalso; simp at h; omega) (fun h => ?_)
    refine z_go2
    exact c_round (i + 1) (by show i + 1 ≤ j; omega) (by show j - (i + 1) < j - i; omega) (by exact ⟨rfl, rfl, by simp [look], trivial⟩) (Sub.refl _)
  · obtain rfl : i = j := by omega
    rw [h0]
    refine z_go2
    exact j_out1 rfl rfl (Sub.refl _) ⟨rfl, rfl⟩

set_option maxHeartbeats 2000000 in
theorem rones_no (g c : Nat) (A : Option Addr) (ys : List Int) (p m : Nat) (w : World) (hown : Own (Rd g A c ys p false) w) (hm : ys.length < 100000000) (hp : p ≤ 8 * ys.length) (hm2 : m < 1000000)
    (hno : ∀ j, j ≤ m → p + j < 8 * ys.length → (∀ i, i < j → bitY ys (p + i) = true) → bitY ys (p + j) = true) :
    Does Tryz.prog 160 [.pointer (some ⟨g, 0, none⟩), .int .i64 m] (Rd g A c ys p false) w (fun v S' => v = .int .i64 0 ∧ ∃ p', p' ≤ 8 * ys.length ∧ S' = Rd g A c ys p' true) := by
  refine does_of Tryz.func160 rfl Tryz.ntmps160 rfl hown (fun n => ?_)
  simp only [slots]
  refine z_go2
  refine c_loop (X := Nat) (fun i => i ≤ m ∧ p + i ≤ 8 * ys.length ∧ ∀ k, k < i → bitY ys (p + k) = true) (fun i => [(0, .pointer (some ⟨g, 0, none⟩)), (1, .int .i64 m), (5, .int .i64 i)]) (fun i => Rd g A c ys (p + i) false) (fun i => m - i) 0 (by simp; omega) ⟨rfl, rfl, rfl, trivial⟩ (Sub.refl _) ?_
  rintro i ⟨hi1, hi2, hi3⟩
  refine z_go2
  by_cases hlt : p + i < 8 * ys.length
  · have hb := hno i hi1 hlt hi3
    refine lfn rfl rfl (Split.cons (Has.here _ _) (Split.cons (Has.here _ _) (Split.nil _))) rfl (fun w hw ho => rbit_yes g c A ys (p + i) w ho hm (by omega)) ?_
    rintro v S' ⟨rfl, rfl⟩
    rw [hb]
    refine z_go2
    refine c_cond rfl (fun h => ?_) (fun h => ?_)
    · refine z_go2
      exact j_out1 rfl rfl (Sub.refl _) ⟨rfl, p + i + 1, by omega, rfl⟩
    · have hlm : i < m := by simp at h; omega
      refine z_go2
      refine c_round (i + 1) ⟨by omega, by omega, fun k hk => ?_⟩ (by show m - (i + 1) < m - i; omega) (by exact ⟨rfl, rfl, by simp [look], trivial⟩) (Sub.refl _)
      by_cases e : k = i
      · subst e; exact hb
      · exact hi3 k (by omega)
  · refine lfn rfl rfl (Split.cons (Has.here _ _) (Split.cons (Has.here _ _) (Split.nil _))) rfl (fun w hw ho => rbit_no g c A ys (p + i) false w ho hm (.inr (by omega))) ?_
    rintro v S' ⟨rfl, rfl⟩
    refine z_go2
    exact j_out1 rfl rfl (Sub.refl _) ⟨rfl, p + i, by omega, rfl⟩
end Go.Proofs.YtemmnpgebpffbaaGreat
/- Package rice, and the reference's layer 7: the functions that only reckon; the numbers behind them. -/
namespace Go.Proofs.YtemmnpgebpffbaaGreat
open Go.RowKit

theorem xor_zero (a : Int) : bits .xor .i32 a 0 = IntKind.i32.wrap a := by
  show IntKind.i32.wrap ((BitVec.ofInt 32 a ^^^ BitVec.ofInt 32 0).toNat : Int) = _
  rw [show BitVec.ofInt 32 0 = 0#32 from rfl, BitVec.xor_zero, BitVec.toNat_ofInt]
  simp [IntKind.wrap, IntKind.bits, IntKind.signed]
  omega
theorem xor_ones (a : Int) : bits .xor .i32 a (-1) = IntKind.i32.wrap (-a - 1) := by
  show IntKind.i32.wrap ((BitVec.ofInt 32 a ^^^ BitVec.ofInt 32 (-1)).toNat : Int) = _
  rw [show BitVec.ofInt 32 (-1) = BitVec.allOnes 32 from by decide, BitVec.xor_allOnes, BitVec.toNat_not, BitVec.toNat_ofInt]
  simp [IntKind.wrap, IntKind.bits, IntKind.signed]
  omega

/-- A number folded, and what was folded. -/
def foldI (x : Int) : Int := if x < 0 then -2 * x - 1 else 2 * x
def unfoldI (n : Int) : Int := if n % 2 = 0 then n / 2 else -(n / 2) - 1
theorem foldI_range (x : Int) (h0 : -2147483648 ≤ x) (h1 : x ≤ 2147483647) : 0 ≤ foldI x ∧ foldI x ≤ 4294967295 := by unfold foldI; split <;> omega
theorem fold_eq (x : Int) (h0 : -2147483648 ≤ x) (h1 : x ≤ 2147483647) :
    IntKind.u32.wrap (bits .xor .i32 (IntKind.i32.wrap (x * 2 ^ 1)) (x / 2 ^ 31)) = foldI x := by
  unfold foldI
  by_cases hx : x < 0
  · rw [if_pos hx, show x / 2 ^ 31 = -1 from by omega, xor_ones]
    simp [IntKind.wrap, IntKind.bits, IntKind.signed]
    omega
  · rw [if_neg hx, show x / 2 ^ 31 = 0 from by omega, xor_zero]
    simp [IntKind.wrap, IntKind.bits, IntKind.signed]
    omega
theorem and_one_u32 (n : Int) (h0 : 0 ≤ n) (h1 : n ≤ 4294967295) : bits .and .u32 n 1 = n % 2 := by
  obtain ⟨m, rfl⟩ := Int.eq_ofNat_of_zero_le h0
  show IntKind.u32.wrap ((BitVec.ofInt 32 (m : Int) &&& BitVec.ofInt 32 1).toNat : Int) = _
  have e : (BitVec.ofInt 32 (m : Int) &&& BitVec.ofInt 32 1).toNat = m % 2 := by
    rw [BitVec.toNat_and, BitVec.ofInt_natCast, BitVec.toNat_ofNat, Nat.mod_eq_of_lt (by omega)]
    exact Nat.and_one_is_mod m
  rw [e, wrap_in (k := .u32) (c := ((m % 2 : Nat) : Int)) ⟨by omega, by omega⟩]
  omega
theorem unfold_eq (n : Int) (h0 : 0 ≤ n) (h1 : n ≤ 4294967295) :
    bits .xor .i32 (n / 2 ^ 1) (IntKind.i32.wrap (0 - IntKind.i32.wrap (bits .and .u32 n 1))) = unfoldI n := by
  rw [and_one_u32 n h0 h1]
  unfold unfoldI
  by_cases hx : n % 2 = 0
  · rw [if_pos hx, hx, show IntKind.i32.wrap (0 - IntKind.i32.wrap 0) = 0 from by decide, xor_zero]
    simp [IntKind.wrap, IntKind.bits, IntKind.signed]
    omega
  · rw [if_neg hx, show n % 2 = 1 from by omega, show IntKind.i32.wrap (0 - IntKind.i32.wrap 1) = -1 from by decide, xor_ones]
    simp [IntKind.wrap, IntKind.bits, IntKind.signed]
    omega
theorem unfold_fold (x : Int) : unfoldI (foldI x) = x := by unfold unfoldI foldI; split <;> split <;> omega
theorem fold_unfold (n : Int) (h : 0 ≤ n) : foldI (unfoldI n) = n := by unfold unfoldI foldI; split <;> split <;> omega
theorem unfoldI_range (n : Int) (h0 : 0 ≤ n) (h1 : n ≤ 4294967295) : -2147483648 ≤ unfoldI n ∧ unfoldI n ≤ 2147483647 := by unfold unfoldI; split <;> omega
theorem foldI_inj (x y : Int) : foldI x = foldI y ↔ x = y := ⟨fun h => by rw [← unfold_fold x, h, unfold_fold], fun h => by rw [h]⟩

def foldN (x : Int) : Nat := (foldI x).toNat
theorem foldN_cast (x : Int) : (foldN x : Int) = foldI x := by unfold foldN foldI; split <;> omega
theorem foldN_le (x : Int) (h0 : -2147483648 ≤ x) (h1 : x ≤ 2147483647) : foldN x ≤ 4294967295 := by have := foldI_range x h0 h1; have := foldN_cast x; omega
attribute [local irreducible] OJ J HdJ Code.wpIn wpListIn Oper.wpIn bodyPost CallsIn Does
set_option maxRecDepth 4000

set_option maxHeartbeats 1000000 in
theorem fold_any (x : Int) (w : World) (h0 : -2147483648 ≤ x) (h1 : x ≤ 2147483647) : Does Tryz.prog 146 [.int .i32 x] [] w (fun v S' => v = .int .u32 (foldN x : Nat) ∧ S' = []) := by
  have he := fold_eq x h0 h1
  refine does_of Tryz.func146 rfl Tryz.ntmps146 rfl ⟨by simp, .nil⟩ (fun n => ?_)
  simp only [slots]
  refine z_go2
  exact j_out1 rfl rfl (.nil _) ⟨congrArg (Value.int .u32) (he.trans (foldN_cast x).symm), rfl⟩
set_option maxHeartbeats 1000000 in
theorem unfold_any (x : Int) (w : World) (h0 : 0 ≤ x) (h1 : x ≤ 4294967295) : Does Tryz.prog 157 [.int .u32 x] [] w (fun v S' => v = .int .i32 (unfoldI x) ∧ S' = []) := by
  have he := unfold_eq x h0 h1
  refine does_of Tryz.func157 rfl Tryz.ntmps157 rfl ⟨by simp, .nil⟩ (fun n => ?_)
  simp only [slots]
  refine z_go2
  exact j_out1 rfl rfl (.nil _) ⟨congrArg (Value.int .i32) he, rfl⟩
/-- How many bits a code has. -/
def sizeN (n k : Nat) : Nat := if shN n k < 20 then shN n k + 1 + k else 38
set_option maxHeartbeats 1000000 in
theorem size_any (x k : Nat) (w : World) (hx : x ≤ 4294967295) (hk : k ≤ 16) : Does Tryz.prog 143 [.int .u32 x, .int .i64 k] [] w (fun v S' => v = .int .i64 (sizeN x k) ∧ S' = []) := by
  have hd : shN x k ≤ x := shN_le _ _
  refine does_of Tryz.func143 rfl Tryz.ntmps143 rfl ⟨by simp, .nil⟩ (fun n => ?_)
  simp only [slots]
  refine z_go2
  refine c_cond rfl (fun h => ?_) (fun h => ?_)
  · have hx : shN x k < 20 := by have := of_decide_eq_true h; omega
    have he : sizeN x k = shN x k + 1 + k := if_pos hx
    refine z_go2
    exact j_out1 rfl rfl (.nil _) ⟨by rw [he]; simp, rfl⟩
  · have hx : ¬ shN x k < 20 := by have := of_decide_eq_false h; omega
    have he : sizeN x k = 38 := if_neg hx
    refine z_go2
    exact j_out1 rfl rfl (.nil _) ⟨by rw [he]; rfl, rfl⟩

/-- A number's code. -/
def codeB (n k : Nat) : List Bool := if shN n k < 20 then List.replicate (shN n k) true ++ [false] ++ numBits n k else List.replicate 20 true ++ [false] ++ numBits n 17
theorem codeB_len (n k : Nat) : (codeB n k).length = sizeN n k := by
  unfold codeB sizeN; split <;> simp [numBits_len]; omega
set_option maxHeartbeats 1000000 in
theorem put_any (g c : Nat) (A : Option Addr) (bs : List Bool) (x k : Nat) (w : World) (hown : Own (Wr g A c bs) w) (hm : bs.length < 700000000) (hx : x ≤ 4294967295) (hk : k ≤ 16) :
    Does Tryz.prog 135 [.pointer (some ⟨g, 0, none⟩), .int .u32 x, .int .i64 k] (Wr g A c bs) w (fun v S' => v = .tuple #[] ∧ ∃ A' c', S' = Wr g A' c' (bs ++ codeB x k)) := by
  have hd : shN x k ≤ x := shN_le _ _
  refine does_of Tryz.func135 rfl Tryz.ntmps135 rfl hown (fun n => ?_)
  simp only [slots]
  refine z_go2
  refine c_cond rfl (fun h => ?_) (fun h => ?_)
  · have hx : shN x k < 20 := by have := of_decide_eq_true h; omega
    have he : codeB x k = List.replicate (shN x k) true ++ [false] ++ numBits x k := if_pos hx
    refine z_go2
    refine lfn rfl rfl (Split.cons (Has.here _ _) (Split.cons (Has.here _ _) (Split.nil _))) rfl (fun w hw ho => ones_any g c A bs _ w ho (by omega)) ?_
    rintro v S' ⟨rfl, A1, c1, rfl⟩
    refine z_go2
    refine lfn rfl rfl (Split.cons (Has.here _ _) (Split.cons (Has.here _ _) (Split.nil _))) rfl (fun w hw ho => num_any g c1 A1 _ x k w ho (by simp; omega) (by omega) (by omega)) ?_
    rintro v S' ⟨rfl, A2, c2, rfl⟩
    refine z_go2
    rw [List.append_assoc, List.append_assoc, ← List.append_assoc _ [false], ← he]
    exact j_out0 rfl (Sub.refl _) ⟨rfl, A2, c2, rfl⟩
  · have hx : ¬ shN x k < 20 := by have := of_decide_eq_false h; omega
    have he : codeB x k = List.replicate 20 true ++ [false] ++ numBits x 17 := if_neg hx
    refine z_go2
    refine lfn rfl rfl (Split.cons (Has.here _ _) (Split.cons (Has.here _ _) (Split.nil _))) rfl (fun w hw ho => ones_any g c A bs 20 w ho (by omega)) ?_
    rintro v S' ⟨rfl, A1, c1, rfl⟩
    refine z_go2
    refine lfn rfl rfl (Split.cons (Has.here _ _) (Split.cons (Has.here _ _) (Split.nil _))) rfl (fun w hw ho => num_any g c1 A1 _ x 17 w ho (by simp; omega) (by omega) (by omega)) ?_
    rintro v S' ⟨rfl, A2, c2, rfl⟩
    refine z_go2
    rw [List.append_assoc, List.append_assoc, ← List.append_assoc _ [false], ← he]
    exact j_outN rfl (Sub.refl _) ⟨rfl, A2, c2, rfl⟩
end Go.Proofs.YtemmnpgebpffbaaGreat
/- Package bits: what is read, as rows of bits. -/
namespace Go.Proofs.YtemmnpgebpffbaaGreat
open Go.RowKit
/-- From bit p on these bits stand. -/
def isAt (ys : List Int) (p : Nat) (l : List Bool) : Prop := p + l.length ≤ 8 * ys.length ∧ ∀ i, i < l.length → bitY ys (p + i) = l.getD i false
theorem getD_append_left {l r : List Bool} {i : Nat} (h : i < l.length) : (l ++ r).getD i false = l.getD i false := by
  simp [List.getD_eq_getElem?_getD, List.getElem?_append_left h]
theorem getD_append_right {l r : List Bool} {i : Nat} (h : l.length ≤ i) : (l ++ r).getD i false = r.getD (i - l.length) false := by
  simp [List.getD_eq_getElem?_getD, List.getElem?_append_right h]
theorem isAt_append {ys : List Int} {p : Nat} {l r : List Bool} : isAt ys p (l ++ r) ↔ isAt ys p l ∧ isAt ys (p + l.length) r := by
  constructor
  · rintro ⟨h1, h2⟩
    rw [List.length_append] at h1
    refine ⟨⟨by omega, fun i hi => ?_⟩, ⟨by omega, fun i hi => ?_⟩⟩
    · rw [h2 i (by rw [List.length_append]; omega), getD_append_left hi]
    · rw [Nat.add_assoc, h2 (l.length + i) (by rw [List.length_append]; omega), getD_append_right (by omega), Nat.add_sub_cancel_left]
  · rintro ⟨⟨h1, h2⟩, ⟨h3, h4⟩⟩
    refine ⟨by rw [List.length_append]; omega, fun i hi => ?_⟩
    rw [List.length_append] at hi
    rcases Nat.lt_or_ge i l.length with h | h
    · rw [h2 i h, getD_append_left h]
    · rw [getD_append_right h, ← h4 (i - l.length) (by omega), show p + l.length + (i - l.length) = p + i from by omega]
theorem isAt_nil {ys : List Int} {p : Nat} : isAt ys p [] ↔ p ≤ 8 * ys.length := ⟨fun h => by simpa using h.1, fun h => ⟨by simpa using h, fun i hi => by simp at hi⟩⟩
theorem isAt_one {ys : List Int} {p : Nat} {b : Bool} : isAt ys p [b] ↔ p < 8 * ys.length ∧ bitY ys p = b := by
  constructor
  · rintro ⟨h1, h2⟩; exact ⟨by rw [List.length_singleton] at h1; omega, by simpa using h2 0 (by simp)⟩
  · rintro ⟨h1, h2⟩; refine ⟨by rw [List.length_singleton]; omega, fun i hi => ?_⟩
    obtain rfl : i = 0 := by simpa using hi
    simpa using h2
theorem isAt_ones {ys : List Int} {p j : Nat} : isAt ys p (List.replicate j true) ↔ p + j ≤ 8 * ys.length ∧ ∀ i, i < j → bitY ys (p + i) = true := by
  have e : ∀ i, i < j → (List.replicate j true).getD i false = true := fun i hi => by simp [List.getD_eq_getElem?_getD, hi]
  constructor
  · rintro ⟨h1, h2⟩; rw [List.length_replicate] at h1 h2; exact ⟨h1, fun i hi => by rw [h2 i hi, e i hi]⟩
  · rintro ⟨h1, h2⟩; refine ⟨by rw [List.length_replicate]; exact h1, fun i hi => ?_⟩
    rw [List.length_replicate] at hi; rw [h2 i hi, e i hi]
theorem numV_bit (ys : List Int) (p : Nat) : ∀ (m i : Nat), i < m → (numV ys p m).testBit (m - 1 - i) = bitY ys (p + i)
  | 0, i, h => by omega
  | m + 1, i, h => by
    by_cases hi : i = m
    · subst hi
      rw [show i + 1 - 1 - i = 0 from by omega, Nat.testBit_zero, numV]
      cases bitY ys (p + i) <;> simp [Nat.add_mod]
    · rw [show m + 1 - 1 - i = (m - 1 - i) + 1 from by omega, Nat.testBit_succ, numV,
        show (2 * numV ys p m + (if bitY ys (p + m) = true then 1 else 0)) / 2 = numV ys p m from by split <;> omega]
      exact numV_bit ys p m i (by omega)
theorem numBits_get (n m i : Nat) (h : i < m) : (numBits n m).getD i false = n.testBit (m - 1 - i) := by
  simp [numBits, List.getD_eq_getElem?_getD, h]
theorem isAt_num {ys : List Int} {p n m : Nat} : isAt ys p (numBits n m) ↔ p + m ≤ 8 * ys.length ∧ numV ys p m = n % 2 ^ m := by
  constructor
  · rintro ⟨h1, h2⟩
    rw [numBits_len] at h1 h2
    refine ⟨h1, Nat.eq_of_testBit_eq fun j => ?_⟩
    rw [Nat.testBit_mod_two_pow]
    by_cases hj : j < m
    · have := numV_bit ys p m (m - 1 - j) (by omega)
      rw [h2 (m - 1 - j) (by omega), numBits_get n m _ (by omega), show m - 1 - (m - 1 - j) = j from by omega] at this
      simp [this, hj]
    · rw [Nat.testBit_lt_two_pow (Nat.lt_of_lt_of_le (numV_lt ys p m) (Nat.pow_le_pow_right (by omega) (by omega)))]
      simp [hj]
  · rintro ⟨h1, h2⟩
    refine ⟨by rw [numBits_len]; exact h1, fun i hi => ?_⟩
    rw [numBits_len] at hi
    rw [numBits_get n m i hi, ← numV_bit ys p m i hi, h2, Nat.testBit_mod_two_pow]
    simp [show m - 1 - i < m from by omega]

set_option maxRecDepth 4000
/-- What the reader's Ones comes to. -/
theorem rones_any (g c : Nat) (A : Option Addr) (ys : List Int) (p m : Nat) (w : World) (hown : Own (Rd g A c ys p false) w) (hm : ys.length < 100000000) (hp : p ≤ 8 * ys.length) (hm2 : m < 1000000) :
    Does Tryz.prog 160 [.pointer (some ⟨g, 0, none⟩), .int .i64 m] (Rd g A c ys p false) w (fun v S' => ∃ (j p' : Nat) (wr : Bool), v = .int .i64 j ∧ S' = Rd g A c ys p' wr ∧ p' ≤ 8 * ys.length ∧
      ((wr = false ∧ j ≤ m ∧ p' = p + j + 1 ∧ isAt ys p (List.replicate j true ++ [false])) ∨ (wr = true ∧ ∀ j, j ≤ m → ¬ isAt ys p (List.replicate j true ++ [false])))) := by
  by_cases h : ∃ j, j ≤ m ∧ isAt ys p (List.replicate j true ++ [false])
  · obtain ⟨j, hj, hat⟩ := h
    have h2 := isAt_append.1 hat
    rw [isAt_ones, List.length_replicate, isAt_one] at h2
    obtain ⟨⟨-, h3⟩, h4, h5⟩ := h2
    refine (rones_yes g c A ys p m j w hown hm hj h4 hm2 h3 h5).mono ?_
    rintro v S' ⟨rfl, rfl⟩
    exact ⟨j, p + j + 1, false, rfl, rfl, by omega, .inl ⟨rfl, hj, rfl, hat⟩⟩
  · refine (rones_no g c A ys p m w hown hm hp hm2 fun j hj hlt h1 => ?_).mono ?_
    · cases hb : bitY ys (p + j) with
      | true => rfl
      | false => exact absurd ⟨j, hj, isAt_append.2 ⟨isAt_ones.2 ⟨by omega, h1⟩, by rw [List.length_replicate]; exact isAt_one.2 ⟨hlt, hb⟩⟩⟩ h
    · rintro v S' ⟨rfl, p', hp', rfl⟩
      exact ⟨0, p', true, rfl, rfl, hp', .inr ⟨rfl, fun j hj hat => h ⟨j, hj, hat⟩⟩⟩
/-- What the reader's Num comes to. -/
theorem rnum_any (g c : Nat) (A : Option Addr) (ys : List Int) (p m : Nat) (wr : Bool) (w : World) (hown : Own (Rd g A c ys p wr) w) (hm : ys.length < 100000000) (hp : p ≤ 8 * ys.length) (h64 : m ≤ 63) :
    Does Tryz.prog 154 [.pointer (some ⟨g, 0, none⟩), .int .i64 m] (Rd g A c ys p wr) w (fun v S' => ∃ (x p' : Nat) (wr' : Bool), v = .int .u64 x ∧ x < 2 ^ m ∧ S' = Rd g A c ys p' wr' ∧ p' ≤ 8 * ys.length ∧
      ((wr' = false ∧ wr = false ∧ p' = p + m ∧ isAt ys p (numBits x m)) ∨ (wr' = true ∧ (wr = false → ∀ n, ¬ isAt ys p (numBits n m))))) := by
  by_cases h : wr = false ∧ p + m ≤ 8 * ys.length
  · obtain ⟨rfl, h⟩ := h
    refine (rnum_yes g c A ys p m w hown hm h h64).mono ?_
    rintro v S' ⟨rfl, rfl⟩
    exact ⟨_, p + m, false, rfl, numV_lt ys p m, rfl, h, .inl ⟨rfl, rfl, rfl, isAt_num.2 ⟨h, (Nat.mod_eq_of_lt (numV_lt ys p m)).symm⟩⟩⟩
  · refine (rnum_no g c A ys p m wr w hown hm hp h64 ?_).mono ?_
    · cases wr with
      | true => exact .inl rfl
      | false => exact .inr (by have : ¬ p + m ≤ 8 * ys.length := fun e => h ⟨rfl, e⟩; omega)
    · rintro v S' ⟨rfl, rfl⟩
      refine ⟨0, p, true, rfl, Nat.pow_pos (by omega), rfl, hp, .inr ⟨rfl, fun hwr n hat => h ⟨hwr, ?_⟩⟩⟩
      exact (isAt_num.1 hat).1
end Go.Proofs.YtemmnpgebpffbaaGreat
/- Package rice: reading. -/
namespace Go.Proofs.YtemmnpgebpffbaaGreat
open Go.RowKit
theorem or_add (a b k : Nat) (h : b < 2 ^ k) (h32 : a * 2 ^ k + b < 4294967296) : bits .or .u32 ((a * 2 ^ k : Nat) : Int) (b : Int) = ((a * 2 ^ k + b : Nat) : Int) := by
  have e : a * 2 ^ k ||| b = a * 2 ^ k + b := by
    have := Nat.two_pow_add_eq_or_of_lt h a
    rw [Nat.mul_comm]; exact this.symm
  show IntKind.u32.wrap ((BitVec.ofInt 32 ((a * 2 ^ k : Nat) : Int) ||| BitVec.ofInt 32 (b : Int)).toNat : Int) = _
  rw [BitVec.toNat_or, BitVec.ofInt_natCast, BitVec.ofInt_natCast, BitVec.toNat_ofNat, BitVec.toNat_ofNat, Nat.mod_eq_of_lt (by omega), Nat.mod_eq_of_lt (by omega), e, wrap_in]
  exact ⟨by omega, by omega⟩
theorem replicate_false_inj {a b : Nat} {l r : List Bool} (h : List.replicate a true ++ false :: l = List.replicate b true ++ false :: r) : a = b ∧ l = r := by
  induction a generalizing b with
  | zero =>
    cases b with
    | zero => simpa using h
    | succ b => simp [List.replicate_succ] at h
  | succ a ih =>
    cases b with
    | zero => simp [List.replicate_succ] at h
    | succ b =>
      simp only [List.replicate_succ, List.cons_append, List.cons.injEq, true_and] at h
      obtain ⟨h1, h2⟩ := ih h
      exact ⟨by omega, h2⟩
/-- No code is the beginning of another one: the ones ahead tell. -/
theorem ones_same {ys : List Int} {p i j : Nat} (hi : isAt ys p (List.replicate i true ++ [false])) (hj : isAt ys p (List.replicate j true ++ [false])) : i = j := by
  rw [isAt_append, isAt_ones, List.length_replicate, isAt_one] at hi hj
  rcases Nat.lt_trichotomy i j with h | h | h
  · have := hj.1.2 i h; rw [hi.2.2] at this; cases this
  · exact h
  · have := hi.1.2 j h; rw [hj.2.2] at this; cases this
theorem code_low {n k : Nat} (h : shN n k < 20) : codeB n k = List.replicate (shN n k) true ++ [false] ++ numBits n k := if_pos h
theorem code_high {n k : Nat} (h : ¬ shN n k < 20) : codeB n k = List.replicate 20 true ++ [false] ++ numBits n 17 := if_neg h
/-- In the midst: bits that stand at p are the code of at most one number. -/
theorem code_same {ys : List Int} {p n m k : Nat} (hn : n < 131072) (hm : m < 131072) (h1 : isAt ys p (codeB n k)) (h2 : isAt ys p (codeB m k)) : n = m := by
  have key : ∀ n m : Nat, n < 131072 → m < 131072 → shN n k < 20 → ¬ shN m k < 20 → isAt ys p (codeB n k) → isAt ys p (codeB m k) → False := by
    intro n m _ _ ha hb h1 h2
    rw [code_low ha, isAt_append] at h1
    rw [code_high hb, isAt_append] at h2
    have := ones_same h1.1 h2.1
    omega
  by_cases ha : shN n k < 20 <;> by_cases hb : shN m k < 20
  · rw [code_low ha, isAt_append] at h1
    rw [code_low hb, isAt_append] at h2
    have e := ones_same h1.1 h2.1
    rw [e] at h1
    have e1 := (isAt_num.1 h1.2).2
    have e2 := (isAt_num.1 h2.2).2
    rw [e2] at e1
    unfold shN at e
    rw [← Nat.div_add_mod n (2 ^ k), ← Nat.div_add_mod m (2 ^ k), e, e1]
  · exact (key n m hn hm ha hb h1 h2).elim
  · exact (key m n hm hn hb ha h2 h1).elim
  · rw [code_high ha, isAt_append] at h1
    rw [code_high hb, isAt_append] at h2
    have e1 := (isAt_num.1 h1.2).2
    have e2 := (isAt_num.1 h2.2).2
    rw [e2, Nat.mod_eq_of_lt (by omega), Nat.mod_eq_of_lt (by omega)] at e1
    exact e1.symm

attribute [local irreducible] OJ J HdJ Code.wpIn wpListIn Oper.wpIn bodyPost CallsIn Does
set_option maxRecDepth 4000
/-- What Get comes to. -/
def GetR (g c : Nat) (A : Option Addr) (ys : List Int) (p k : Nat) (v : Value) (S' : List HE) : Prop :=
  ∃ (n p' : Nat) (ok wr : Bool), v = .tuple #[.int .u32 n, .bool ok] ∧ S' = Rd g A c ys p' wr ∧ p' ≤ 8 * ys.length ∧
    ((ok = true ∧ wr = false ∧ n < 131072 ∧ p' = p + sizeN n k ∧ isAt ys p (codeB n k)) ∨ (ok = false ∧ ∀ m, m < 131072 → ¬ isAt ys p (codeB m k)))
set_option maxHeartbeats 4000000 in
theorem get_any (g c : Nat) (A : Option Addr) (ys : List Int) (p k : Nat) (w : World) (hown : Own (Rd g A c ys p false) w) (hm : ys.length < 100000000) (hp : p ≤ 8 * ys.length) (hk : k ≤ 16) :
    Does Tryz.prog 156 [.pointer (some ⟨g, 0, none⟩), .int .i64 k] (Rd g A c ys p false) w (GetR g c A ys p k) := by
  refine does_of Tryz.func156 rfl Tryz.ntmps156 rfl hown (fun n => ?_)
  simp only [slots]
  refine z_go2
  refine lfn rfl rfl (Split.cons (Has.here _ _) (Split.cons (Has.here _ _) (Split.nil _))) rfl (fun w hw ho => rones_any g c A ys p 20 w ho hm hp (by omega)) ?_
  rintro v S' ⟨j, p1, wr1, rfl, rfl, hp1, hj⟩
  refine z_go2
  rcases hj with ⟨rfl, hj, rfl, hat⟩ | ⟨rfl, hno⟩
  · refine lfk (v := .bool true) rfl rfl (Split.cons (Has.here _ _) (Split.cons (Has.here _ _) (Split.nil _))) (Sub.refl _) rfl (fun w hw ho => right_any g c A ys _ false w ho) ?_
    refine z_go2
    have hk2 : 2 ^ k ≤ 65536 := by rw [show 65536 = 2 ^ 16 from rfl]; exact Nat.pow_le_pow_right (by omega) hk
    refine c_cond rfl (fun h => ?_) (fun h => ?_)
    · have hj2 : j < 20 := by have := of_decide_eq_true h; omega
      have hjk : j * 2 ^ k ≤ 19 * 65536 := Nat.mul_le_mul (by omega) hk2
      have hsh : shL j k = j * 2 ^ k := rfl
      refine z_go2
      refine lfn rfl rfl (Split.cons (Has.here _ _) (Split.cons (Has.here _ _) (Split.nil _))) rfl (fun w hw ho => rnum_any g c A ys _ k false w ho hm hp1 (by omega)) ?_
      rintro v S' ⟨x, p2, wr2, rfl, hx, rfl, hp2, hx2⟩
      refine z_go2
      have hor : bits .or .u32 ((shL j k : Nat) : Int) (x : Int) = ((j * 2 ^ k + x : Nat) : Int) := or_add j x k hx (by omega)
      have hq : shN (j * 2 ^ k + x) k = j := by
        unfold shN; rw [Nat.mul_comm, Nat.mul_add_div (Nat.pow_pos (by omega)), Nat.div_eq_of_lt hx, Nat.add_zero]
      have hrem : (j * 2 ^ k + x) % 2 ^ k = x := by rw [Nat.mul_comm, Nat.mul_add_mod, Nat.mod_eq_of_lt hx]
      have hcode : codeB (j * 2 ^ k + x) k = List.replicate j true ++ [false] ++ numBits (j * 2 ^ k + x) k := by rw [code_low (by omega), hq]
      rcases hx2 with ⟨rfl, -, rfl, hat2⟩ | ⟨rfl, hno2⟩
      · refine lfk (v := .bool true) rfl rfl (Split.cons (Has.here _ _) (Split.cons (Has.here _ _) (Split.nil _))) (Sub.refl _) rfl (fun w hw ho => right_any g c A ys _ false w ho) ?_
        refine z_go2
        rw [hor]
        refine j_out2 rfl rfl rfl (Sub.refl _) ?_
        by_cases hb : j * 2 ^ k + x < 131072
        · refine ⟨_, _, true, false, by rw [decide_eq_true (by omega)], rfl, hp2, .inl ⟨rfl, rfl, hb, ?_, ?_⟩⟩
          · unfold sizeN; rw [hq, if_pos hj2]; omega
          · rw [hcode, isAt_append]
            refine ⟨hat, ?_⟩
            rw [List.length_append, List.length_replicate, List.length_singleton, ← Nat.add_assoc]
            refine isAt_num.2 ⟨(isAt_num.1 hat2).1, ?_⟩
            rw [hrem, (isAt_num.1 hat2).2, Nat.mod_eq_of_lt hx]
        · refine ⟨_, _, false, false, by rw [decide_eq_false (by omega)], rfl, hp2, .inr ⟨rfl, fun m hm2 hatm => ?_⟩⟩
          by_cases hq2 : shN m k < 20
          · rw [code_low hq2, isAt_append] at hatm
            have e := ones_same hat hatm.1
            rw [← e, List.length_append, List.length_replicate, List.length_singleton, ← Nat.add_assoc] at hatm
            have e2 := (isAt_num.1 hatm.2).2
            rw [(isAt_num.1 hat2).2, Nat.mod_eq_of_lt hx] at e2
            apply hb
            unfold shN at e
            rw [e, e2, Nat.mul_comm, Nat.div_add_mod]; exact hm2
          · rw [code_high hq2, isAt_append] at hatm
            have e := ones_same hat hatm.1
            omega
      · refine lfk (v := .bool false) rfl rfl (Split.cons (Has.here _ _) (Split.cons (Has.here _ _) (Split.nil _))) (Sub.refl _) rfl (fun w hw ho => right_any g c A ys _ true w ho) ?_
        refine z_go2
        rw [hor]
        refine j_out2 rfl rfl rfl (Sub.refl _) ⟨_, _, false, true, rfl, rfl, hp2, .inr ⟨rfl, fun m hm2 hatm => ?_⟩⟩
        by_cases hq2 : shN m k < 20
        · rw [code_low hq2, isAt_append] at hatm
          have e := ones_same hat hatm.1
          rw [← e, List.length_append, List.length_replicate, List.length_singleton, ← Nat.add_assoc] at hatm
          exact hno2 rfl _ hatm.2
        · rw [code_high hq2, isAt_append] at hatm
          have e := ones_same hat hatm.1
          omega
    · have hj2 : j = 20 := by have := of_decide_eq_false h; omega
      subst hj2
      refine z_go2
      refine lfn rfl rfl (Split.cons (Has.here _ _) (Split.cons (Has.here _ _) (Split.nil _))) rfl (fun w hw ho => rnum_any g c A ys _ 17 false w ho hm hp1 (by omega)) ?_
      rintro v S' ⟨x, p2, wr2, rfl, hx, rfl, hp2, hx2⟩
      have hx3 : x < 131072 := by simpa using hx
      have hshx := shN_le x k
      refine z_go2
      rcases hx2 with ⟨rfl, -, rfl, hat2⟩ | ⟨rfl, hno2⟩
      · refine c_drw rfl (by decide) (by decide +kernel) ?_
        refine z_hq
        refine hfk (v := .bool true) rfl rfl (Split.cons (Has.here _ _) (Split.cons (Has.here _ _) (Split.nil _))) (Sub.refl _) rfl (fun w hw ho => right_any g c A ys _ false w ho) ?_
        refine z_hq
        refine h_nil ?_
        refine z_go2
        refine j_out2 rfl rfl rfl (Sub.refl _) ?_
        by_cases hb : shN x k < 20
        · refine ⟨_, _, false, false, by rw [decide_eq_false (by omega)], rfl, hp2, .inr ⟨rfl, fun m hm2 hatm => ?_⟩⟩
          by_cases hq2 : shN m k < 20
          · rw [code_low hq2, isAt_append] at hatm
            have e := ones_same hat hatm.1
            omega
          · rw [code_high hq2, isAt_append] at hatm
            rw [List.length_append, List.length_replicate, List.length_singleton, ← Nat.add_assoc] at hatm
            have e2 := (isAt_num.1 hatm.2).2
            rw [(isAt_num.1 hat2).2, Nat.mod_eq_of_lt hx, Nat.mod_eq_of_lt hm2] at e2
            subst e2; exact hq2 hb
        · refine ⟨_, _, true, false, by rw [decide_eq_true (by omega)], rfl, hp2, .inl ⟨rfl, rfl, hx3, ?_, ?_⟩⟩
          · unfold sizeN; rw [if_neg hb]
          · rw [code_high hb, isAt_append]
            refine ⟨hat, ?_⟩
            rw [List.length_append, List.length_replicate, List.length_singleton, ← Nat.add_assoc]
            exact hat2
      · refine c_drw rfl (by decide) (by decide +kernel) ?_
        refine z_hq
        refine hfk (v := .bool false) rfl rfl (Split.cons (Has.here _ _) (Split.cons (Has.here _ _) (Split.nil _))) (Sub.refl _) rfl (fun w hw ho => right_any g c A ys _ true w ho) ?_
        refine z_hq
        refine h_nil ?_
        refine z_go2
        refine j_out2 rfl rfl rfl (Sub.refl _) ⟨_, _, false, true, rfl, rfl, hp2, .inr ⟨rfl, fun m hm2 hatm => ?_⟩⟩
        by_cases hq2 : shN m k < 20
        · rw [code_low hq2, isAt_append] at hatm
          have e := ones_same hat hatm.1
          omega
        · rw [code_high hq2, isAt_append] at hatm
          rw [List.length_append, List.length_replicate, List.length_singleton, ← Nat.add_assoc] at hatm
          exact hno2 rfl _ hatm.2
  · refine lfk (v := .bool false) rfl rfl (Split.cons (Has.here _ _) (Split.cons (Has.here _ _) (Split.nil _))) (Sub.refl _) rfl (fun w hw ho => right_any g c A ys _ true w ho) ?_
    refine z_go2
    refine j_out2 rfl rfl rfl (Sub.refl _) ⟨0, _, false, true, rfl, rfl, hp1, .inr ⟨rfl, fun m hm2 hatm => ?_⟩⟩
    by_cases hq2 : shN m k < 20
    · rw [code_low hq2, isAt_append] at hatm
      exact hno _ (by omega) hatm.1
    · rw [code_high hq2, isAt_append] at hatm
      exact hno 20 (by omega) hatm.1
end Go.Proofs.YtemmnpgebpffbaaGreat
/- Package rice: rows of numbers. -/
namespace Go.Proofs.YtemmnpgebpffbaaGreat
open Go.RowKit
attribute [local irreducible] OJ J HdJ Code.wpIn wpListIn Oper.wpIn bodyPost CallsIn Does
set_option maxRecDepth 4000
/-- Numbers that fit. -/
def In32 (xs : List Int) : Prop := ∀ i, i < xs.length → -2147483648 ≤ xs.getD i 0 ∧ xs.getD i 0 ≤ 2147483647
set_option maxHeartbeats 4000000 in
theorem folded_any (A : Option Addr) (m c : Nat) (w : World) : Does Tryz.prog 134 [.slice A m c] [] w (fun v S' => ∃ g, v = .func (.func 145) #[] #[.pointer (some ⟨g, 0, none⟩)] ∧ S' = [.blk g 200 [.slice A m c]]) := by
  refine does_of Tryz.func134 rfl Tryz.ntmps134 rfl ⟨by simp, .nil⟩ (fun n => ?_)
  simp only [slots]
  refine z_go2
  exact j_out1 rfl rfl (Sub.refl _) ⟨_, rfl, rfl⟩
set_option maxHeartbeats 4000000 in
theorem folded1_any (l g c : Nat) (A : Option Addr) (xs : List Int) (w : World) (S : List HE) (I : Nat → List HE → Prop) (hown : Own (.blk g 200 [.slice A xs.length c] :: S) w)
    (hr : RoA w (blocks (.blk g 200 [.slice A xs.length c] :: S)) A xs.length c 1 (ints .i32 xs)) (hx : In32 xs) (hm : xs.length < 1000000000) (h0 : I 0 S)
    (hy : ∀ i S', i < xs.length → I i S' → ∀ w', Own S' w' → Yields Tryz.prog l [.int .u32 (foldN (xs.getD i 0) : Nat)] S' w' (fun v S'' => v = .bool true ∧ I (i + 1) S'')) :
    Does Tryz.prog 145 [.func (.yield l) #[] #[], .pointer (some ⟨g, 0, none⟩)] (.blk g 200 [.slice A xs.length c] :: S) w (fun v S' => v = .tuple #[] ∧ ∃ S1, S' = .blk g 200 [.slice A xs.length c] :: S1 ∧ I xs.length S1) := by
  refine does_of Tryz.func145 rfl Tryz.ntmps145 rfl hown (fun n => ?_)
  simp only [slots]
  refine z_go2
  refine c_loop (X := Nat × List HE) (fun x => x.1 ≤ xs.length ∧ I x.1 x.2) (fun x => [(0, .func (.yield l) #[] #[]), (5, .slice A xs.length c), (6, .int .i64 xs.length), (7, .int .i64 x.1)]) (fun x => .blk g 200 [.slice A xs.length c] :: x.2) (fun x => xs.length - x.1) (0, S) ⟨by simp, h0⟩ ⟨rfl, rfl, rfl, rfl, trivial⟩ (Sub.refl _) ?_
  rintro ⟨i, S1⟩ ⟨hi, hI⟩
  simp only at hi hI ⊢
  refine z_go2
  refine c_cond rfl (fun h => ?_) (fun h => ?_)
  · have hlt : i < xs.length := by have := of_decide_eq_true h; omega
    have hxi := hx i hlt
    refine z_go2
    refine lfv (v := .int .u32 (foldN (xs.getD i 0) : Nat)) rfl rfl rfl (fun w hw => fold_any _ w hxi.1 hxi.2) ?_
    refine z_go2
    refine lyl rfl rfl rfl (Split.all _ _) rfl (fun w hw ho => hy i S1 hlt hI w ho) ?_
    rintro v S2 ⟨rfl, hI2⟩
    refine z_go2
    exact c_round (i + 1, S2) ⟨by show i + 1 ≤ _; omega, hI2⟩ (by show _ - (i + 1) < _ - i; omega) ⟨rfl, rfl, rfl, by simp [look], trivial⟩ (Sub.swap1 _ _)
  · obtain rfl : i = xs.length := by have := of_decide_eq_false h; omega
    refine z_go2
    exact j_outN rfl (Sub.refl _) ⟨rfl, S1, rfl, hI⟩

/-- How many bits numbers take. -/
def bitsOf (xs : List Int) (k : Nat) : Nat := (xs.map fun x => sizeN (foldN x) k).sum
theorem sizeN_le (n k : Nat) (hk : k ≤ 16) : sizeN n k ≤ 38 := by unfold sizeN; split <;> omega
theorem bitsOf_take (xs : List Int) (k i : Nat) (h : i < xs.length) : bitsOf (xs.take (i + 1)) k = bitsOf (xs.take i) k + sizeN (foldN (xs.getD i 0)) k := by
  unfold bitsOf
  rw [List.take_succ_eq_append_getElem h, List.map_append, List.sum_append]
  simp [List.getD_eq_getElem?_getD, h]
theorem bitsOf_le (xs : List Int) (k : Nat) (hk : k ≤ 16) : bitsOf xs k ≤ 38 * xs.length := by
  unfold bitsOf
  induction xs with
  | nil => simp
  | cons x r ih =>
    have := sizeN_le (foldN x) k hk
    simp only [List.map_cons, List.sum_cons, List.length_cons]
    omega
/-- The parameter of the first j by which numbers take the fewest bits, the least one of several; and how many these are. -/
def bestTo (xs : List Int) : Nat → Nat
  | 0 => 0
  | j + 1 => if bitsOf xs (j + 1) < bitsOf xs (bestTo xs j) then j + 1 else bestTo xs j
def bestK (xs : List Int) : Nat := bestTo xs 16
theorem bestTo_le (xs : List Int) (j : Nat) : bestTo xs j ≤ j := by
  induction j with
  | zero => simp [bestTo]
  | succ j ih => unfold bestTo; split <;> omega
def bstI (xs : List Int) (k : Nat) : Int := if k = 0 then 0 else (bestTo xs (k - 1) : Nat)
def lstI (xs : List Int) (k : Nat) : Int := if k = 0 then -1 else (bitsOf xs (bestTo xs (k - 1)) : Nat)
set_option maxHeartbeats 8000000 in
theorem best_any (A : Option Addr) (c : Nat) (xs : List Int) (w : World) (hr : RoA w (blocks []) A xs.length c 1 (ints .i32 xs)) (hx : In32 xs) (hm : xs.length < 1000000) :
    Does Tryz.prog 132 [.slice A xs.length c] [] w (fun v S' => v = .tuple #[.int .i64 (bestK xs), .int .i64 (bitsOf xs (bestK xs))] ∧ S' = []) := by
  refine does_ofM Tryz.func132 rfl Tryz.ntmps132 rfl ⟨by simp, .nil⟩ (fun n => ?_)
  simp only [slots]
  refine z_go2
  refine c_loopD (X := Nat × List Nat) (fun x => x.1 ≤ 17) (fun x => marks x.2) (fun x => [(0, .slice A xs.length c), (4, .int .i64 (bstI xs x.1)), (5, .int .i64 (lstI xs x.1)), (9, .int .i64 x.1)]) (fun x => marksH x.2) (fun x => 17 - x.1) (0, []) (by simp) rfl ⟨rfl, rfl, rfl, rfl, trivial⟩ (.nil _) ?_
  rintro ⟨k, Ds⟩ hk
  simp only at hk ⊢
  refine z_go2
  refine c_cond rfl (fun h => ?_) (fun h => ?_)
  · have hk2 : k ≤ 16 := by have := of_decide_eq_true h; omega
    refine z_go2
    refine lfn rfl rfl (Split.nil _) rfl (fun w hw ho => folded_any _ _ _ w) ?_
    rintro v S' ⟨g, rfl, rfl⟩
    refine z_go2
    rename_i b6 b7
    refine c_range (S0 := [.blk g 200 [.slice A xs.length c], .blk b7 3 [.int .i64 0], .blk b6 3 [.int .i64 k]])
      (Rp := fun D l pend S1 => pend = none ∧ S1 = [.blk g 200 [.slice A xs.length c], .blk b7 3 [.int .i64 (bitsOf xs k)], .blk b6 3 [.int .i64 k]]) rfl (Split.cons (Has.here _ _) (Split.cons (Has.here _ _) (Split.cons (Has.here _ _) (Split.nil _)))) (fun D l w1 LE hLE hw ho => ?_) ?_
    · have hro := hr.h.go hw (Split.cons (Has.there _ (Has.there _ (Has.here _ _))) (Split.cons (Has.here _ _) (Split.cons (Has.there _ (Has.here _ _)) (Split.cons (Has.there _ (Has.here _ _)) (Split.nil _)))))
      refine Does.conv (folded1_any l g c A xs w1 [LE, .blk b7 3 [.int .i64 0], .blk b6 3 [.int .i64 k]] (fun i S => S = [LE, .blk b7 3 [.int .i64 (bitsOf (xs.take i) k)], .blk b6 3 [.int .i64 k]])
        (ho.perm (List.Perm.swap _ _ _)) ⟨hro⟩ hx (by omega) (by simp [bitsOf]) ?_) (List.Perm.swap _ _ _) ?_
      · rintro i S1 hi rfl w2 ho2
        have hxi := hx i hi
        have hfl := foldN_le _ hxi.1 hxi.2
        have hsz := sizeN_le (foldN (xs.getD i 0)) k hk2
        have hb := bitsOf_le (xs.take i) k hk2
        have hbt := bitsOf_take xs k i hi
        rw [List.length_take] at hb
        subst hLE
        refine yields_of (N := 32) ho2 rfl (by simp) (fun n => ?_)
        simp only [over]
        refine z_go2
        refine c_begin ?_
        refine z_go2
        refine c_drw rfl (by decide) (by decide +kernel) ?_
        refine z_hq
        refine hfv (v := .int .i64 (sizeN (foldN (xs.getD i 0)) k : Nat)) rfl rfl rfl (fun w hw => size_any _ k w hfl hk2) ?_
        refine z_hq
        refine h_nil ?_
        refine z_go2
        refine c_rnormal (Sub.refl _) ⟨rfl, ?_⟩
        rw [hbt]; simp
      · rintro v S' ⟨-, S1, rfl, rfl⟩
        rw [List.take_of_length_le (Nat.le_refl _)]
        exact ⟨_, List.Perm.swap _ _ _, .ready, none, _, by rw [hLE], by simp, rfl, rfl⟩
    · rintro D l pend S1 ⟨rfl, rfl⟩
      refine ⟨fun _ => ?_, fun c h => by cases h⟩
      refine z_go2
      refine j_case 22 rfl (fun h2 => ?_) (fun h2 => ?_)
      · have hk0 : k = 0 := by
          have := of_decide_eq_true h2
          unfold lstI at this
          split at this
          · assumption
          · omega
        subst hk0
        refine z_go2
        exact c_roundD (1, D :: Ds) (by simp) (by simp) rfl ⟨rfl, rfl, rfl, rfl, trivial⟩ (Sub.skip (Sub.skip (Sub.skip (Sub.refl _) _) _) _)
      · obtain ⟨j, rfl⟩ : ∃ j, k = j + 1 := ⟨k - 1, by
          have := of_decide_eq_false h2
          unfold lstI at this
          split at this <;> omega⟩
        have e1 : lstI xs (j + 1) = (bitsOf xs (bestTo xs j) : Nat) := by simp [lstI]
        have e2 : bstI xs (j + 1) = (bestTo xs j : Nat) := by simp [bstI]
        have hbt : bestTo xs (j + 1) = if bitsOf xs (j + 1) < bitsOf xs (bestTo xs j) then j + 1 else bestTo xs j := rfl
        refine z_go2
        refine c_cond rfl (fun h3 => ?_) (fun h3 => ?_)
        · have h4 : bitsOf xs (j + 1) < bitsOf xs (bestTo xs j) := by have := of_decide_eq_true h3; omega
          rw [if_pos h4] at hbt
          refine z_go2
          refine c_roundD (j + 2, D :: Ds) (by show j + 2 ≤ 17; omega) (by show 17 - (j + 2) < 17 - (j + 1); omega) rfl ⟨rfl, ?_, ?_, by simp [look]; omega, trivial⟩ (Sub.skip (Sub.skip (Sub.skip (Sub.refl _) _) _) _)
          · simp [look, bstI, hbt]
          · simp [look, lstI, hbt]
        · have h4 : ¬ bitsOf xs (j + 1) < bitsOf xs (bestTo xs j) := by have := of_decide_eq_false h3; omega
          rw [if_neg h4] at hbt
          refine z_go2
          refine c_roundD (j + 2, D :: Ds) (by show j + 2 ≤ 17; omega) (by show 17 - (j + 2) < 17 - (j + 1); omega) rfl ⟨rfl, ?_, ?_, by simp [look]; omega, trivial⟩ (Sub.skip (Sub.skip (Sub.skip (Sub.refl _) _) _) _)
          · simp [look, bstI, hbt]
          · simp [look, lstI, hbt]
  · obtain rfl : k = 17 := by have := of_decide_eq_false h; omega
    refine z_go2
    exact j_outM2 (S' := []) rfl rfl rfl (Sub.refl _) ⟨rfl, rfl⟩
end Go.Proofs.YtemmnpgebpffbaaGreat
/- Package rice: a row written, and read. -/
namespace Go.Proofs.YtemmnpgebpffbaaGreat
open Go.RowKit
def codesB (xs : List Int) (k : Nat) : List Bool := xs.flatMap fun x => codeB (foldN x) k
/-- A row of numbers as bits. -/
def rowB (xs : List Int) : List Bool := numBits (bestK xs) 5 ++ codesB xs (bestK xs)
/-- Numbers that have room in a code. -/
def Fits (xs : List Int) : Prop := ∀ x ∈ xs, foldN x < 131072
theorem codesB_len (xs : List Int) (k : Nat) : (codesB xs k).length = bitsOf xs k := by
  unfold codesB bitsOf
  rw [List.length_flatMap]
  congr 1
  apply List.map_congr_left
  intro x _
  exact codeB_len _ _
theorem codesB_snoc (xs : List Int) (x : Int) (k : Nat) : codesB (xs ++ [x]) k = codesB xs k ++ codeB (foldN x) k := by simp [codesB]
theorem bestK_le (xs : List Int) : bestK xs ≤ 16 := bestTo_le xs 16
theorem foldN_inj {x y : Int} (h : foldN x = foldN y) : x = y := (foldI_inj x y).1 (by rw [← foldN_cast, ← foldN_cast, h])
theorem codes_same {ys : List Int} {k : Nat} : ∀ (zs xs : List Int) (q : Nat), isAt ys q (codesB zs k) → isAt ys q (codesB xs k) → zs.length ≤ xs.length → Fits zs → Fits xs → xs.take zs.length = zs
  | [], xs, q, _, _, _, _, _ => by simp
  | z :: zs, [], q, _, _, h, _, _ => by simp at h
  | z :: zs, x :: xs, q, h1, h2, hl, f1, f2 => by
    have e1 : codesB (z :: zs) k = codeB (foldN z) k ++ codesB zs k := rfl
    have e2 : codesB (x :: xs) k = codeB (foldN x) k ++ codesB xs k := rfl
    rw [e1, isAt_append] at h1
    rw [e2, isAt_append] at h2
    obtain rfl := foldN_inj (code_same (f1 z (by simp)) (f2 x (by simp)) h1.1 h2.1)
    rw [List.length_cons, List.take_succ_cons, codes_same zs xs _ h1.2 h2.2 (by simpa using hl) (fun y hy => f1 y (by simp [hy])) (fun y hy => f2 y (by simp [hy]))]
theorem five_same {ys : List Int} {p x y : Nat} (hx : x < 32) (hy : y < 32) (h1 : isAt ys p (numBits x 5)) (h2 : isAt ys p (numBits y 5)) : x = y := by
  have e1 := (isAt_num.1 h1).2
  have e2 := (isAt_num.1 h2).2
  rw [e1] at e2
  omega
attribute [local irreducible] OJ J HdJ Code.wpIn wpListIn Oper.wpIn bodyPost CallsIn Does
set_option maxRecDepth 4000
set_option maxHeartbeats 8000000 in
theorem row_any (g c : Nat) (A : Option Addr) (bs : List Bool) (Al : Option Addr) (cl : Nat) (xs : List Int) (w : World) (hown : Own (Wr g A c bs) w) (hr : RoA w (blocks (Wr g A c bs)) Al xs.length cl 1 (ints .i32 xs)) (hx : In32 xs) (hm : xs.length < 1000000) (hb : bs.length < 100000000) :
    Does Tryz.prog 114 [.pointer (some ⟨g, 0, none⟩), .slice Al xs.length cl] (Wr g A c bs) w (fun v S' => v = .tuple #[] ∧ ∃ A' c', S' = Wr g A' c' (bs ++ rowB xs)) := by
  have hk := bestK_le xs
  refine does_ofM Tryz.func114 rfl Tryz.ntmps114 rfl hown (fun n => ?_)
  simp only [slots]
  refine z_go2
  rename_i b2
  refine lfv rfl rfl rfl (fun w1 hw => best_any Al cl xs w1 ⟨hr.h.go hw (Split.nil _)⟩ hx hm) ?_
  refine z_go2
  rename_i b4
  refine lfn rfl rfl (Split.cons (Has.there _ (Has.there _ (Has.here _ _))) (Split.cons (Has.there _ (Has.there _ (Has.here _ _))) (Split.nil _))) rfl (fun w hw ho => num_any g c A bs (bestK xs) 5 w ho (by omega) (by omega) (by omega)) ?_
  rintro v S' ⟨rfl, A1, c1, rfl⟩
  refine z_go2
  refine lfn rfl rfl (Split.nil _) rfl (fun w hw ho => folded_any _ _ _ w) ?_
  rintro v S' ⟨g3, rfl, rfl⟩
  refine z_go2
  have hbl := bitsOf_le xs (bestK xs) hk
  refine c_range (S0 := .blk g3 200 [.slice Al xs.length cl] :: .blk b4 3 [.int .i64 (bestK xs)] :: .blk b2 203 [.pointer (some ⟨g, 0, none⟩)] :: Wr g A1 c1 (bs ++ numBits (bestK xs) 5))
    (Rp := fun D l pend S1 => pend = none ∧ ∃ A2 c2, S1 = .blk g3 200 [.slice Al xs.length cl] :: .blk b4 3 [.int .i64 (bestK xs)] :: .blk b2 203 [.pointer (some ⟨g, 0, none⟩)] :: Wr g A2 c2 (bs ++ rowB xs)) rfl (Split.cons (Has.here _ _) (Split.cons (Has.there _ (Has.there _ (Has.here _ _))) (Split.cons (Has.there _ (Has.there _ (Has.here _ _))) (Split.cons (Has.here _ _) (Split.cons (Has.here _ _) (Split.nil _)))))) (fun D l w1 LE hLE hw ho => ?_) ?_
  · have hro := hr.h.go hw (Split.cons (Has.there _ (Has.there _ (Has.here _ _))) (Split.cons (Has.here _ _) (Split.cons (Has.there _ (Has.there _ (Has.there _ (Has.here _ _)))) (Split.cons (Has.there _ (Has.there _ (Has.there _ (Has.here _ _)))) (Split.cons (Has.there _ (Has.here _ _)) (Split.cons (Has.there _ (Has.here _ _)) (Split.nil _)))))))
    refine Does.conv (folded1_any l g3 cl Al xs w1 (LE :: .blk b4 3 [.int .i64 (bestK xs)] :: .blk b2 203 [.pointer (some ⟨g, 0, none⟩)] :: Wr g A1 c1 (bs ++ numBits (bestK xs) 5))
      (fun i S => ∃ A2 c2, S = LE :: .blk b4 3 [.int .i64 (bestK xs)] :: .blk b2 203 [.pointer (some ⟨g, 0, none⟩)] :: Wr g A2 c2 (bs ++ numBits (bestK xs) 5 ++ codesB (xs.take i) (bestK xs)))
      (ho.perm (List.Perm.swap _ _ _)) ⟨hro⟩ hx (by omega) ⟨A1, c1, by simp [codesB]⟩ ?_) (List.Perm.swap _ _ _) ?_
    · rintro i S1 hi ⟨A2, c2, rfl⟩ w2 ho2
      have hxi := hx i hi
      have hfl := foldN_le _ hxi.1 hxi.2
      have hcl := codesB_len (xs.take i) (bestK xs)
      have hb2 := bitsOf_le (xs.take i) (bestK xs) hk
      rw [List.length_take] at hb2
      have hsn : codesB (xs.take (i + 1)) (bestK xs) = codesB (xs.take i) (bestK xs) ++ codeB (foldN (xs.getD i 0)) (bestK xs) := by
        rw [List.take_succ_eq_append_getElem hi, codesB_snoc]; simp [List.getD_eq_getElem?_getD, hi]
      subst hLE
      refine yields_of (N := 23) ho2 rfl (by simp) (fun n => ?_)
      simp only [over]
      refine z_go2
      refine c_begin ?_
      refine z_go2
      refine lfn rfl rfl (Split.cons (Has.there _ (Has.there _ (Has.there _ (Has.here _ _)))) (Split.cons (Has.there _ (Has.there _ (Has.there _ (Has.here _ _)))) (Split.nil _))) rfl (fun w hw ho => put_any g c2 A2 _ (foldN (xs.getD i 0)) (bestK xs) w ho (by simp [numBits_len, hcl]; omega) hfl hk) ?_
      rintro v S' ⟨rfl, A3, c3, rfl⟩
      refine z_go2
      refine j_perm (H' := _ :: _ :: _ :: Wr g A3 c3 _) (Sub.cons (Has.there _ (Has.there _ (Has.here _ _))) (Sub.cons (Has.there _ (Has.there _ (Has.here _ _))) (Sub.cons (Has.there _ (Has.there _ (Has.here _ _))) (Sub.cons (Has.here _ _) (Sub.cons (Has.here _ _) (Sub.nil _)))))) ?_
      refine c_rnormal (Sub.refl _) ⟨rfl, A3, c3, ?_⟩
      rw [hsn, List.append_assoc _ (codesB _ _)]
    · rintro v S' ⟨-, S1, rfl, A2, c2, rfl⟩
      rw [List.take_of_length_le (Nat.le_refl _)]
      exact ⟨_, List.Perm.swap _ _ _, .ready, none, _, by rw [hLE], by simp, rfl, A2, c2, by simp [rowB]⟩
  · rintro D l pend S1 ⟨rfl, A2, c2, rfl⟩
    refine ⟨fun _ => ?_, fun c h => by cases h⟩
    refine z_go2
    exact j_outM0 (Ds := [D]) (S' := Wr g A2 c2 (bs ++ rowB xs)) rfl (Sub.skip (Sub.skip (Sub.skip (Sub.refl _) _) _) _) ⟨rfl, A2, c2, rfl⟩ .normal (.inl rfl)

/-- What IsRow comes to. -/
def IsRowR (g c : Nat) (A : Option Addr) (ys : List Int) (p n : Nat) (v : Value) (S' : List HE) : Prop :=
  ∃ (xs : List Int) (Ax : Option Addr) (cx p' : Nat) (ok wr : Bool), v = .tuple #[.slice Ax xs.length cx, .bool ok] ∧ S' = .row (.slice Ax xs.length cx) 21 1 xs.length (ints .i32 xs) :: Rd g A c ys p' wr ∧ p' ≤ 8 * ys.length ∧
    ((ok = true ∧ wr = false ∧ xs.length = n ∧ Fits xs ∧ In32 xs ∧ p' = p + (rowB xs).length ∧ isAt ys p (rowB xs)) ∨ (ok = false ∧ ∀ zs, zs.length = n → Fits zs → ¬ isAt ys p (rowB zs)))
set_option maxHeartbeats 8000000 in
theorem isrow_any (g c : Nat) (A : Option Addr) (ys : List Int) (p m : Nat) (w : World) (hown : Own (Rd g A c ys p false) w) (hm : ys.length < 100000000) (hp : p ≤ 8 * ys.length) (hn : m < 100000) :
    Does Tryz.prog 149 [.pointer (some ⟨g, 0, none⟩), .int .i64 m] (Rd g A c ys p false) w (IsRowR g c A ys p m) := by
  refine does_of Tryz.func149 rfl Tryz.ntmps149 rfl hown (fun n => ?_)
  simp only [slots]
  refine j_nil (e := 21) (size := 1) ?_
  refine z_go2
  refine lfn rfl rfl (Split.cons (Has.there _ (Has.here _ _)) (Split.cons (Has.there _ (Has.here _ _)) (Split.nil _))) rfl (fun w hw ho => rnum_any g c A ys p 5 false w ho hm hp (by omega)) ?_
  rintro v S' ⟨k, p1, wr1, rfl, hk, rfl, hp1, hk2⟩
  have hk3 : k < 32 := hk
  have hsplit : ∀ zs, isAt ys p (rowB zs) → isAt ys p (numBits (bestK zs) 5) ∧ isAt ys (p + 5) (codesB zs (bestK zs)) := fun zs h => by
    have := isAt_append.1 h
    rwa [numBits_len] at this
  refine z_go2
  rcases hk2 with ⟨rfl, -, rfl, hat⟩ | ⟨rfl, hno⟩
  · refine lfk (v := .bool true) rfl rfl (Split.cons (Has.here _ _) (Split.cons (Has.here _ _) (Split.nil _))) (Sub.refl _) rfl (fun w hw ho => right_any g c A ys _ false w ho) ?_
    refine z_go2
    refine j_case 22 rfl (fun h1 => ?_) (fun h1 => ?_)
    · have h16 : 16 < k := by have := of_decide_eq_true h1; omega
      refine z_go2
      refine j_out2 rfl rfl rfl (S' := .row (.slice none 0 0) 21 1 0 (ints .i32 []) :: Rd g A c ys (p + 5) false) (.cons (.there _ (.there _ (.here _ _))) (Sub.refl _)) ⟨[], none, 0, p + 5, false, false, rfl, rfl, hp1, .inr ⟨rfl, fun zs _ _ h => ?_⟩⟩
      have := five_same (by have := bestK_le zs; omega) hk3 (hsplit zs h).1 hat
      have := bestK_le zs
      omega
    · have h16 : k ≤ 16 := by have := of_decide_eq_false h1; omega
      refine z_go2
      refine c_loop (X := List Int × Option Addr × Nat) (fun x => x.1.length ≤ m ∧ Fits x.1 ∧ In32 x.1 ∧ isAt ys (p + 5) (codesB x.1 k)) (fun x => [(0, .pointer (some ⟨g, 0, none⟩)), (6, .int .i64 k), (7, .slice x.2.1 x.1.length x.2.2), (26, .int .i64 m), (27, .int .i64 x.1.length)])
        (fun x => .row (.slice x.2.1 x.1.length x.2.2) 21 1 x.1.length (ints .i32 x.1) :: Rd g A c ys (p + 5 + bitsOf x.1 k) false) (fun x => m - x.1.length) ([], none, 0) ⟨by simp, by simp [Fits], by simp [In32], isAt_nil.2 hp1⟩ ⟨rfl, rfl, rfl, rfl, rfl, trivial⟩ (.cons (.there _ (.there _ (.here _ _))) (Sub.refl _)) ?_
      rintro ⟨zs, Az, cz⟩ ⟨hz1, hz2, hz3, hz4⟩
      simp only at hz1 hz2 hz3 hz4 ⊢
      have hq : p + 5 + bitsOf zs k ≤ 8 * ys.length := by have := hz4.1; rwa [codesB_len] at this
      refine z_go2
      refine c_cond rfl (fun h => ?_) (fun h => ?_)
      · have hlt : zs.length < m := by have := of_decide_eq_true h; omega
        refine z_go2
        refine lfn rfl rfl (Split.cons (Has.there _ (Has.here _ _)) (Split.cons (Has.there _ (Has.here _ _)) (Split.nil _))) rfl (fun w hw ho => get_any g c A ys _ k w ho hm hq h16) ?_
        rintro v S' ⟨x, p2, ok, wr, rfl, rfl, hp2, hx⟩
        refine z_go2
        rcases hx with ⟨rfl, rfl, hx1, rfl, hxat⟩ | ⟨rfl, hxno⟩
        · have hfu : foldN (unfoldI x) = x := by have h1 := foldN_cast (unfoldI x); rw [fold_unfold _ (by omega)] at h1; omega
          have hur := unfoldI_range x (by omega) (by omega)
          refine z_go2
          refine lfv (v := .int .i32 (unfoldI x)) rfl rfl rfl (fun w hw => unfold_any x w (by omega) (by omega)) ?_
          refine z_go2
          have hsn := codesB_snoc zs (unfoldI x) k
          have hbs : bitsOf (zs ++ [unfoldI x]) k = bitsOf zs k + sizeN x k := by rw [← codesB_len, ← codesB_len, hsn, List.length_append, codeB_len, hfu]
          refine c_round (zs ++ [unfoldI x], _, _) ⟨by simp; omega, fun y hy => ?_, fun i hi => ?_, ?_⟩ (by show m - (zs ++ [unfoldI x]).length < m - zs.length; simp; omega) ⟨rfl, rfl, rfl, rfl, by simp [look], trivial⟩ ?_
          · rcases List.mem_append.1 hy with hy | hy
            · exact hz2 y hy
            · rw [List.mem_singleton.1 hy, hfu]; exact hx1
          · rw [List.length_append, List.length_singleton] at hi
            rcases Nat.lt_or_ge i zs.length with h5 | h5
            · have := hz3 i h5
              simpa [List.getD_eq_getElem?_getD, List.getElem?_append_left h5] using this
            · obtain rfl : i = zs.length := by omega
              simpa [List.getD_eq_getElem?_getD] using hur
          · rw [hsn, isAt_append, codesB_len, hfu]; exact ⟨hz4, hxat⟩
          · simp only [hbs, ← Nat.add_assoc]
            exact Sub.au
        · refine z_go2
          refine j_nil (e := 21) (size := 1) ?_
          refine j_out2 rfl rfl rfl (S' := .row (.slice none 0 0) 21 1 0 (ints .i32 []) :: Rd g A c ys p2 wr) ?_ ⟨[], none, 0, p2, false, wr, rfl, rfl, hp2, .inr ⟨rfl, fun us hu1 hu2 h => ?_⟩⟩
          · exact .cons (.here _ _) (.cons (.here _ _) (.cons (.here _ _) (.nil _)))
          · have hs := hsplit us h
            have e := five_same (by have := bestK_le us; omega) hk3 hs.1 hat
            rw [e] at hs
            have hpre := codes_same zs us _ hz4 hs.2 (by omega) hz2 hu2
            have e2 : us = us.take zs.length ++ us.getD zs.length 0 :: us.drop (zs.length + 1) := by
              rw [List.getD_eq_getElem?_getD, List.getElem?_eq_getElem (by omega), Option.getD_some, ← List.drop_eq_getElem_cons, List.take_append_drop]
            have hs2 := hs.2
            rw [e2, hpre] at hs2
            have e3 : codesB (zs ++ us.getD zs.length 0 :: us.drop (zs.length + 1)) k = codesB zs k ++ (codeB (foldN (us.getD zs.length 0)) k ++ codesB (us.drop (zs.length + 1)) k) := by simp [codesB]
            rw [e3, isAt_append, isAt_append, codesB_len] at hs2
            refine hxno _ (hu2 _ ?_) hs2.2.1
            rw [List.getD_eq_getElem?_getD, List.getElem?_eq_getElem (by omega), Option.getD_some]
            exact List.getElem_mem _
      · have hge : zs.length = m := by have := of_decide_eq_false h; omega
        refine z_go2
        refine lfv rfl rfl rfl (fun w1 hw => best_any Az cz zs w1 ⟨Ro.row hw (Split.nil _) (.here _ _)⟩ hz3 (by omega)) ?_
        refine z_go2
        refine j_out2 rfl rfl rfl (Sub.refl _) ⟨zs, Az, cz, _, _, false, rfl, rfl, hq, ?_⟩
        have hrl : (numBits (bestK zs) 5 ++ codesB zs (bestK zs)).length = 5 + bitsOf zs (bestK zs) := by rw [List.length_append, numBits_len, codesB_len]
        by_cases hbk : bestK zs = k
        · refine .inl ⟨by simp [hbk], rfl, hge, hz2, hz3, ?_, ?_⟩
          · unfold rowB; rw [hrl, hbk, Nat.add_assoc]
          · unfold rowB; rw [isAt_append, numBits_len, hbk]; exact ⟨hat, hz4⟩
        · refine .inr ⟨by simp; omega, fun us hu1 hu2 h => hbk ?_⟩
          have hs := hsplit us h
          have e := five_same (by have := bestK_le us; omega) hk3 hs.1 hat
          rw [e] at hs
          have hpre := codes_same zs us _ hz4 hs.2 (by omega) hz2 hu2
          rw [List.take_of_length_le (by omega)] at hpre
          rw [← hpre]; exact e
  · refine lfk (v := .bool false) rfl rfl (Split.cons (Has.here _ _) (Split.cons (Has.here _ _) (Split.nil _))) (Sub.refl _) rfl (fun w hw ho => right_any g c A ys _ true w ho) ?_
    refine z_go2
    refine j_out2 rfl rfl rfl (S' := .row (.slice none 0 0) 21 1 0 (ints .i32 []) :: Rd g A c ys p1 true) (.cons (.there _ (.there _ (.here _ _))) (Sub.refl _)) ⟨[], none, 0, p1, false, true, rfl, rfl, hp1, .inr ⟨rfl, fun zs _ _ h => hno rfl _ (hsplit zs h).1⟩⟩
end Go.Proofs.YtemmnpgebpffbaaGreat
/- The reference's layer 7: codes and rows, by definition. -/
namespace Go.Proofs.YtemmnpgebpffbaaGreat
open Go.RowKit
attribute [local irreducible] OJ J HdJ Code.wpIn wpListIn Oper.wpIn bodyPost CallsIn Does
set_option maxRecDepth 4000
/-- A power of two. -/
def p2 (k : Nat) : Nat := 2 ^ k
theorem p2_le {i k : Nat} (h : i ≤ k) : p2 i ≤ p2 k := Nat.pow_le_pow_right (by omega) h
theorem p2_pos (k : Nat) : 0 < p2 k := Nat.pow_pos (by omega)
theorem p2_succ (k : Nat) : p2 (k + 1) = 2 * p2 k := by simp [p2, Nat.pow_succ, Nat.mul_comm]
theorem p2_32 : p2 32 = 4294967296 := rfl
end Go.Proofs.YtemmnpgebpffbaaGreat
/- The engine: more steps that are found by instances: strings of bytes, pointers and nil, whole structs stored. -/
namespace Go.Proofs.YtemmnpgebpffbaaGreat
open Go.RowKit

/-- Bytes. -/
def U8s (xs : List Int) : Prop := ∀ x ∈ xs, 0 ≤ x ∧ x < 256
theorem strOfNums_eq {xs ys : List Int} (hx : U8s xs) (hy : U8s ys) : ((strOfNums xs).toList == (strOfNums ys).toList) = (xs == ys) := by
  have key : ∀ xs ys : List Int, U8s xs → U8s ys → (xs.map fun n => UInt8.ofNat n.toNat) = (ys.map fun n => UInt8.ofNat n.toNat) → xs = ys := by
    intro xs
    induction xs with
    | nil => intro ys _ _ h; cases ys with
      | nil => rfl
      | cons y r => simp at h
    | cons x r ih =>
      intro ys hx hy h
      cases ys with
      | nil => simp at h
      | cons y s =>
        simp only [List.map_cons, List.cons.injEq] at h
        have h1 := hx x (by simp)
        have h2 := hy y (by simp)
        have h3 := congrArg UInt8.toNat h.1
        simp only [UInt8.toNat_ofNat'] at h3
        rw [ih s (fun z hz => hx z (by simp [hz])) (fun z hz => hy z (by simp [hz])) h.2, show x = y from by omega]
  have e : ∀ xs, (strOfNums xs).toList = xs.map fun n => UInt8.ofNat n.toNat := fun xs => by
    rw [← strOfNums_data]
    exact ByteArray.toList_eq _
  rw [e, e, Bool.eq_iff_iff]
  simp only [beq_iff_eq]
  exact ⟨key xs ys hx hy, fun h => by rw [h]⟩

section
variable {P : Program} {w0 : World} {W : Nat → Prop} {H : List HE}
instance (priority := 50) (s t e : TypeId) (x : Operand) (A : Option Addr) (m c : Nat) (xs : List Int) [Und P s (.slice e)] [Und P e (.int .u8)] [Und P t .string] [hs : SrcC w0 W H e 1 (.slice A m c) m (ints .u8 xs)] : MS P w0 W H (.convert s t x) [.slice A m c] (.string (strOfNums xs)) True :=
  ⟨fun _ _ _ _ _ _ _ _ _ _ _ _ _ _ h1 h2 h3 => o_val (by simp) rfl h2 (fun a w ha hw => by
    obtain ⟨A', c', e1, -, -, e2, e3⟩ := hs.h w hw
    injection e1 with q1 _ q3; subst q1 q3
    have hlen : xs.length = m := by simpa using e2
    have hx := ha.eval (opnds1 rfl h1)
    have hrun : (convert s t (.slice A m c)).run P w = .ok (.string (strOfNums xs)) w := by
      rcases Nat.eq_zero_or_pos m with h0 | h0
      · subst h0
        have hn : xs = [] := List.eq_nil_of_length_eq_zero hlen
        subst hn
        cases A with
        | none => rw [run_convert_bytes_nil w s e Und.h Und.h 0 c t Und.h]; rfl
        | some ad =>
          rw [run_convert_bytes_string w s t e _ 0 c Und.h Und.h Und.h, run_bytesToString w ad 0 c [] (by simp [loadCells, loadCellsFrom])]; rfl
      · obtain ⟨b, off, rfl, hc⟩ := e3 h0
        exact run_convert_bytes_arg w s e Und.h Und.h b off m c xs hlen (fun i hi => hc i _ (by simp [ints, List.getD_eq_getElem?_getD, show i < xs.length from by omega]) w hw) t Und.h
    simp only [execOp, hx, Sem.run_bind, hrun, Result.andThen_ok, Sem.run_pure]) h3⟩
instance (t u : TypeId) (x y : Operand) (xs ys : List Int) : MS P w0 W H (.binOp .eql t x y u) [.string (strOfNums xs), .string (strOfNums ys)] (.bool (xs == ys)) (U8s xs ∧ U8s ys) :=
  ⟨fun hc _ _ _ _ _ _ _ _ _ _ _ _ _ h1 h2 h3 => o_val (by simp) rfl h2 (fun a w ha hw => by
    obtain ⟨p, q⟩ := vals2 h1
    simp [execOp, ha.eval p, ha.eval q, eqGuard, binOp_string_eql, strOfNums_eq hc.1 hc.2]) h3⟩
theorem pointee_of {t e : TypeId} [h : Und P t (.pointer e)] : P.underlying t = some (.pointer (P.pointee t)) := by
  have := h.h
  rw [this, Program.pointee, this]
instance (t u e : TypeId) (x y : Operand) (p : Addr) [Und P t (.pointer e)] : MS P w0 W H (.binOp .eql t x y u) [.pointer (some p), .pointer none] (.bool false) True :=
  ⟨fun _ _ _ _ _ _ _ _ _ _ _ _ _ _ h1 h2 h3 => o_val (by simp) rfl h2 (fun a w ha hw => by
    obtain ⟨p, q⟩ := vals2 h1
    simp [execOp, ha.eval p, ha.eval q, eqGuard, run_eql_pointer_nil w t _ (pointee_of (t := t) (e := e))]) h3⟩
instance (t u e : TypeId) (x y : Operand) (p : Addr) [Und P t (.pointer e)] : MS P w0 W H (.binOp .neq t x y u) [.pointer (some p), .pointer none] (.bool true) True :=
  ⟨fun _ _ _ _ _ _ _ _ _ _ _ _ _ _ h1 h2 h3 => o_val (by simp) rfl h2 (fun a w ha hw => by
    obtain ⟨p, q⟩ := vals2 h1
    simp [execOp, ha.eval p, ha.eval q, eqGuard, run_neq_pointer_nil w t _ (pointee_of (t := t) (e := e))]) h3⟩
instance (t u e : TypeId) (x y : Operand) [Und P t (.pointer e)] : MS P w0 W H (.binOp .eql t x y u) [.pointer none, .pointer none] (.bool true) True :=
  ⟨fun _ _ _ _ _ _ _ _ _ _ _ _ _ _ h1 h2 h3 => o_val (by simp) rfl h2 (fun a w ha hw => by
    obtain ⟨p, q⟩ := vals2 h1
    simp [execOp, ha.eval p, ha.eval q, eqGuard, run_eql_pointer_nil w t _ (pointee_of (t := t) (e := e))]) h3⟩

theorem r_storeAgg {F : Fence} {n N : Nat} {ds : List Deferred} {σ : List (Nat × Value)} {ty : TypeId} {pos : String} {aft : Array Edge} {gd : Option (Nat × Bool)} {K : Act → World → Prop} {Q : Exit → Act → World → Prop} {R : List HE} [Wide F] {t sz bs : Nat} {z : Value} {x y : Operand} {b q tb : Nat} {cs vs cs' : List Value} [hI : Inf P t sz bs z]
    (hx : ev σ x = some (.pointer (some ⟨b, q, none⟩))) (hy : ev σ y = some (.agg vs.toArray)) (h1 : ∀ v ∈ vs, v.oneCell' = true) (hm : Has H (.blk b tb cs) R) (hl : vs.length = sz) (ho : cs.take q ++ vs ++ cs.drop (q + vs.length) = cs') (hq : q + vs.length ≤ cs.length)
    (h : J N ds w0 W σ (.blk b tb cs' :: R) K) : OJ F n P N ds w0 W σ H ⟨none, .store t x y, ty, pos, aft, gd⟩ K Q :=
  o_skip (by simp) rfl (fun a w ha hw => by
    have hb : w.heap[b]? = some (.cells cs.toArray tb (0, 0)) := hw.has hm
    obtain ⟨i, e1, -, e2, -⟩ := hI.h
    have hst := run_storeCells_at P b q tb vs 0 cs.toArray w hb (by simpa using hq) h1
    simp only [Nat.add_zero] at hst
    refine ⟨w.setRow b (cs.take q ++ vs ++ cs.drop (q + vs.length)).toArray, by
      simp only [execOp, ha.eval hx, ha.eval hy, Instr.storeAt, Instr.sureAddr, storeVar, sizeOf, typeInfo, Sem.run_bind, Sem.run_pure, Result.andThen_ok]
      simp [e1, e2, hl, Value.cells, hst], ?_⟩
    subst ho
    refine hw.turn hm ?_ rfl rfl rfl (by simp) (fun k _ hk => setRow_other _ _ _ _ (fun e => hk (by rw [e]; rfl))) (.inl rfl)
    exact setRow_heap w b _ _ tb _ hb) h
instance (priority := 100) (t tb b q sz bs : Nat) (z : Value) (x y : Operand) (cs vs cs' : List Value) (k : HE → List HE) [Inf P t sz bs z] [hl : SameLen vs sz] [h1 : OneL vs] [h : At b H tb cs k] [hs : Over cs q vs cs'] : SS P w0 W H (.store t x y) [.pointer (some ⟨b, q, none⟩), .agg vs.toArray] (k (.blk b tb cs')) True :=
  ⟨fun _ _ _ _ _ _ _ _ _ _ _ _ _ k1 k3 => let ⟨_, h4, h5⟩ := h.h; let ⟨p1, p2⟩ := vals2 k1; r_storeAgg (t := t) p1 p2 h1.h h4 hl.h hs.h.1 hs.h.2 (j_perm (h5 _) k3)⟩
end

section
variable {F : Fence} {n : Nat} {P : Program} {N : Nat} {ds : List Deferred} {w0 : World} {W : Nat → Prop} {σ : List (Nat × Value)} {H : List HE} {Q : Exit → Act → World → Prop}
variable {ops : Array Oper} {rest : List Oper} {d : Nat} {ty : TypeId} {pos : String} {aft : Array Edge} {gd : Option (Nat × Bool)} {v : Value}
/-- A pick whose condition is reckoned. -/
theorem lpT [Wide F] {c x y : Operand} (hw : wantd ops σ ⟨some d, .pick c x y, ty, pos, aft, gd⟩ = some true) (hc : ev σ c = some (.bool true)) (hx : ev σ x = some v) (hdN : Nat.blt d N = true) (h : J N ds w0 W ((d, v) :: σ) H (wpListIn F n P ops Q rest)) :
    J N ds w0 W σ H (wpListIn F n P ops Q (⟨some d, .pick c x y, ty, pos, aft, gd⟩ :: rest)) := l_run hw (r_pickT hc hx hdN h)
theorem lpF [Wide F] {c x y : Operand} (hw : wantd ops σ ⟨some d, .pick c x y, ty, pos, aft, gd⟩ = some true) (hc : ev σ c = some (.bool false)) (hx : ev σ y = some v) (hdN : Nat.blt d N = true) (h : J N ds w0 W ((d, v) :: σ) H (wpListIn F n P ops Q rest)) :
    J N ds w0 W σ H (wpListIn F n P ops Q (⟨some d, .pick c x y, ty, pos, aft, gd⟩ :: rest)) := l_run hw (r_pickF hc hx hdN h)
theorem Sub.swapIn {x : HE} {H R1 : List HE} (h : Has H x R1) : ∀ {Z : List HE}, Sub R1 Z → Sub H (x :: Z) := by
  induction h with
  | here x r => intro Z k; exact .cons (.here _ _) k
  | there y h ih =>
    intro Z k
    cases k with
    | cons hz k2 => exact .cons (.there _ hz) (ih k2)
theorem Split.back {S R : List HE} (h : Split H S R) : Sub H (S ++ R) := by
  induction h with
  | nil H => exact Sub.refl _
  | cons h _ ih => exact Sub.swapIn h ih
variable {dst : Nat} {f : FuncId} {args : Array Operand} {ts : Array TypeId} {us : List Value} {S R : List HE} {Rl : Value → List HE → Prop}
/-- Calls, the part of the heap found by instances. -/
theorem lk [Wide F] [WF F] [Cl P f]
    (hw : wantd ops σ ⟨some dst, .call ⟨.value (.func f), args, ts⟩, ty, pos, aft, gd⟩ = some true) (hv : vals σ args.toList = some us) (hdN : Nat.blt dst N = true)
    (hc : ∀ w, St w0 W H w → Own S w → Does P f us S w fun u S' => u = v ∧ S' = S) [hs : SplitC H S R] (h : J N ds w0 W ((dst, v) :: σ) H (wpListIn F n P ops Q rest)) :
    J N ds w0 W σ H (wpListIn F n P ops Q (⟨some dst, .call ⟨.value (.func f), args, ts⟩, ty, pos, aft, gd⟩ :: rest)) := lfk hw hv hs.h hs.h.back hdN hc h
theorem hk [Wide F] [WF F] [Cl P f] {T : List (Nat × Value) → Prop}
    (hw : wantd ops σ ⟨some dst, .call ⟨.value (.func f), args, ts⟩, ty, pos, aft, gd⟩ = some true) (hv : vals σ args.toList = some us) (hdN : Nat.blt dst N = true)
    (hc : ∀ w, St w0 W H w → Own S w → Does P f us S w fun u S' => u = v ∧ S' = S) [hs : SplitC H S R] (h : HdJ F n P N ds w0 W H ops rest ((dst, v) :: σ) T) :
    HdJ F n P N ds w0 W H ops (⟨some dst, .call ⟨.value (.func f), args, ts⟩, ty, pos, aft, gd⟩ :: rest) σ T := hfk hw hv hs.h hs.h.back hdN hc h
theorem lf [Wide F] [WF F] [Cl P f]
    (hw : wantd ops σ ⟨some dst, .call ⟨.value (.func f), args, ts⟩, ty, pos, aft, gd⟩ = some true) (hv : vals σ args.toList = some us) (hdN : Nat.blt dst N = true)
    (hc : ∀ w, St w0 W H w → Own S w → Does P f us S w Rl) [hs : SplitC H S R] (h : ∀ v S', Rl v S' → J N ds w0 W ((dst, v) :: σ) (S' ++ R) (wpListIn F n P ops Q rest)) :
    J N ds w0 W σ H (wpListIn F n P ops Q (⟨some dst, .call ⟨.value (.func f), args, ts⟩, ty, pos, aft, gd⟩ :: rest)) := lfn hw hv hs.h hdN hc h
end
end Go.Proofs.YtemmnpgebpffbaaGreat
/- The reference's layer 1: bits as bytes, and back; two rows of bytes held against each other. -/
namespace Go.Proofs.YtemmnpgebpffbaaGreat
open Go.RowKit
/-- A byte's first k bits as a number. -/
def byteTo (l : List Bool) (j : Nat) : Nat → Nat
  | 0 => 0
  | k + 1 => 2 * byteTo l j k + bitN l (8 * j + k)
theorem byteTo_8 (l : List Bool) (j : Nat) : byteTo l j 8 = packAt l j := by simp only [byteTo, packAt, Nat.add_zero]; omega
theorem byteTo_lt (l : List Bool) (j k : Nat) (h : k ≤ 8) : byteTo l j k < 256 := by
  have : byteTo l j k < 2 ^ k := by
    clear h
    induction k with
    | zero => simp [byteTo]
    | succ k ih => have := bitN_le l (8 * j + k); simp only [byteTo, Nat.pow_succ]; omega
  have h2 : 2 ^ k ≤ 2 ^ 8 := Nat.pow_le_pow_right (by omega) h
  have h3 : 2 ^ 8 = 256 := rfl
  omega
theorem pack_take (l : List Bool) (j : Nat) (h : j < (l.length + 7) / 8) : (pack l).take (j + 1) = (pack l).take j ++ [(packAt l j : Int)] := by
  rw [List.take_succ_eq_append_getElem (by rw [pack_len]; exact h)]
  have := getElem?_pack l j
  rw [if_pos h, List.getElem?_eq_getElem (by rw [pack_len]; exact h)] at this
  injection this with this
  rw [this]
theorem pack_u8 (l : List Bool) : U8s (pack l) := by
  intro x hx
  unfold pack at hx
  obtain ⟨k, -, rfl⟩ := List.mem_map.1 hx
  have := packAt_lt l k
  omega
theorem and_bit : ∀ (x : Fin 256) (r : Fin 8), (bits .and .u8 ((x : Nat) : Int) (128 / 2 ^ (r : Nat)) != 0) = ((x : Nat) / 2 ^ (7 - (r : Nat)) % 2 == 1) := by decide +kernel
theorem packAt_bit (l : List Bool) (j r : Nat) (h : r < 8) : packAt l j / 2 ^ (7 - r) % 2 = bitN l (8 * j + r) := by
  have o := bitN_le l
  have h0 := o (8 * j); have h1 := o (8 * j + 1); have h2 := o (8 * j + 2); have h3 := o (8 * j + 3); have h4 := o (8 * j + 4); have h5 := o (8 * j + 5); have h6 := o (8 * j + 6); have h7 := o (8 * j + 7)
  unfold packAt
  obtain rfl | rfl | rfl | rfl | rfl | rfl | rfl | rfl : r = 0 ∨ r = 1 ∨ r = 2 ∨ r = 3 ∨ r = 4 ∨ r = 5 ∨ r = 6 ∨ r = 7 := by omega
  all_goals
    simp only [Nat.reduceSub, Nat.reducePow, Nat.add_zero]
    omega
theorem bitY_pack (l : List Bool) (i : Nat) (h : i < l.length) : bitY (pack l) i = l.getD i false := by
  have e : (pack l).getD (i / 8) 0 = (packAt l (i / 8) : Nat) := by
    rw [List.getD_eq_getElem?_getD, getElem?_pack, if_pos (by omega)]; rfl
  unfold bitY
  rw [e, and_bit ⟨packAt l (i / 8), packAt_lt _ _⟩ ⟨i % 8, by omega⟩]
  show (packAt l (i / 8) / 2 ^ (7 - i % 8) % 2 == 1) = _
  rw [packAt_bit l (i / 8) (i % 8) (by omega), show 8 * (i / 8) + i % 8 = i from by omega]
  unfold bitN
  cases l.getD i false <;> simp
theorem isAt_pack (a l b : List Bool) : isAt (pack (a ++ l ++ b)) a.length l := by
  refine ⟨?_, fun i hi => ?_⟩
  · rw [pack_len]; simp only [List.length_append]; omega
  · rw [bitY_pack _ _ (by simp only [List.length_append]; omega), List.append_assoc, getD_append_right (by omega), Nat.add_sub_cancel_left, getD_append_left hi]
theorem isAt_pack0 (l : List Bool) : isAt (pack l) 0 l := by
  have := isAt_pack [] l []
  simpa using this
/-- The bits of bytes. -/
def rowY (ys : List Int) : List Bool := (List.range (8 * ys.length)).map (bitY ys)
theorem rowY_len (ys : List Int) : (rowY ys).length = 8 * ys.length := by simp [rowY]
theorem rowY_get (ys : List Int) (i : Nat) (h : i < 8 * ys.length) : (rowY ys).getD i false = bitY ys i := by simp [rowY, List.getD_eq_getElem?_getD, h]
theorem rowY_take (ys : List Int) (i : Nat) (h : i < 8 * ys.length) : (rowY ys).take (i + 1) = (rowY ys).take i ++ [bitY ys i] := by
  rw [List.take_succ_eq_append_getElem (by rw [rowY_len]; exact h)]
  simp [rowY]
/-- A byte doubled k times, as the program doubles it. -/
def dbl (n k : Nat) : Nat := n * 2 ^ k % 256
theorem dbl_succ (n k : Nat) : dbl n (k + 1) = dbl n k * 2 % 256 := by unfold dbl; rw [Nat.pow_succ, ← Nat.mul_assoc]; omega
theorem dbl_bit : ∀ (n : Fin 256) (k : Fin 8), decide (128 ≤ dbl (n : Nat) (k : Nat)) = (bits .and .u8 ((n : Nat) : Int) (128 / 2 ^ (k : Nat)) != 0) := by decide +kernel
attribute [local irreducible] OJ J HdJ Code.wpIn wpListIn Oper.wpIn bodyPost CallsIn Does
set_option maxRecDepth 4000
end Go.Proofs.YtemmnpgebpffbaaGreat
/- Layer 7's statements: the walks of the laws' own functions. -/
namespace Go.Proofs.YtemmnpgebpffbaaGreat
open Go.RowKit
def smallF (x : Int) : Int := if x < -65536 ∨ 65535 < x then x.tmod 60000 else x
def smalls (xs : List Int) : List Int := xs.map smallF
theorem tmod_range (x : Int) : -60000 < x.tmod 60000 ∧ x.tmod 60000 < 60000 := by
  rcases Int.le_total 0 x with h | h
  · rw [Int.tmod_eq_emod_of_nonneg h]; omega
  · have e : x.tmod 60000 = -((-x).tmod 60000) := by rw [Int.neg_tmod]; omega
    rw [e, Int.tmod_eq_emod_of_nonneg (by omega : 0 ≤ -x)]; omega
theorem smallF_range (x : Int) : -65536 ≤ smallF x ∧ smallF x ≤ 65535 := by
  unfold smallF
  have := tmod_range x
  split <;> omega
theorem foldN_small {x : Int} (h0 : -65536 ≤ x) (h1 : x ≤ 65535) : foldN x < 131072 := by
  have := foldN_cast x
  unfold foldI at this
  split at this <;> omega
theorem smalls_len (xs : List Int) : (smalls xs).length = xs.length := by simp [smalls]
theorem smalls_get (xs : List Int) (i : Nat) (h : i < xs.length) : (smalls xs).getD i 0 = smallF (xs.getD i 0) := by simp [smalls, List.getD_eq_getElem?_getD, h]
theorem smalls_in (xs : List Int) : In32 (smalls xs) := fun i hi => by
  rw [smalls_len] at hi
  rw [smalls_get xs i hi]
  have := smallF_range (xs.getD i 0)
  omega
theorem smalls_fits (xs : List Int) : Fits (smalls xs) := fun x hx => by
  obtain ⟨y, -, rfl⟩ := List.mem_map.1 hx
  have := smallF_range y
  exact foldN_small this.1 this.2
theorem smalls_take (xs : List Int) (i : Nat) (h : i < xs.length) : (smalls xs).take (i + 1) = (smalls xs).take i ++ [smallF (xs.getD i 0)] := by
  rw [List.take_succ_eq_append_getElem (by rw [smalls_len]; exact h)]
  simp [smalls, List.getD_eq_getElem?_getD, h]
/-- A row that was written is read, and no other. -/
theorem row_back {xs zs : List Int} {p : Nat} {ys : List Int} (h1 : isAt ys p (rowB xs)) (h2 : isAt ys p (rowB zs)) (hl : zs.length = xs.length) (f1 : Fits xs) (f2 : Fits zs) : zs = xs := by
  unfold rowB at h1 h2
  rw [isAt_append, numBits_len] at h1 h2
  have e := five_same (by have := bestK_le zs; omega) (by have := bestK_le xs; omega) h2.1 h1.1
  rw [e] at h2
  have := codes_same xs zs _ h1.2 h2.2 (by omega) f1 f2
  rw [← hl, List.take_of_length_le (by omega)] at this
  exact this
theorem rowB_len (xs : List Int) : (rowB xs).length = 5 + bitsOf xs (bestK xs) := by unfold rowB; rw [List.length_append, numBits_len, codesB_len]
theorem code_le (n k : Nat) (hk : k ≤ 16) : (codeB n k).length ≤ 38 := by rw [codeB_len]; exact sizeN_le n k hk
theorem code_len_pos (n k : Nat) : 0 < (codeB n k).length := by rw [codeB_len]; unfold sizeN; split <;> omega
/-- What works reckons. -/
def wx : List Int := [0, -1, 1, 5]
theorem wx_best : bestK wx = 1 := by decide +kernel
theorem wx_bits : bitsOf wx 1 = 14 := by decide +kernel
theorem wx_fits : Fits wx := by intro x hx; simp [wx] at hx; rcases hx with rfl | rfl | rfl | rfl <;> decide
theorem wx_in : In32 wx := by intro i hi; simp [wx] at hi; obtain rfl | rfl | rfl | rfl : i = 0 ∨ i = 1 ∨ i = 2 ∨ i = 3 := by omega
                              all_goals simp [wx]
theorem in32_of {xs : List Int} (h : ∀ x ∈ xs, InR .i32 x) : In32 xs := fun i hi => by
  have := h (xs.getD i 0) (by rw [List.getD_eq_getElem?_getD, List.getElem?_eq_getElem hi]; exact List.getElem_mem _)
  exact this
theorem u8s_of {xs : List Int} (h : ∀ x ∈ xs, InR .u8 x) : U8s xs := fun x hx => by
  have := h x hx
  simp only [InR] at this
  omega
theorem bits_small (xs : List Int) (k : Nat) (hk : k ≤ 16) (h : xs.length ≤ 60) : bitsOf xs k ≤ 2280 := by have := bitsOf_le xs k hk; omega
end Go.Proofs.YtemmnpgebpffbaaGreat
/- The engine: made slices, parts of slices, copies. -/
namespace Go.Proofs.YtemmnpgebpffbaaGreat
open Go.RowKit
theorem made_ints (k : IntKind) (m : Nat) : (madeCells (Value.int k 0).cells m).toList = ints k (List.replicate m 0) := by
  simp only [madeCells, ints, Value.cells, Array.toList_map, Array.toList_range, List.map_replicate]
  apply List.ext_getElem (by simp)
  intro i h1 h2
  simp [Nat.mod_one]
section
variable {P : Program} {w0 : World} {W : Nat → Prop} {H : List HE}
theorem r_make {F : Fence} {n N : Nat} {ds : List Deferred} {σ : List (Nat × Value)} {d : Nat} {ty : TypeId} {pos : String} {aft : Array Edge} {gd : Option (Nat × Bool)} {K : Act → World → Prop} {Q : Exit → Act → World → Prop} [Wide F] {t e bs : Nat} {k kl kc : IntKind} {x y : Operand} {m : Nat} {l c : Int} [Und P t (.slice e)] [hI : Inf P e 1 bs (.int k 0)]
    (hl : l = (m : Int)) (hcc : c = (m : Int)) (hc : bs * m ≤ 281474976710656 ∧ m ≤ 4611686018427387904) (hv : vals σ [x, y] = some [.int kl l, .int kc c]) (hdN : Nat.blt d N = true)
    (h : ∀ b, J N ds w0 W ((d, .slice (some ⟨b, 0, none⟩) m m) :: σ) (.row (.slice (some ⟨b, 0, none⟩) m m) e 1 m (ints k (List.replicate m 0)) :: H) K) : OJ F n P N ds w0 W σ H ⟨some d, .makeSlice t x y, ty, pos, aft, gd⟩ K Q :=
  o_new (by simp) rfl hdN (fun b => .slice (some ⟨b, 0, none⟩) m m) (ints k (List.replicate m 0)) e (fun a w ha _ => by
    subst hl; subst hcc
    obtain ⟨p, q⟩ := vals2 hv
    obtain ⟨i, e1, e2, e3, e4⟩ := hI.h
    have hrun := run_make (P := P) w t e i _ Und.h e1 e2 kl kc (m : Int) (m : Int) (by omega) (by omega) (by rw [e4]; have := hc.1; push_cast; omega) (by have := hc.2; omega)
    rw [Int.toNat_natCast, e3, Nat.mul_one] at hrun
    have em : madeCells (Value.int k 0).cells m = (ints k (List.replicate m 0)).toArray := by
      apply Array.ext'
      rw [made_ints]
    rw [em] at hrun
    simp only [execOp, ha.eval p, ha.eval q, Sem.run_bind, hrun, Result.andThen_ok, Sem.run_pure]) (fun b => j_rowed (by simp) (by have := hc.2; simp only [maxLen]; omega) (h b))
instance (t e bs : Nat) (k kl kc : IntKind) (x y : Operand) (m : Nat) [Und P t (.slice e)] [Inf P e 1 bs (.int k 0)] : NS P w0 W H (.makeSlice t x y) [.int kl (m : Int), .int kc (m : Int)] (fun b => .slice (some ⟨b, 0, none⟩) m m) (fun b => .row (.slice (some ⟨b, 0, none⟩) m m) e 1 m (ints k (List.replicate m 0)) :: H) (bs * m ≤ 281474976710656 ∧ m ≤ 4611686018427387904) :=
  ⟨fun hc _ _ _ _ _ _ _ _ _ _ _ _ _ k1 k2 k3 => r_make rfl rfl hc k1 k2 k3⟩
instance (priority := 40) (t e bs : Nat) (k kl kc : IntKind) (x y : Operand) (m : Nat) [Und P t (.slice e)] [Inf P e 1 bs (.int k 0)] : NS P w0 W H (.makeSlice t x y) [.int kl (no_index (OfNat.ofNat m : Int)), .int kc (no_index (OfNat.ofNat m : Int))] (fun b => .slice (some ⟨b, 0, none⟩) (OfNat.ofNat m) (OfNat.ofNat m)) (fun b => .row (.slice (some ⟨b, 0, none⟩) (OfNat.ofNat m) (OfNat.ofNat m)) e 1 (OfNat.ofNat m) (ints k (List.replicate (OfNat.ofNat m) 0)) :: H) (bs * (OfNat.ofNat m : Nat) ≤ 281474976710656 ∧ (OfNat.ofNat m : Nat) ≤ 4611686018427387904) :=
  ⟨fun hc _ _ _ _ _ _ _ _ _ _ _ _ _ k1 k2 k3 => r_make (m := OfNat.ofNat m) rfl rfl hc k1 k2 k3⟩

/-- Where a part of a slice begins. -/
def subA (A : Option Addr) (l c s : Nat) : Option Addr := if c = l then A else A.map (·.add (l * s))
theorem RoA.sub {A : Option Addr} {m c l h : Nat} {k : IntKind} {xs : List Int} (hr : RoA w0 W A m c 1 (ints k xs)) (hlh : l ≤ h) (hm : h ≤ m) : RoA w0 W (subA A l c 1) (h - l) (c - l) 1 (ints k ((xs.drop l).take (h - l))) := by
  obtain ⟨A', c', e1, h1, h2, h3, h4⟩ := hr.h
  injection e1 with e1 e2 e3; subst e1 e3
  have hxl : xs.length = m := by simpa using h3
  refine ⟨subA A l c 1, c - l, rfl, by omega, by omega, by simp; omega, fun hpos => ?_⟩
  obtain ⟨b, off, rfl, h5, h6, h7⟩ := h4 (by omega)
  refine ⟨b, off + l, ?_, h5, h6, fun j v hj => ?_⟩
  · unfold subA
    rw [if_neg (by omega)]
    simp [add_none]
  · rw [Nat.add_assoc]
    refine h7 (l + j) v ?_
    simp only [ints, List.getElem?_map, List.getElem?_take, List.getElem?_drop] at hj ⊢
    split at hj
    · exact hj
    · simp at hj
theorem run_part {w : World} {t e sz bs : Nat} {z : Value} [Und P t (.slice e)] [hI : Inf P e sz bs z] {A : Option Addr} {m c : Nat} (lo hi : Option Value) (l h : Nat)
    (hb : (Instr.sliceBounds true m c lo hi none).run P w = .ok (l, h, c) w) : (Instr.slice t (.slice A m c) lo hi none).run P w = .ok (.slice (subA A l c sz) (h - l) (c - l)) w := by
  obtain ⟨i, e1, -, e2, -⟩ := hI.h
  have ht := Und.h (P := P) (t := t)
  simp only [Instr.slice, Sem.run_bind, run_underlying ht, Result.andThen_ok, hb, sizeOf, typeInfo]
  simp [e1, e2, subA]
theorem elem_of {t e : TypeId} [h : Und P t (.slice e)] : P.underlying t = some (.slice (P.elem t)) := by
  have := h.h
  rw [this, Program.elem, this]
theorem run_partAt {w : World} {t e sz bs : Nat} {z : Value} [Und P t (.slice e)] [hI : Inf P e sz bs z] {A : Option Addr} {m c : Nat} (lo hi : Option Value) (l h : Nat)
    (hb : (Instr.sliceBounds true m c lo hi none).run P w = .ok (l, h, c) w) : (Instr.sliceAt t (.slice A m c) lo hi none).run P w = .ok (.slice (subA A l c sz) (h - l) (c - l)) w := by
  rw [run_sliceAt_slice w t _ _ _ _ (elem_of (e := e))]
  exact run_part (z := z) (bs := bs) lo hi l h hb
theorem bnd_lh {w : World} {m c l h : Nat} {k k' : IntKind} (h1 : l ≤ h) (h2 : h ≤ c) : (Instr.sliceBounds true m c (some (.int k (l : Int))) (some (.int k' (h : Int))) none).run P w = .ok (l, h, c) w := by
  simp [Instr.sliceBounds, run_sliceBound, (by omega : (0 : Int) ≤ (l : Int)), (by omega : (0 : Int) ≤ (h : Int)), h1, h2]
theorem bnd_l {w : World} {m c l : Nat} {k : IntKind} (h1 : l ≤ m) : (Instr.sliceBounds true m c (some (.int k (l : Int))) none none).run P w = .ok (l, m, c) w := by
  simp [Instr.sliceBounds, run_sliceBound, (by omega : (0 : Int) ≤ (l : Int)), h1]
theorem bnd_h {w : World} {m c h : Nat} {k' : IntKind} (h2 : h ≤ c) : (Instr.sliceBounds true m c none (some (.int k' (h : Int))) none).run P w = .ok (0, h, c) w := by
  simp [Instr.sliceBounds, run_sliceBound, (by omega : (0 : Int) ≤ (h : Int)), h2]
instance (t e sz bs m c l h : Nat) (z : Value) (k k' : IntKind) (x lo hi : Operand) (A : Option Addr) [Und P t (.slice e)] [Inf P e sz bs z] : MS P w0 W H (.slice t x (some lo) (some hi) none) [.slice A m c, .int k (l : Int), .int k' (h : Int)] (.slice (subA A l c sz) (h - l) (c - l)) (l ≤ h ∧ h ≤ c) :=
  ⟨fun hc _ _ _ _ _ _ _ _ _ _ _ _ _ h1 h2 h3 => o_val (by simp) rfl h2 (fun a w ha hw => by
    obtain ⟨p, q, r⟩ := vals3 h1
    simp only [execOp, Option.map_some, Option.map_none]
    rw [ha.eval p, show a.eval lo = _ from ha.eval q, show a.eval hi = _ from ha.eval r]
    simp only [Sem.run_bind, run_partAt (P := P) (t := t) (z := z) (bs := bs) _ _ l h (bnd_lh hc.1 hc.2), Result.andThen_ok, Sem.run_pure]) h3⟩
instance (t e sz bs m c l : Nat) (z : Value) (k : IntKind) (x lo : Operand) (A : Option Addr) [Und P t (.slice e)] [Inf P e sz bs z] : MS P w0 W H (.slice t x (some lo) none none) [.slice A m c, .int k (l : Int)] (.slice (subA A l c sz) (m - l) (c - l)) (l ≤ m) :=
  ⟨fun hc _ _ _ _ _ _ _ _ _ _ _ _ _ h1 h2 h3 => o_val (by simp) rfl h2 (fun a w ha hw => by
    obtain ⟨p, q⟩ := vals2 h1
    simp only [execOp, Option.map_some, Option.map_none]
    rw [ha.eval p, show a.eval lo = _ from ha.eval q]
    simp only [Sem.run_bind, run_partAt (P := P) (t := t) (z := z) (bs := bs) _ _ l m (bnd_l hc), Result.andThen_ok, Sem.run_pure]) h3⟩
instance (t e sz bs m c h : Nat) (z : Value) (k' : IntKind) (x hi : Operand) (A : Option Addr) [Und P t (.slice e)] [Inf P e sz bs z] : MS P w0 W H (.slice t x none (some hi) none) [.slice A m c, .int k' (h : Int)] (.slice (subA A 0 c sz) (h - 0) (c - 0)) (h ≤ c) :=
  ⟨fun hc _ _ _ _ _ _ _ _ _ _ _ _ _ h1 h2 h3 => o_val (by simp) rfl h2 (fun a w ha hw => by
    obtain ⟨p, q⟩ := vals2 h1
    simp only [execOp, Option.map_some, Option.map_none]
    rw [ha.eval p, show a.eval hi = _ from ha.eval q]
    simp only [Sem.run_bind, run_partAt (P := P) (t := t) (z := z) (bs := bs) _ _ 0 h (bnd_h hc), Result.andThen_ok, Sem.run_pure]) h3⟩

/-- Numbers laid over others. -/
def lay (zs : List Int) (l : Nat) (ys : List Int) : List Int := zs.take l ++ ys ++ zs.drop (l + ys.length)
theorem lay_len (zs : List Int) (l : Nat) (ys : List Int) (h : l + ys.length ≤ zs.length) : (lay zs l ys).length = zs.length := by simp [lay]; omega
theorem ints_take (k : IntKind) (xs : List Int) (n : Nat) : (ints k xs).take n = ints k (xs.take n) := by simp [ints, List.map_take]
theorem ints_drop (k : IntKind) (xs : List Int) (n : Nat) : (ints k xs).drop n = ints k (xs.drop n) := by simp [ints, List.map_drop]
theorem ints_app (k : IntKind) (xs ys : List Int) : ints k xs ++ ints k ys = ints k (xs ++ ys) := by simp [ints]
/-- copy into a row of one's own. -/
theorem r_copy {F : Fence} {n N : Nat} {ds : List Deferred} {σ : List (Nat × Value)} {d : Nat} {ty : TypeId} {pos : String} {aft : Array Edge} {gd : Option (Nat × Bool)} {K : Act → World → Prop} {Q : Exit → Act → World → Prop} [hF : Wide F] {t e bs m c l dl dc j : Nat} {z u : Value} {k : IntKind} {A : Option Addr} {zs ys : List Int} {x y : Operand} {kk : HE → List HE} [Und P t (.slice e)] [hI : Inf P e 1 bs z]
    [ho : OwnAt A m c H e 1 (ints k zs) kk] [hs : SrcC w0 W H e 1 u j (ints k ys)] (hv : vals σ [x, y] = some [.slice (subA A l c 1) dl dc, u]) (hc : l + dl ≤ m ∧ m ≤ c ∧ j ≤ dl) (hdN : Nat.blt d N = true)
    (h : J N ds w0 W ((d, .int .i64 j) :: σ) (kk (.row (.slice A m c) e 1 m (ints k (lay zs l ys)))) K) : OJ F n P N ds w0 W σ H ⟨some d, .call ⟨.builtin .copy, #[x, y], #[t, t]⟩, ty, pos, aft, gd⟩ K Q := by
  obtain ⟨R, h2, h3⟩ := ho.h
  intro a w ha hw
  obtain ⟨p, q⟩ := vals2 hv
  obtain ⟨A', c', rfl, -, -, e2, e3⟩ := hs.h w hw
  have hyl : ys.length = j := by simpa using e2
  obtain ⟨hzl0, hrow⟩ := hw.has h2
  have hzl : zs.length = m := by simpa using hzl0
  have hinf : (P.info? e).map (·.size) = some 1 := Inf.size (z := z) (bs := bs)
  have hut := Und.h (P := P) (t := t)
  have key : ∃ w', (Builtin.copy_ #[t, t] ty #[.slice (subA A l c 1) dl dc, .slice A' j c']).run P w = .ok (goInt j) w' ∧ St w0 W (.row (.slice A m c) e 1 m (ints k (lay zs l ys)) :: R) w' := by
    rcases Nat.eq_zero_or_pos j with h0 | h0
    · subst h0
      have hy0 : ys = [] := List.eq_nil_of_length_eq_zero hyl
      subst hy0
      refine ⟨w, ?_, ?_⟩
      · obtain ⟨i, q1, -, q2, -⟩ := hI.h
        cases hsa : subA A l c 1 with
        | none => simp [Builtin.copy_, run_underlying hut, Builtin.lenOf, Builtin.firstCells, sizeOf, typeInfo, q1, q2]; cases A' <;> simp [loadCells, loadCellsFrom]
        | some ad => simp [Builtin.copy_, run_underlying hut, Builtin.lenOf, Builtin.firstCells, sizeOf, typeInfo, q1, q2]; cases A' <;> simp [loadCells, loadCellsFrom, storeCells]
      · have : lay zs l [] = zs := by simp [lay]
        rw [this]
        exact hw.perm h2.perm
    · obtain ⟨b', off', rfl, hcell⟩ := e3 h0
      rcases hrow with ⟨hn, -⟩ | ⟨g, cap, cur, hA, hb0, hg, hnc, hcm, hcs, hxx⟩
      · injection hn with hn1 hn2 _; omega
      injection hA with hA1 _ hA3; subst hA1; subst hA3
      have hsub : subA (some ⟨g, 0, none⟩) l c 1 = some ⟨g, l, none⟩ := by
        unfold subA
        rw [if_neg (by omega)]
        simp [add_none]
      have hcl : cur.size = c := by simpa using hcs
      have hrun := run_copy_row P w t t ty e g l dl dc ⟨b', off', none⟩ j c' cur e (ints k ys) hut hinf hg (by rw [ints_len, hyl]; exact (Nat.min_eq_left hc.2.2).symm) (fun q v hq => by rw [add_none]; exact hcell q v hq w hw) (by rw [ints_len, hyl, hcl]; omega) (by
        intro v hv
        obtain ⟨x, -, rfl⟩ := List.mem_map.1 hv
        rfl)
      rw [hsub]
      refine ⟨_, by rw [ints_len, hyl] at hrun; exact hrun, ?_⟩
      refine hw.turn h2 ?_ rfl rfl rfl (by simp) (fun b _ hk => setRow_other _ _ _ _ (fun e => hk (by rw [e]; rfl))) (.inl rfl)
      refine ⟨by rw [ints_len, lay_len _ _ _ (by omega)]; omega, .inr ⟨g, c, _, rfl, hb0, setRow_heap w g _ _ e _ hg, hnc, hcm, ?_, ?_⟩⟩
      · simp only [List.size_toArray, List.length_append, List.length_take, List.length_drop, Array.length_toList, ints_len]; omega
      · rw [Nat.mul_one] at hxx ⊢
        have hcur : cur.toList = ints k zs ++ cur.toList.drop m := by rw [← hxx, List.take_append_drop]
        rw [List.toList_toArray]
        have e5 : cur.toList.take l = ints k (zs.take l) := by rw [← ints_take, ← hxx, List.take_take, Nat.min_eq_left (by omega)]
        have e6 : (cur.toList.drop (l + (ints k ys).length)).take (m - (l + ys.length)) = ints k (zs.drop (l + ys.length)) := by
          rw [← ints_drop, ← hxx, ints_len, List.drop_take]
        have e7 : m = (ints k (zs.take l) ++ ints k ys).length + (m - (l + ys.length)) := by simp; omega
        rw [e5]
        conv => lhs; rw [e7]
        rw [List.take_append, List.take_of_length_le (by omega), Nat.add_sub_cancel_left]
        rw [ints_len, hyl] at e6
        rw [hyl, e6, ints_app, ints_app, lay, hyl]
  obtain ⟨w', hrun, hst⟩ := key
  refine ⟨fun f _ => hF.out.fn f, ?_⟩
  rw [Oper.semAt_plain F _ _ (by simp)]
  simp only [execOp, resolve, invoke, builtin, Sem.run_bind, Sem.run_pure, Result.andThen_ok, List.map_toArray, List.map_cons, List.map_nil, ha.eval p, ha.eval q, hrun, Oper.uponIn_value]
  exact h _ _ (ha.put d _ (by simpa using hdN)) (hst.sub (h3 _))
end
section
variable {F : Fence} {n : Nat} {P : Program} {N : Nat} {ds : List Deferred} {w0 : World} {W : Nat → Prop} {σ : List (Nat × Value)} {H : List HE} {Q : Exit → Act → World → Prop}
variable {ops : Array Oper} {rest : List Oper} {d : Nat} {ty : TypeId} {pos : String} {aft : Array Edge} {gd : Option (Nat × Bool)} {q : Act → World → Prop}
/-- copy, at the head of the list. -/
theorem lcp [Wide F] {t e bs m c l dl dc j : Nat} {z u : Value} {k : IntKind} {A : Option Addr} {zs ys : List Int} {x y : Operand} {kk : HE → List HE} [Und P t (.slice e)] [Inf P e 1 bs z]
    (hw : wantd ops σ ⟨some d, .call ⟨.builtin .copy, #[x, y], #[t, t]⟩, ty, pos, aft, gd⟩ = some true) (hv : vals σ [x, y] = some [.slice (subA A l c 1) dl dc, u]) [ho : OwnAt A m c H e 1 (ints k zs) kk] [hs : SrcC w0 W H e 1 u j (ints k ys)] (hc : l + dl ≤ m ∧ m ≤ c ∧ j ≤ dl) (hdN : Nat.blt d N = true)
    (h : J N ds w0 W ((d, .int .i64 j) :: σ) (kk (.row (.slice A m c) e 1 m (ints k (lay zs l ys)))) (wpListIn F n P ops Q rest)) :
    J N ds w0 W σ H (wpListIn F n P ops Q (⟨some d, .call ⟨.builtin .copy, #[x, y], #[t, t]⟩, ty, pos, aft, gd⟩ :: rest)) := l_run hw (r_copy (z := z) (bs := bs) hv hc hdN h)
/-- A part of a slice that is read alone. -/
theorem j_sub {A : Option Addr} {m c : Nat} {k : IntKind} {xs : List Int} (l h : Nat) (hr : RoA w0 W A m c 1 (ints k xs)) (hlh : l ≤ h ∧ h ≤ m) (hq : RoA w0 W (subA A l c 1) (h - l) (c - l) 1 (ints k ((xs.drop l).take (h - l))) → J N ds w0 W σ H q) : J N ds w0 W σ H q := hq (hr.sub hlh.1 hlh.2)
end
section
variable {n : Nat} {P : Program} {N : Nat} {w0 : World} {W : Nat → Prop} {σ : List (Nat × Value)} {H : List HE}
theorem results_t4 {fn : Func} {t u v x : Tmp} (h : fn.results = #[.tmp t, .tmp u, .tmp v, .tmp x]) (tmps : Array Value) (P : Program) (w : World) : (results fn tmps).run P w = .ok (.tuple #[tmps.getD t undef, tmps.getD u undef, tmps.getD v undef, tmps.getD x undef]) w := by
  simp [results, h]
theorem j_out3 {fn : Func} {t u y : Tmp} {v x z : Value} {S' : List HE} {Rl : Value → List HE → Prop} (hres : fn.results = #[.tmp t, .tmp u, .tmp y]) (hv : look σ t = some v) (hx : look σ u = some x) (hz : look σ y = some z) (hs : Sub S' H) (hR : Rl (.tuple #[v, x, z]) S') : J N [] w0 W σ H (bodyPost P fn (fun e w' => ∃ v S', e = .returned v ∧ Rl v S' ∧ St w0 W S' w') .ret) :=
  fun a w ha hw => ⟨ha.defers, _, Go.results_tmp3 hres _ _ _, _, S', by rw [getD_of ha hv, getD_of ha hx, getD_of ha hz], hR, hw.sub hs⟩
theorem j_out4 {fn : Func} {t u y q : Tmp} {v x z k : Value} {S' : List HE} {Rl : Value → List HE → Prop} (hres : fn.results = #[.tmp t, .tmp u, .tmp y, .tmp q]) (hv : look σ t = some v) (hx : look σ u = some x) (hz : look σ y = some z) (hk : look σ q = some k) (hs : Sub S' H) (hR : Rl (.tuple #[v, x, z, k]) S') : J N [] w0 W σ H (bodyPost P fn (fun e w' => ∃ v S', e = .returned v ∧ Rl v S' ∧ St w0 W S' w') .ret) :=
  fun a w ha hw => ⟨ha.defers, _, results_t4 hres _ _ _, _, S', by rw [getD_of ha hv, getD_of ha hx, getD_of ha hz, getD_of ha hk], hR, hw.sub hs⟩
end
end Go.Proofs.YtemmnpgebpffbaaGreat
/- Package tile: right, guess, counts and boxes. -/
namespace Go.Proofs.YtemmnpgebpffbaaGreat
open Go.RowKit
/-- What stands ahead of a height, by which it is told. -/
def guessF (z : List Int) (w i : Nat) : Int := if 0 < i % w then z.getD (i - 1) 0 else if 0 < i then z.getD (i - w) 0 else 0
def deltaF (z : List Int) (w i : Nat) : Int := z.getD i 0 - guessF z w i
/-- By how much each height is above that. -/
def deltas (z : List Int) (w : Nat) : List Int := (List.range z.length).map (deltaF z w)
theorem deltas_len (z : List Int) (w : Nat) : (deltas z w).length = z.length := by simp [deltas]
theorem deltas_take (z : List Int) (w i : Nat) (h : i < z.length) : (deltas z w).take (i + 1) = (deltas z w).take i ++ [deltaF z w i] := by
  rw [List.take_succ_eq_append_getElem (by rw [deltas_len]; exact h)]
  simp [deltas]
/-- A row that is filled from the left. -/
def filled (xs : List Int) (i : Nat) : List Int := xs.take i ++ List.replicate (xs.length - i) 0
theorem filled_0 (xs : List Int) : filled xs 0 = List.replicate xs.length 0 := by simp [filled]
theorem filled_all (xs : List Int) : filled xs xs.length = xs := by simp [filled]
theorem filled_len (xs : List Int) (i : Nat) (h : i ≤ xs.length) : (filled xs i).length = xs.length := by simp [filled]; omega
theorem filled_set (xs : List Int) (i : Nat) (h : i < xs.length) : (filled xs i).set i (xs.getD i 0) = filled xs (i + 1) := by
  have hl : (xs.take i).length = i := by rw [List.length_take]; omega
  unfold filled
  rw [List.set_append_right _ _ (by omega), hl, Nat.sub_self, List.take_succ_eq_append_getElem h, List.append_assoc, show xs.length - i = (xs.length - (i + 1)) + 1 from by omega, List.replicate_succ, List.set_cons_zero]
  simp [List.getD_eq_getElem?_getD, h]
theorem filled_get (xs : List Int) (i j : Nat) (h : j < i) (hi : i ≤ xs.length) : (filled xs i).getD j 0 = xs.getD j 0 := by
  have hl : (xs.take i).length = i := by rw [List.length_take]; omega
  unfold filled
  rw [List.getD_eq_getElem?_getD, List.getElem?_append_left (by omega), List.getElem?_take_of_lt h, List.getD_eq_getElem?_getD]
def In16 (z : List Int) : Prop := ∀ i, -32768 ≤ z.getD i 0 ∧ z.getD i 0 ≤ 32767
theorem in16_of {z : List Int} (h : ∀ x ∈ z, InR .i16 x) : In16 z := fun i => by
  rcases Nat.lt_or_ge i z.length with hi | hi
  · exact h (z.getD i 0) (by rw [List.getD_eq_getElem?_getD, List.getElem?_eq_getElem hi]; exact List.getElem_mem _)
  · rw [List.getD_eq_getElem?_getD, List.getElem?_eq_none hi]; simp
theorem guessF_range {z : List Int} (h : In16 z) (w i : Nat) : -32768 ≤ guessF z w i ∧ guessF z w i ≤ 32767 := by
  unfold guessF
  split
  · exact h _
  · split
    · exact h _
    · omega
def rightB (w h : Int) : Bool := decide (1 ≤ w) && (decide (1 ≤ h) && (decide (w ≤ 16) && decide (h ≤ 16)))
attribute [local irreducible] OJ J HdJ Code.wpIn wpListIn Oper.wpIn bodyPost CallsIn Does
set_option maxRecDepth 4000
set_option maxHeartbeats 4000000 in
theorem right_w (a b : Int) (w : World) : Does Tryz.prog 112 [.int .i64 a, .int .i64 b] [] w (fun v S' => v = .bool (rightB a b) ∧ S' = []) := by
  refine does_of Tryz.func112 rfl Tryz.ntmps112 rfl ⟨by simp, .nil⟩ (fun n => ?_)
  simp only [slots]
  unfold rightB
  refine z_gox
  refine j_case 7 rfl (fun h1 => ?_) (fun h1 => ?_)
  · rw [h1]
    refine z_gox
    refine j_case 11 rfl (fun h2 => ?_) (fun h2 => ?_)
    · rw [h2]
      refine z_gox
      refine j_case 15 rfl (fun h3 => ?_) (fun h3 => ?_)
      · rw [h3]
        refine z_gox
        exact j_out1 rfl rfl (.nil _) ⟨by simp, rfl⟩
      · rw [h3]
        refine z_gox
        exact j_out1 rfl rfl (.nil _) ⟨by simp, rfl⟩
    · rw [h2]
      refine z_gox
      exact j_out1 rfl rfl (.nil _) ⟨by simp, rfl⟩
  · rw [h1]
    refine z_gox
    exact j_out1 rfl rfl (.nil _) ⟨by simp, rfl⟩
set_option maxHeartbeats 4000000 in
theorem guess_any (A : Option Addr) (c : Nat) (z : List Int) (wd i : Nat) (w : World) (hr : RoA w (blocks []) A z.length c 1 (ints .i16 z)) (hz : In16 z) (hi : i < z.length) (hw : 0 < wd) (hm : z.length < 1000000 ∧ wd < 1000000) :
    Does Tryz.prog 113 [.slice A z.length c, .int .i64 wd, .int .i64 i] [] w (fun v S' => v = .int .i32 (guessF z wd i) ∧ S' = []) := by
  refine does_of Tryz.func113 rfl Tryz.ntmps113 rfl ⟨by simp, .nil⟩ (fun n => ?_)
  simp only [slots]
  have hmod : ((i : Int) % (wd : Int)) = ((i % wd : Nat) : Int) := by omega
  obtain ⟨bA, oA, rfl, hat⟩ := hr.at_ (by omega : 0 < z.length)
  refine z_gox
  refine c_cond rfl (fun h => ?_) (fun h => ?_)
  · have h1 : 0 < i % wd := by have := of_decide_eq_true h; omega
    have hz1 := hz ((i : Int) - 1).toNat
    have hi0 : 0 < i := by
      rcases Nat.eq_zero_or_pos i with e | e
      · subst e; simp at h1
      · exact e
    have e : guessF z wd i = z.getD ((i : Int) - 1).toNat 0 := by rw [guessF, if_pos h1, show ((i : Int) - 1).toNat = i - 1 from by omega]
    rw [e]
    refine z_gox
    exact j_out1 rfl rfl (.nil _) ⟨rfl, rfl⟩
  · have h1 : ¬ 0 < i % wd := by have := of_decide_eq_false h; omega
    refine z_gox
    refine c_cond rfl (fun h2 => ?_) (fun h2 => ?_)
    · have hi0 : 0 < i := by have := of_decide_eq_true h2; omega
      have hle : wd ≤ i := by
        rcases Nat.lt_or_ge i wd with h3 | h3
        · rw [Nat.mod_eq_of_lt h3] at h1; omega
        · exact h3
      have hz1 := hz ((i : Int) - wd).toNat
      have e : guessF z wd i = z.getD ((i : Int) - wd).toNat 0 := by rw [guessF, if_neg h1, if_pos hi0, show ((i : Int) - wd).toNat = i - wd from by omega]
      rw [e]
      refine z_gox
      exact j_out1 rfl rfl (.nil _) ⟨rfl, rfl⟩
    · have hi0 : ¬ 0 < i := by have := of_decide_eq_false h2; omega
      have e : guessF z wd i = 0 := by rw [guessF, if_neg h1, if_neg hi0]
      rw [e]
      refine z_gox
      exact j_out1 rfl rfl (.nil _) ⟨rfl, rfl⟩
/-- A tile's heights as bytes, or why they can't be. -/
def putB (wd h : Int) (z : List Int) : Option (List Int) := if rightB wd h = true ∧ (z.length : Int) = wd * h then some (pack (rowB (deltas z wd.toNat))) else none
def putC (wd h : Int) (z : List Int) : Int := if rightB wd h = true ∧ (z.length : Int) = wd * h then 0 else 5
theorem rightB_iff (a b : Int) : rightB a b = true ↔ 1 ≤ a ∧ 1 ≤ b ∧ a ≤ 16 ∧ b ≤ 16 := by simp [rightB]
theorem deltas_fits {z : List Int} (hz : In16 z) (w : Nat) : Fits (deltas z w) := fun x hx => by
  obtain ⟨i, -, rfl⟩ := List.mem_map.1 hx
  have h1 := hz i
  have h2 := guessF_range hz w i
  have h3 := foldN_cast (deltaF z w i)
  unfold deltaF at h3 ⊢
  unfold foldI at h3
  split at h3 <;> omega
theorem deltas_get (z : List Int) (w i : Nat) (h : i < z.length) : (deltas z w).getD i 0 = deltaF z w i := by simp [deltas, List.getD_eq_getElem?_getD, h]
theorem deltas_in {z : List Int} (hz : In16 z) (w : Nat) : In32 (deltas z w) := fun i hi => by
  rw [deltas_len] at hi
  rw [deltas_get z w i hi]
  have h1 := hz i
  have h2 := guessF_range hz w i
  unfold deltaF
  omega
set_option maxHeartbeats 16000000 in
theorem put8_any (A : Option Addr) (c : Nat) (z : List Int) (a b : Int) (w : World) (hr : RoA w (blocks []) A z.length c 1 (ints .i16 z)) (hz : In16 z) (hm : z.length < 100000) :
    Does Tryz.prog 78 [.int .i64 a, .int .i64 b, .slice A z.length c] [] w (fun v S' => ∃ A' c', v = .tuple #[.slice A' ((putB a b z).getD []).length c', .int .i64 (putC a b z)] ∧ S' = [.row (.slice A' ((putB a b z).getD []).length c') 5 1 ((putB a b z).getD []).length (ints .u8 ((putB a b z).getD []))]) := by
  refine does_of Tryz.func78 rfl Tryz.ntmps78 rfl ⟨by simp, .nil⟩ (fun n => ?_)
  simp only [slots]
  refine z_gox
  refine lfv rfl rfl rfl (fun w _ => right_w a b w) ?_
  cases hR : rightB a b with
  | false =>
    have e1 : putB a b z = none := if_neg (by rw [hR]; simp)
    have e2 : putC a b z = 5 := if_neg (by rw [hR]; simp)
    rw [e1, e2]
    refine z_gox
    refine j_nil (e := 5) (size := 1) ?_
    exact j_out2 rfl rfl rfl (Sub.refl _) ⟨none, 0, rfl, rfl⟩
  | true =>
    obtain ⟨ha1, hb1, ha2, hb2⟩ := (rightB_iff a b).1 hR
    have hab : 0 ≤ a * b ∧ a * b ≤ 256 := ⟨Int.mul_nonneg (by omega) (by omega), by
      have := Int.mul_le_mul ha2 hb2 (by omega) (by omega : (0 : Int) ≤ 16); omega⟩
    refine z_gox
    refine c_cond rfl (fun h => ?_) (fun h => ?_)
    · have hne : ¬ (z.length : Int) = a * b := by simpa using h
      have e1 : putB a b z = none := if_neg (by rw [hR]; simp [hne])
      have e2 : putC a b z = 5 := if_neg (by rw [hR]; simp [hne])
      rw [e1, e2]
      refine z_gox
      refine j_nil (e := 5) (size := 1) ?_
      exact j_out2 rfl rfl rfl (Sub.refl _) ⟨none, 0, rfl, rfl⟩
    have heq : (z.length : Int) = a * b := by simpa using h
    have hz256 : z.length ≤ 256 := by omega
    obtain ⟨wd, rfl⟩ : ∃ wd : Nat, a = (wd : Int) := ⟨a.toNat, by omega⟩
    have e1 : putB wd b z = some (pack (rowB (deltas z wd))) := if_pos ⟨hR, heq⟩
    have e2 : putC wd b z = 0 := if_pos ⟨hR, heq⟩
    have hdl := deltas_len z wd
    rw [e1, e2]
    refine z_gox
    rename_i b8 b9
    refine c_loop (X := Nat) (fun i => i ≤ z.length) (fun i => [(0, .int .i64 wd), (2, .slice A z.length c), (8, .pointer (some ⟨b8, 0, none⟩)), (9, .slice (some ⟨b9, 0, none⟩) z.length z.length), (27, .slice A z.length c), (28, .int .i64 z.length), (29, .int .i64 i)])
      (fun i => [.row (.slice (some ⟨b9, 0, none⟩) z.length z.length) 21 1 z.length (ints .i32 (filled (deltas z wd) i)), .blk b8 199 [.slice none 0 0, .int .i64 0]]) (fun i => z.length - i) 0 (by simp) ⟨rfl, rfl, rfl, rfl, rfl, rfl, rfl, trivial⟩ (by rw [filled_0, hdl]; exact Sub.refl _) ?_
    intro i hi
    have hfl := filled_len (deltas z wd) i (by omega)
    refine z_gox
    refine c_cond rfl (fun h => ?_) (fun h => ?_)
    · have hlt : i < z.length := by have := of_decide_eq_true h; omega
      have hfs := filled_set (deltas z wd) i (by omega)
      rw [deltas_get z wd i hlt, deltaF] at hfs
      have hz1 := hz i
      have hg := guessF_range hz wd i
      obtain ⟨bA, oA, rfl, hat⟩ := hr.at_ (by omega : 0 < z.length)
      refine z_gox
      refine lfv rfl rfl rfl (fun w hw => guess_any _ c z wd i w ⟨hr.h.go hw (Split.nil _)⟩ hz hlt (by omega) (by omega)) ?_
      refine z_gox
      refine c_round (i + 1) (by show i + 1 ≤ _; omega) (by show _ - (i + 1) < _ - i; omega) ⟨rfl, rfl, rfl, rfl, rfl, rfl, by simp [look], trivial⟩ (by rw [← hfs]; exact Sub.au)
    · obtain rfl : i = z.length := by have := of_decide_eq_false h; omega
      have hrl := rowB_len (deltas z wd)
      have hbk := bestK_le (deltas z wd)
      have hbs := bitsOf_le (deltas z wd) (bestK (deltas z wd)) hbk
      have hpl := pack_len (rowB (deltas z wd))
      have hfa := filled_all (deltas z wd)
      rw [hdl] at hfa
      rw [hfa, ← hdl]
      refine z_gox
      refine j_nil (e := 5) (size := 1) ?_
      refine lfn (S := Wr b8 none 0 []) rfl rfl (Split.cons (Has.there _ (Has.there _ (Has.here _ _))) (Split.cons (Has.here _ _) (Split.nil _))) rfl (fun w hw ho => row_any b8 0 none [] (some ⟨b9, 0, none⟩) (deltas z wd).length (deltas z wd) w ho ⟨Ro.row hw (Split.cons (Has.there _ (Has.there _ (Has.here _ _))) (Split.cons (Has.here _ _) (Split.nil _))) (.here _ _)⟩ (deltas_in hz wd) (by omega) (by simp)) ?_
      rintro v S' ⟨rfl, A2, c2, rfl⟩
      simp only [List.nil_append]
      refine z_gox
      refine lf rfl rfl rfl (fun w hw ho => bytes_any b8 c2 A2 (rowB (deltas z wd)) w ho (by omega)) ?_
      rintro v S' ⟨A4, c4, rfl, rfl⟩
      refine z_gox
      exact j_out2 rfl rfl rfl (.cons (.here _ _) (.nil _)) ⟨A4, c4, rfl, rfl⟩
end Go.Proofs.YtemmnpgebpffbaaGreat
