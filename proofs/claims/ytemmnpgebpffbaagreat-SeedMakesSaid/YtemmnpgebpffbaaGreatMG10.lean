import Derived.ChangeKeysEq
import Derived.Test.YtemmnpgebpffbaaGreatMG09
set_option linter.unusedVariables false
set_option linter.unusedSimpArgs false
/- The ground's height, its bounds. -/
namespace Go.Proofs.YtemmnpgebpffbaaGreat
open Go.RowKit
theorem heightT_in {W H : Nat} {f : List Int} (hf : In16 f) (X Y : Int) : -1048576 ≤ heightT W H f X Y ∧ heightT W H f X Y ≤ 1048576 := by
  unfold heightT
  split
  · obtain ⟨a, b, c, d, e, ha, hb, hc, hd⟩ := fourF_in hf (W := W) (H := H) X Y
    rw [e]
    simp only [exL]
    obtain ⟨h1, h2, h3, h4, h5, h6⟩ := exF_in (fx := X % 256) (fy := Y % 256) ⟨ha, hb, hc, hd⟩ (by omega) (by omega)
    have g1 := Int.mul_le_mul_of_nonneg_right (show a * (256 - X % 256) + b * (X % 256) ≤ 8388608 from by
      have := Int.mul_le_mul_of_nonneg_right ha.2 (show 0 ≤ 256 - X % 256 by omega)
      have := Int.mul_le_mul_of_nonneg_right hb.2 (show 0 ≤ X % 256 by omega)
      omega) (show 0 ≤ 256 - Y % 256 by omega)
    have g2 := Int.mul_le_mul_of_nonneg_right (show c * (256 - X % 256) + d * (X % 256) ≤ 8388608 from by
      have := Int.mul_le_mul_of_nonneg_right hc.2 (show 0 ≤ 256 - X % 256 by omega)
      have := Int.mul_le_mul_of_nonneg_right hd.2 (show 0 ≤ X % 256 by omega)
      omega) (show 0 ≤ Y % 256 by omega)
    have g3 := Int.mul_le_mul_of_nonneg_right (show -8388608 ≤ a * (256 - X % 256) + b * (X % 256) from by
      have := Int.mul_le_mul_of_nonneg_right ha.1 (show 0 ≤ 256 - X % 256 by omega)
      have := Int.mul_le_mul_of_nonneg_right hb.1 (show 0 ≤ X % 256 by omega)
      omega) (show 0 ≤ 256 - Y % 256 by omega)
    have g4 := Int.mul_le_mul_of_nonneg_right (show -8388608 ≤ c * (256 - X % 256) + d * (X % 256) from by
      have := Int.mul_le_mul_of_nonneg_right hc.1 (show 0 ≤ 256 - X % 256 by omega)
      have := Int.mul_le_mul_of_nonneg_right hd.1 (show 0 ≤ X % 256 by omega)
      omega) (show 0 ≤ Y % 256 by omega)
    unfold exF
    omega
  · omega
end Go.Proofs.YtemmnpgebpffbaaGreat
/- All steps of a search: the plain law. -/
namespace Go.Proofs.YtemmnpgebpffbaaGreat
open Go.RowKit
abbrev smpE : Smp → List Value := fun s => [.int .i64 s.dx, .int .i64 s.dy, .int .i64 s.z]
abbrev stpE : Stp → List Value := fun s => [.int .i64 s.i, .int .i64 s.k, .int .i64 s.cost]
instance : RowE smpE 3 := ⟨fun _ => rfl, by decide⟩
instance : RowE stpE 3 := ⟨fun _ => rfl, by decide⟩
/-- A search: from where, how many steps to each side, how far each. -/
structure Sch where
  x : Int
  y : Int
  far : Int
  step : Int
@[reducible] def schE (s : Sch) : List Value := [.int .i64 s.x, .int .i64 s.y, .int .i64 s.far, .int .i64 s.step]
def SmpOk (s : Smp) : Prop := (-4194304 ≤ s.z ∧ s.z ≤ 4194304) ∧ (-1073741824 ≤ s.dx ∧ s.dx ≤ 1073741824) ∧ (-1073741824 ≤ s.dy ∧ s.dy ≤ 1073741824)
instance (s : Smp) : Decidable (SmpOk s) := by unfold SmpOk; infer_instance
def badS (l : List Smp) : Nat → Bool
  | 0 => false
  | i + 1 => badS l i || !decide (SmpOk (l.getD i default))
theorem badS_no {l : List Smp} : ∀ {i : Nat}, badS l i = false ↔ ∀ j, j < i → SmpOk (l.getD j default)
  | 0 => ⟨fun _ j hj => by omega, fun _ => rfl⟩
  | i + 1 => by
    have ih := badS_no (l := l) (i := i)
    rw [badS, Bool.or_eq_false_iff, ih, Bool.not_eq_false', decide_eq_true_iff]
    constructor
    · rintro ⟨h1, h2⟩ j hj
      rcases Nat.lt_or_ge j i with h | h
      · exact h1 j h
      · obtain rfl : j = i := by omega
        exact h2
    · intro h
      exact ⟨fun j hj => h j (by omega), h i (by omega)⟩
theorem badS_yes {l : List Smp} {i n : Nat} (hi : i < n) (h : ¬ SmpOk (l.getD i default)) : badS l n = true := by
  cases hb : badS l n with
  | true => rfl
  | false => exact absurd (badS_no.1 hb i hi) h
def SchOk (s : Sch) : Prop := (0 ≤ s.far ∧ s.far ≤ 32) ∧ (1 ≤ s.step ∧ s.step ≤ 4096) ∧ (-1099511627776 ≤ s.x ∧ s.x ≤ 1099511627776) ∧ (-1099511627776 ≤ s.y ∧ s.y ≤ 1099511627776)
instance (s : Sch) : Decidable (SchOk s) := by unfold SchOk; infer_instance
/-- What is wrong with a search, and a profile. -/
def chk21 (s : Sch) (l : List Smp) : Int := if ¬ SchOk s then 2 else if l.length = 0 ∨ 64 < l.length then 5 else if badS l l.length = true then 1 else 0
theorem chk21_ok {s : Sch} {l : List Smp} (h : chk21 s l = 0) : SchOk s ∧ (0 < l.length ∧ l.length ≤ 64) ∧ ∀ j, j < l.length → SmpOk (l.getD j default) := by
  unfold chk21 at h
  split at h
  · cases h
  rename_i h1
  split at h
  · cases h
  rename_i h2
  split at h
  · cases h
  rename_i h3
  exact ⟨Classical.not_not.1 h1, by omega, badS_no.1 (by simpa using h3)⟩
section
variable {g : Nat → Option (Int × Int)} {p : Nat → Int × Int}
theorem all_stop {n : Nat} (h : (allTo g p n).2 = true) : ∀ k, allTo g p (n + k) = allTo g p n
  | 0 => rfl
  | k + 1 => by
    have ih := all_stop h k
    show allTo g p (n + k + 1) = _
    rw [allTo, ih, if_pos h]
theorem all_none {n : Nat} (h : (allTo g p n).2 = false) (hg : g n = none) : allTo g p (n + 1) = allTo g p n := by
  rw [allTo, if_neg (by rw [h]; decide), hg]
theorem all_some {n : Nat} {c : Int} (h : (allTo g p n).2 = false) (hg : g n = some (c, 0)) : allTo g p (n + 1) = ((allTo g p n).1 ++ [⟨(p n).1, (p n).2, c⟩], false) := by
  rw [allTo, if_neg (by rw [h]; decide), hg]
  rfl
theorem all_err {n : Nat} {c e : Int} (h : (allTo g p n).2 = false) (hg : g n = some (c, e)) (he : e ≠ 0) : allTo g p (n + 1) = ((allTo g p n).1, true) := by
  rw [allTo, if_neg (by rw [h]; decide), hg]
  simp [he]
theorem all_pre (n : Nat) : ∀ k, ∃ r, (allTo g p (n + k)).1 = (allTo g p n).1 ++ r
  | 0 => ⟨[], by simp⟩
  | k + 1 => by
    obtain ⟨r, hr⟩ := all_pre n k
    show ∃ r, (allTo g p (n + k + 1)).1 = _
    rw [allTo]
    split
    · exact ⟨r, hr⟩
    split
    · exact ⟨r, hr⟩
    split
    · exact ⟨r ++ [⟨(p (n + k)).1, (p (n + k)).2, _⟩], by rw [hr, List.append_assoc]⟩
    · exact ⟨r, hr⟩
theorem all_len : ∀ n, (allTo g p n).1.length ≤ n
  | 0 => Nat.le_refl _
  | n + 1 => by
    have ih := all_len n
    rw [allTo]
    split
    · omega
    split
    · omega
    split
    · simp; omega
    · show (allTo g p n).1.length ≤ n + 1
      omega
theorem all_at {n N : Nat} {c : Int} (hn : n < N) (h : (allTo g p n).2 = false) (hg : g n = some (c, 0)) : (allTo g p N).1.getD (allTo g p n).1.length default = ⟨(p n).1, (p n).2, c⟩ ∧ (allTo g p n).1.length < (allTo g p N).1.length := by
  obtain ⟨r, hr⟩ := all_pre (g := g) (p := p) (n + 1) (N - (n + 1))
  rw [show n + 1 + (N - (n + 1)) = N by omega, all_some h hg] at hr
  rw [hr]
  constructor
  · rw [List.getD_eq_getElem?_getD, List.getElem?_append_left (by simp), List.getElem?_append_right (Nat.le_refl _), Nat.sub_self]
    rfl
  · simp
theorem all_mem : ∀ (N : Nat) (x : Stp), x ∈ (allTo g p N).1 → ∃ n, n < N ∧ x.i = (p n).1 ∧ x.k = (p n).2 ∧ g n = some (x.cost, 0)
  | 0, x, h => by simp [allTo] at h
  | N + 1, x, h => by
    have ih := all_mem N x
    have up : x ∈ (allTo g p N).1 → ∃ n, n < N + 1 ∧ x.i = (p n).1 ∧ x.k = (p n).2 ∧ g n = some (x.cost, 0) := fun hx => by
      obtain ⟨n, h1, h2⟩ := ih hx
      exact ⟨n, by omega, h2⟩
    rw [allTo] at h
    split at h
    · exact up h
    split at h
    · exact up h
    rename_i c e hg
    split at h
    · rename_i he
      rcases List.mem_append.1 h with h | h
      · exact up h
      · rw [List.mem_singleton] at h
        subst h
        exact ⟨N, by omega, rfl, rfl, by rw [hg, he]⟩
    · exact up h
end
theorem costF_in {d : List Int} {m c : Int} (h : costF d m 1 2 10 = (c, 0)) : 0 ≤ c ∧ c ≤ 4611686018427387904 := by
  unfold costF at h
  split at h
  · simp at h
  split at h
  · simp at h
  split at h
  · simp at h
  · rename_i h3
    injection h with h1 _
    have := cosTo_nn d.length (sumTo d d.length) m d d.length
    omega
theorem costF_code (d : List Int) (m : Int) : (costF d m 1 2 10).2 = 0 ∨ (costF d m 1 2 10).2 = 1 ∨ (costF d m 1 2 10).2 = 2 ∨ (costF d m 1 2 10).2 = 10 := by
  unfold costF
  split
  · exact .inr (.inl rfl)
  split
  · exact .inr (.inr (.inl rfl))
  split
  · exact .inr (.inr (.inr rfl))
  · exact .inl rfl
/-- The places of a search, row by row. -/
def sideN (far : Int) : Nat := 2 * far.toNat + 1
def pS (far : Int) (n : Nat) : Int × Int := (((n % sideN far : Nat) : Int) - far, ((n / sideN far : Nat) : Int) - far)
theorem pS_at {far : Int} {i j : Nat} (h : i < sideN far) : pS far (j * sideN far + i) = ((i : Int) - far, (j : Int) - far) := by
  have hp : 0 < sideN far := by unfold sideN; omega
  unfold pS
  rw [Nat.mul_comm, Nat.mul_add_mod, Nat.mod_eq_of_lt h, Nat.mul_add_div hp, Nat.div_eq_of_lt h, Nat.add_zero]
theorem pS_in {far : Int} (hf : 0 ≤ far) {n : Nat} (h : n < sideN far * sideN far) : (-far ≤ (pS far n).1 ∧ (pS far n).1 ≤ far) ∧ (-far ≤ (pS far n).2 ∧ (pS far n).2 ≤ far) := by
  have h1 := Nat.mod_lt n (show 0 < sideN far by unfold sideN; omega)
  have h2 := Nat.div_lt_of_lt_mul h
  have h3 : (sideN far : Int) = 2 * far + 1 := by unfold sideN; push_cast; omega
  unfold pS
  dsimp only
  generalize n % sideN far = a at *
  generalize n / sideN far = b at *
  omega
def gS (W H : Nat) (f : List Int) (s : Sch) (l : List Smp) (m : Int) (n : Nat) : Option (Int × Int) :=
  plcF W H f (s.x + (pS s.far n).1 * s.step) (s.y + (pS s.far n).2 * s.step) l m 1 2 10
def allN (W H : Nat) (f : List Int) (s : Sch) (l : List Smp) (m : Int) (n : Nat) : List Stp × Bool := allTo (gS W H f s l m) (pS s.far) n
/-- All steps of a search at which a profile lies on the ground. -/
def allL (W H : Nat) (f : List Int) (s : Sch) (l : List Smp) (m : Int) : List Stp := if chk21 s l = 0 then (allN W H f s l m (sideN s.far * sideN s.far)).1 else []
theorem gS_cost {W H : Nat} {f : List Int} {s : Sch} {l : List Smp} {m : Int} {n : Nat} {c : Int} (h : gS W H f s l m n = some (c, 0)) : 0 ≤ c ∧ c ≤ 4611686018427387904 := by
  unfold gS plcF at h
  split at h
  · exact costF_in (Option.some.inj h)
  · cases h
theorem allL_in {W H : Nat} {f : List Int} {s : Sch} {l : List Smp} {m : Int} {i : Nat} (hi : i < (allL W H f s l m).length) :
    let x := (allL W H f s l m).getD i default
    (-32 ≤ x.i ∧ x.i ≤ 32) ∧ (-32 ≤ x.k ∧ x.k ≤ 32) ∧ (0 ≤ x.cost ∧ x.cost ≤ 4611686018427387904) ∧ (-s.far ≤ x.i ∧ x.i ≤ s.far) ∧ (-s.far ≤ x.k ∧ x.k ≤ s.far) := by
  intro x
  have hx : x ∈ allL W H f s l m := by
    show (allL W H f s l m).getD i default ∈ _
    rw [List.getD_eq_getElem?_getD, List.getElem?_eq_getElem hi]
    exact List.getElem_mem ..
  clear_value x
  unfold allL at hx
  split at hx
  · rename_i hc
    obtain ⟨hs, -⟩ := chk21_ok hc
    obtain ⟨hs1, -⟩ := hs
    obtain ⟨n, hn, h1, h2, h3⟩ := all_mem _ _ hx
    have h4 := pS_in hs1.1 hn
    have h5 := gS_cost h3
    omega
  · simp at hx
theorem allL_len (W H : Nat) (f : List Int) (s : Sch) (l : List Smp) (m : Int) : (allL W H f s l m).length ≤ 4225 := by
  unfold allL
  split
  · rename_i hc
    obtain ⟨⟨h1, -⟩, -⟩ := chk21_ok hc
    have := all_len (g := gS W H f s l m) (p := pS s.far) (sideN s.far * sideN s.far)
    have h2 : sideN s.far ≤ 65 := by unfold sideN; omega
    have := Nat.mul_le_mul h2 h2
    unfold allN
    omega
  · simp
/-- Which of the steps is best; -1: there is none. -/
def bst21 (l : List Stp) : Int := match bstTo l l.length with
  | none => -1
  | some b => b
theorem DifOk_ap {W H : Nat} {f : List Int} (hf : In16 f) {X Y : Int} {l : List Smp} (hl : ∀ j, j < l.length → SmpOk (l.getD j default)) : ∀ n, n ≤ l.length → ∀ j, j < n → -5242880 ≤ (apTo W H f X Y l n).getD j 0 ∧ (apTo W H f X Y l n).getD j 0 ≤ 5242880
  | 0, _, j, hj => by omega
  | n + 1, hn, j, hj => by
    have ih := DifOk_ap (W := W) (H := H) (X := X) (Y := Y) hf hl n (by omega)
    rw [apTo]
    rcases Nat.lt_or_ge j n with h | h
    · have := ih j h
      rw [List.getD_eq_getElem?_getD, List.getElem?_append_left (by rw [apTo_len]; exact h), ← List.getD_eq_getElem?_getD]
      exact this
    · obtain rfl : j = n := by omega
      rw [List.getD_eq_getElem?_getD, List.getElem?_append_right (by rw [apTo_len]; exact Nat.le_refl _), apTo_len, Nat.sub_self]
      have h1 := heightT_in hf (W := W) (H := H) (X + (l.getD j default).dx) (Y + (l.getD j default).dy)
      have h2 := (hl j (by omega)).1
      show -5242880 ≤ heightT W H f (X + (l.getD j default).dx) (Y + (l.getD j default).dy) - (l.getD j default).z ∧ heightT W H f (X + (l.getD j default).dx) (Y + (l.getD j default).dy) - (l.getD j default).z ≤ 5242880
      omega
end Go.Proofs.YtemmnpgebpffbaaGreat
/- Numbers as 129 bits, the lowest first: the plain law of the reference of layer 3. -/
namespace Go.Proofs.YtemmnpgebpffbaaGreat
def bit3N (n i : Nat) : Nat := n / 2 ^ i % 2
/-- A number's bits. -/
def bits3N (n : Nat) : List Int := (List.range 129).map fun i => ((bit3N n i : Nat) : Int)
theorem bits3N_len (n : Nat) : (bits3N n).length = 129 := by simp [bits3N]
theorem bits3N_get (n : Nat) {i : Nat} (h : i < 129) : (bits3N n).getD i 0 = ((bit3N n i : Nat) : Int) := by
  unfold bits3N
  rw [List.getD_eq_getElem?_getD, List.getElem?_map, List.getElem?_range h]
  rfl
theorem bit3N_lt (n i : Nat) : bit3N n i < 2 := Nat.mod_lt _ (by decide)
/-- What is carried into place i. -/
def car3N (m n i : Nat) : Nat := (m % 2 ^ i + n % 2 ^ i) / 2 ^ i
theorem car_zero (m n : Nat) : car3N m n 0 = 0 := by simp [car3N, Nat.mod_one]
theorem car_lt (m n i : Nat) : car3N m n i < 2 := by
  unfold car3N
  have h := Nat.two_pow_pos i
  have h1 := Nat.mod_lt m h
  have h2 := Nat.mod_lt n h
  exact Nat.div_lt_of_lt_mul (by omega)
theorem mod_succ (m i : Nat) : m % 2 ^ (i + 1) = m % 2 ^ i + 2 ^ i * bit3N m i := by
  unfold bit3N
  rw [Nat.mod_pow_succ]
theorem add_bit (m n i : Nat) : (bit3N m i + bit3N n i + car3N m n i) % 2 = bit3N (m + n) i ∧ (bit3N m i + bit3N n i + car3N m n i) / 2 = car3N m n (i + 1) := by
  have hp := Nat.two_pow_pos i
  constructor
  · have e : (m + n) / 2 ^ i = m / 2 ^ i + n / 2 ^ i + car3N m n i := by
      unfold car3N
      have h1 := Nat.div_add_mod m (2 ^ i)
      have h2 := Nat.div_add_mod n (2 ^ i)
      have h3 : m + n = (m % 2 ^ i + n % 2 ^ i) + 2 ^ i * (m / 2 ^ i + n / 2 ^ i) := by rw [Nat.mul_add]; omega
      conv => lhs; rw [h3]
      rw [Nat.add_mul_div_left _ _ hp]
      omega
    unfold bit3N
    rw [e]
    omega
  · have e : car3N m n (i + 1) = ((m % 2 ^ i + n % 2 ^ i) + 2 ^ i * (bit3N m i + bit3N n i)) / (2 ^ i * 2) := by
      unfold car3N
      rw [mod_succ, mod_succ, Nat.mul_add]
      congr 1
      · omega
    rw [e, ← Nat.div_div_eq_div_mul, Nat.add_mul_div_left _ _ hp]
    unfold car3N
    congr 1
    omega
theorem bit3N_zero (i : Nat) : bit3N 0 i = 0 := by simp [bit3N]
/-- Two numbers of which all bits are the same. -/
theorem bits_inj {m n : Nat} : ∀ k, m < 2 ^ k → n < 2 ^ k → (∀ i, i < k → bit3N m i = bit3N n i) → m = n := by
  intro k
  induction k generalizing m n with
  | zero => intro h1 h2 _; simp at h1 h2; omega
  | succ k ih =>
    intro h1 h2 h
    have e1 := mod_succ m k
    have e2 := mod_succ n k
    rw [Nat.mod_eq_of_lt h1] at e1
    rw [Nat.mod_eq_of_lt h2] at e2
    have hp := Nat.two_pow_pos k
    have hb : ∀ i, i < k → bit3N (m % 2 ^ k) i = bit3N (n % 2 ^ k) i := fun i hi => by
      have key : ∀ x : Nat, bit3N (x % 2 ^ k) i = bit3N x i := fun x => by
        unfold bit3N
        have : 2 ^ k = 2 ^ i * 2 ^ (k - i) := by rw [← Nat.pow_add]; congr 1; omega
        rw [this, Nat.mod_mul_right_div_self, Nat.mod_mod_of_dvd]
        exact ⟨2 ^ (k - i - 1), by rw [← Nat.pow_succ']; congr 1; omega⟩
      rw [key, key]
      exact h i (by omega)
    have := ih (Nat.mod_lt m hp) (Nat.mod_lt n hp) hb
    rw [e1, e2, this, h k (by omega)]
theorem zero_iff {n : Nat} (h : n < 2 ^ 129) : (∀ i, i < 129 → bit3N n i = 0) ↔ n = 0 :=
  ⟨fun q => bits_inj 129 h (by decide) (fun i hi => by rw [q i hi, bit3N_zero]), fun e i _ => by rw [e, bit3N_zero]⟩
theorem bits3N_inj {m n : Nat} (h1 : m < 2 ^ 129) (h2 : n < 2 ^ 129) (h : bits3N m = bits3N n) : m = n :=
  bits_inj 129 h1 h2 (fun i hi => by
    have := congrArg (fun l => l.getD i 0) h
    simp only [bits3N_get m hi, bits3N_get n hi] at this
    omega)
/-- Held against each other from the highest place down. -/
theorem less_step (m n i : Nat) : m % 2 ^ (i + 1) < n % 2 ^ (i + 1) ↔ (bit3N m i < bit3N n i ∨ (bit3N m i = bit3N n i ∧ m % 2 ^ i < n % 2 ^ i)) := by
  have hp := Nat.two_pow_pos i
  have h1 := Nat.mod_lt m hp
  have h2 := Nat.mod_lt n hp
  have b1 := bit3N_lt m i
  have b2 := bit3N_lt n i
  rw [mod_succ, mod_succ]
  generalize bit3N m i = a at *
  generalize bit3N n i = b at *
  generalize 2 ^ i = p at *
  obtain rfl | rfl : a = 0 ∨ a = 1 := by omega
  · obtain rfl | rfl : b = 0 ∨ b = 1 := by omega
    · omega
    · omega
  · obtain rfl | rfl : b = 0 ∨ b = 1 := by omega
    · omega
    · omega
/-- A product, place by place. -/
theorem mul_step (a b i : Nat) : a * (b % 2 ^ (i + 1)) = a * (b % 2 ^ i) + bit3N b i * (a * 2 ^ i) := by
  rw [mod_succ, Nat.mul_add]
  congr 1
  rw [Nat.mul_comm (bit3N b i), Nat.mul_assoc]
/-- A number of 64 bits out of places, from the highest down. -/
theorem word_step (n k i : Nat) (h : i < 64) : n / 2 ^ k / 2 ^ i % 2 ^ (64 - i) = 2 * (n / 2 ^ k / 2 ^ (i + 1) % 2 ^ (64 - (i + 1))) + bit3N n (k + i) := by
  unfold bit3N
  have e : 64 - i = (64 - (i + 1)) + 1 := by omega
  rw [e, Nat.pow_succ, Nat.mul_comm (2 ^ _) 2, Nat.mod_mul, Nat.pow_succ 2 i, ← Nat.div_div_eq_div_mul (n / 2 ^ k), Nat.pow_add, Nat.div_div_eq_div_mul n]
  omega
/-- What is borrowed at place i. -/
def bor3N (m n i : Nat) : Nat := if m % 2 ^ i < n % 2 ^ i then 1 else 0
theorem bor_zero (m n : Nat) : bor3N m n 0 = 0 := by simp [bor3N, Nat.mod_one]
theorem sub_bit {m n : Nat} (h : n ≤ m) (i : Nat) :
    (((bit3N m i : Nat) : Int) - (bit3N n i : Nat) - (bor3N m n i : Nat) < 0 ↔ bor3N m n (i + 1) = 1) ∧
    ((bit3N (m - n) i : Nat) : Int) = (if ((bit3N m i : Nat) : Int) - (bit3N n i : Nat) - (bor3N m n i : Nat) < 0 then ((bit3N m i : Nat) : Int) - (bit3N n i : Nat) - (bor3N m n i : Nat) + 2 else ((bit3N m i : Nat) : Int) - (bit3N n i : Nat) - (bor3N m n i : Nat)) := by
  have hp := Nat.two_pow_pos i
  have b1 := bit3N_lt m i
  have b2 := bit3N_lt n i
  have hl := less_step m n i
  constructor
  · unfold bor3N
    by_cases h1 : m % 2 ^ (i + 1) < n % 2 ^ (i + 1)
    · rw [if_pos h1]
      rw [hl] at h1
      constructor
      · intro _; rfl
      · intro _
        rcases h1 with h1 | ⟨h1, h2⟩
        · split <;> omega
        · rw [if_pos h2]; omega
    · rw [if_neg h1]
      rw [hl] at h1
      constructor
      · intro h3
        exfalso
        apply h1
        by_cases h2 : m % 2 ^ i < n % 2 ^ i
        · rw [if_pos h2] at h3
          rcases Nat.lt_or_ge (bit3N m i) (bit3N n i) with h4 | h4
          · exact .inl h4
          · exact .inr ⟨by omega, h2⟩
        · rw [if_neg h2] at h3
          exact .inl (by omega)
      · intro h3; exact absurd h3 (by decide)
  · have e : m = n + (m - n) := by omega
    have hs := add_bit n (m - n) i
    rw [← e] at hs
    have b3 := bit3N_lt (m - n) i
    have hcar : car3N n (m - n) i = bor3N m n i := by
      unfold car3N bor3N
      have m1 := Nat.mod_lt n hp
      have m2 := Nat.mod_lt (m - n) hp
      have e2 : m % 2 ^ i = (n % 2 ^ i + (m - n) % 2 ^ i) % 2 ^ i := by conv => lhs; rw [e]; rw [Nat.add_mod]
      rcases Nat.lt_or_ge (n % 2 ^ i + (m - n) % 2 ^ i) (2 ^ i) with h1 | h1
      · rw [Nat.mod_eq_of_lt h1] at e2
        rw [Nat.div_eq_of_lt h1, if_neg (by omega)]
      · have e3 : (n % 2 ^ i + (m - n) % 2 ^ i) % 2 ^ i = n % 2 ^ i + (m - n) % 2 ^ i - 2 ^ i := by
          rw [Nat.mod_eq_sub_mod h1, Nat.mod_eq_of_lt (by omega)]
        rw [e3] at e2
        have e4 : (n % 2 ^ i + (m - n) % 2 ^ i) / 2 ^ i = 1 := by
          refine Nat.div_eq_of_lt_le (by omega) (by omega)
        rw [e4, if_pos (by omega)]
    rw [hcar] at hs
    have b4 : bor3N m n i < 2 := by unfold bor3N; split <;> omega
    have hs1 := hs.1
    generalize bit3N m i = A at *
    generalize bit3N n i = B at *
    generalize bit3N (m - n) i = D at *
    generalize bor3N m n i = C at *
    split <;> omega
/-- A number without its sign, halved again and again. -/
theorem tdiv_cast (n m : Nat) : (n : Int).tdiv (m : Int) = ((n / m : Nat) : Int) := by
  rw [Int.tdiv_eq_ediv_of_nonneg (Int.natCast_nonneg n), Int.natCast_ediv]
theorem tdiv_nat (n : Nat) (i : Nat) : ((n : Int).tdiv ((2 ^ i : Nat) : Int)).tdiv 2 = (n : Int).tdiv ((2 ^ (i + 1) : Nat) : Int) := by
  rw [tdiv_cast, tdiv_cast, show (2 : Int) = ((2 : Nat) : Int) from rfl, tdiv_cast, Nat.div_div_eq_div_mul, Nat.pow_succ]
theorem tdiv_step (x : Int) (i : Nat) : (x.tdiv ((2 ^ i : Nat) : Int)).tdiv 2 = x.tdiv ((2 ^ (i + 1) : Nat) : Int) := by
  rcases Int.lt_or_le x 0 with h | h
  · obtain ⟨n, rfl⟩ : ∃ n : Nat, x = -(n : Int) := ⟨x.natAbs, by omega⟩
    rw [Int.neg_tdiv, Int.neg_tdiv, Int.neg_tdiv, tdiv_nat]
  · obtain ⟨n, rfl⟩ : ∃ n : Nat, x = (n : Int) := ⟨x.toNat, by omega⟩
    exact tdiv_nat n i
/-- The places of a number of 64 bits, one by one. -/
theorem tmod_bit (x : Int) (i : Nat) : ((x.tdiv ((2 ^ i : Nat) : Int)).tmod 2 ≠ 0) ↔ bit3N x.natAbs i = 1 := by
  have key : ∀ n : Nat, ((n : Int).tdiv ((2 ^ i : Nat) : Int)) = ((n / 2 ^ i : Nat) : Int) := fun n => tdiv_cast n _
  have km : ∀ n : Nat, ((n : Int).tmod 2) = ((n % 2 : Nat) : Int) := fun n => by
    rw [Int.tmod_eq_emod_of_nonneg (Int.natCast_nonneg n)]; omega
  unfold bit3N
  rcases Int.lt_or_le x 0 with h | h
  · obtain ⟨n, rfl⟩ : ∃ n : Nat, x = -(n : Int) := ⟨x.natAbs, by omega⟩
    rw [Int.neg_tdiv, key, Int.neg_tmod, km, Int.natAbs_neg, Int.natAbs_natCast]
    generalize n / 2 ^ i = q
    omega
  · obtain ⟨n, rfl⟩ : ∃ n : Nat, x = (n : Int) := ⟨x.toNat, by omega⟩
    rw [key, km, Int.natAbs_natCast]
    generalize n / 2 ^ i = q
    omega
end Go.Proofs.YtemmnpgebpffbaaGreat
/- Package theodoliteref03 on numbers that are not below 0: bits in memory, sums, products. -/
namespace Go.Proofs.YtemmnpgebpffbaaGreat
open Go.RowKit
/-- The places of a number, in memory. -/
abbrev numE (c : Bool) (n : Nat) : List Value := .bool c :: ints .i64 (bits3N n)
theorem ints_bits_len (n : Nat) : (ints .i64 (bits3N n)).length = 129 := by simp [ints, bits3N_len]
class Lt129 (i : Nat) : Prop where h : i < 129
instance (n : Nat) : SameLen (ints .i64 (bits3N n)) 129 := ⟨ints_bits_len n⟩
instance (n : Nat) : Tk (ints .i64 (bits3N n)) 129 (ints .i64 (bits3N n)) := ⟨by rw [List.take_of_length_le (by rw [ints_bits_len]; exact Nat.le_refl _)], ints_bits_len n⟩
theorem bits_get (n : Nat) {i : Nat} (h : i < 129) : (ints .i64 (bits3N n))[i]? = some (.int .i64 (bit3N n i : Nat)) := by
  have := bits3N_get n h
  rw [List.getD_eq_getElem?_getD, List.getElem?_eq_getElem (by rw [bits3N_len]; exact h)] at this
  simp only [Option.getD_some] at this
  simp [ints, bits3N_len, h, this]
instance (n i : Nat) [h : Lt129 i] : Get (ints .i64 (bits3N n)) i (.int .i64 (bit3N n i : Nat)) := ⟨bits_get n h.h⟩
instance (u : Value) (r : List Value) (q : Nat) (v : Value) [h : Get r q v] : Get (u :: r) (1 + q) v := ⟨by rw [Nat.add_comm]; simpa using h.h⟩
instance (u : Value) (r : List Value) (q : Nat) (v : Value) (o : List Value) [h : SetAt r q v o] : SetAt (u :: r) (1 + q) v (u :: o) := ⟨by obtain ⟨h1, h2⟩ := h.h; rw [Nat.add_comm]; simp [h1]; omega⟩
instance (m n : Nat) : Over (ints .i64 (bits3N m)) 0 (ints .i64 (bits3N n)) (ints .i64 (bits3N n)) := ⟨by
  have h1 := ints_bits_len m
  have h2 := ints_bits_len n
  refine ⟨?_, by omega⟩
  rw [List.take_zero, List.nil_append, Nat.zero_add, h2, ← h1, List.drop_length, List.append_nil]⟩
instance (i : Nat) : LitI ((i : Nat) : Int) i := ⟨rfl⟩
instance : SzI Tryz.prog 3 1 := ⟨Tryz.t3, by kernel_rfl, by kernel_rfl⟩
def z129 : Value := .agg (ints .i64 (bits3N 0)).toArray
def zNum : Value := .agg (numE false 0).toArray
instance : Inf Tryz.prog 117 129 1032 z129 := ⟨Tryz.t117, by kernel_rfl, by kernel_rfl, rfl, rfl⟩
instance : Inf Tryz.prog 119 130 1040 zNum := ⟨Tryz.t119, by kernel_rfl, by kernel_rfl, rfl, rfl⟩
instance : ZC z129 (ints .i64 (bits3N 0)) := ⟨rfl⟩
instance : ZC zNum (numE false 0) := ⟨rfl⟩
theorem bit3N_mod (s k j : Nat) : bit3N (s % 2 ^ k) j = if j < k then bit3N s j else 0 := by
  unfold bit3N
  split
  · rename_i h
    rw [show 2 ^ k = 2 ^ j * 2 ^ (k - j) by rw [← Nat.pow_add]; congr 1; omega, Nat.mod_mul_right_div_self, Nat.mod_mod_of_dvd]
    exact ⟨2 ^ (k - j - 1), by rw [← Nat.pow_succ']; congr 1; omega⟩
  · rename_i h
    have : s % 2 ^ k < 2 ^ j := Nat.lt_of_lt_of_le (Nat.mod_lt _ (Nat.two_pow_pos k)) (Nat.pow_le_pow_right (by decide) (by omega))
    rw [Nat.div_eq_of_lt this]
theorem bits3N_ext {m n : Nat} (h : ∀ i, i < 129 → bit3N m i = bit3N n i) : bits3N m = bits3N n := by
  unfold bits3N
  refine List.map_congr_left fun i hi => ?_
  rw [h i (List.mem_range.1 hi)]
theorem bits3N_mod (n : Nat) : bits3N (n % 2 ^ 129) = bits3N n := bits3N_ext fun i hi => by rw [bit3N_mod, if_pos hi]
theorem bits3N_mod1 (n : Nat) : bits3N (n % 2 ^ 0) = bits3N 0 := by rw [Nat.pow_zero, Nat.mod_one]
theorem bits_set (s : Nat) {i : Nat} (hi : i < 129) : (bits3N (s % 2 ^ i)).set i (bit3N s i : Nat) = bits3N (s % 2 ^ (i + 1)) := by
  refine List.ext_getElem (by simp [bits3N_len]) fun j h1 h2 => ?_
  have hj : j < 129 := by simpa [bits3N_len] using h2
  rw [List.getElem_set]
  simp only [bits3N, List.getElem_map, List.getElem_range, bit3N_mod]
  split
  · rename_i h
    subst h
    rw [if_pos (Nat.lt_succ_self _)]
  · rename_i h
    by_cases hji : j < i
    · rw [if_pos hji, if_pos (by omega)]
    · rw [if_neg hji, if_neg (by omega)]
theorem set_bits (s : Nat) {i : Nat} (hi : i < 129) {x : Int} (hx : x = (bit3N s i : Nat)) : SetAt (ints .i64 (bits3N (s % 2 ^ i))) i (.int .i64 x) (ints .i64 (bits3N (s % 2 ^ (i + 1)))) := ⟨by
  subst hx
  refine ⟨?_, by rw [ints_bits_len]; exact hi⟩
  rw [← bits_set s hi]
  simp [ints]⟩
theorem bit_keep (s : Nat) {i : Nat} (h : bit3N s i = 0) : bits3N (s % 2 ^ (i + 1)) = bits3N (s % 2 ^ i) := bits3N_ext fun j hj => by
  rw [bit3N_mod, bit3N_mod]
  by_cases hji : j < i
  · rw [if_pos hji, if_pos (by omega)]
  · rw [if_neg hji]
    split
    · rw [show j = i by omega, h]
    · rfl
section
variable {P : Program} (w : World)
theorem eqItems_ints (d : Nat) {e : TypeId} {k k' : IntKind} (hu : P.underlying e = some (.int k')) (xs ys : List Int) : ∀ is : List Nat, (∀ i ∈ is, i < xs.length ∧ i < ys.length) →
    (Op.eqItems (d + 1) e 1 (ints k xs).toArray (ints k ys).toArray is).run P w = .ok (is.all fun i => xs.getD i 0 == ys.getD i 0) w
  | [], _ => by simp [Op.eqItems]
  | i :: is, h => by
    have hi := h i (by simp)
    have ih := eqItems_ints d (k := k) hu xs ys is (fun j hj => h j (by simp [hj]))
    have hp : P.plainKey e = true := by simp [Program.plainKey, hu]
    have e1 : (part e (ints k xs).toArray (i * 1)).run P w = .ok (.int k (xs.getD i 0)) w := run_part_plain w hp (by simp [ints, hi.1, List.getD_eq_getElem?_getD])
    have e2 : (part e (ints k ys).toArray (i * 1)).run P w = .ok (.int k (ys.getD i 0)) w := run_part_plain w hp (by simp [ints, hi.2, List.getD_eq_getElem?_getD])
    simp only [Op.eqItems, Sem.run_bind, e1, e2, Result.andThen_ok, run_equalIn_int w d e k k' _ _ hu, List.all_cons]
    by_cases hc : xs.getD i 0 = ys.getD i 0
    · have hb : (xs.getD i 0 == ys.getD i 0) = true := by simpa using hc
      rw [hb]
      simpa using ih
    · have hb : (xs.getD i 0 == ys.getD i 0) = false := by simpa using hc
      rw [hb]
      simp
end
theorem all_bits {m n : Nat} (hm : m < 680564733841876926926749214863536422912) (hn : n < 680564733841876926926749214863536422912) : ((List.range 129).all fun i => (bits3N m).getD i 0 == (bits3N n).getD i 0) = decide (m = n) := by
  rw [Bool.eq_iff_iff, List.all_eq_true, decide_eq_true_iff]
  constructor
  · intro h
    refine bits_inj 129 hm hn fun i hi => ?_
    have := h i (List.mem_range.2 hi)
    rw [bits3N_get m hi, bits3N_get n hi, beq_iff_eq] at this
    omega
  · rintro rfl i _
    simp
theorem pv_eqBits (t u : TypeId) (x y : Operand) (m n : Nat) (ht : t = 117) : PV Tryz.prog (.binOp .eql t x y u) [.agg (ints .i64 (bits3N m)).toArray, .agg (ints .i64 (bits3N n)).toArray] (.bool (decide (m = n))) (m < 680564733841876926926749214863536422912 ∧ n < 680564733841876926926749214863536422912) := ⟨by
  subst ht
  rintro ⟨hm, hn⟩ ρ ⟨dst, op', ty, pos, aft, gd⟩ rfl h w
  obtain ⟨h1, h2⟩ := map2 h
  have hS : Tryz.prog.underlying 117 = some (.array 129 3) := by kernel_rfl
  have hE : Tryz.prog.underlying 3 = some (.int .i64) := by kernel_rfl
  obtain ⟨i, hi⟩ := info_of_underlying hE
  have hc : Tryz.prog.cellsOf 3 = 1 := by kernel_rfl
  have hm2 : Tryz.prog.eqGuardType Tryz.prog.depth 117 = false := by kernel_rfl
  simp only [execOp, h1, h2, Sem.run_bind, run_eqGuard_agg w _ _ _ _ _ _ hm2, Result.andThen_ok]
  rw [run_eql_struct, show (10000 : Nat) = 9999 + 1 from rfl, run_equalIn_array w 9999 _ _ hS hi, hc, show (9999 : Nat) = 9998 + 1 from rfl,
    eqItems_ints w 9998 hE (bits3N m) (bits3N n) (List.range 129) (fun i hi => by rw [bits3N_len, bits3N_len]; exact ⟨List.mem_range.1 hi, List.mem_range.1 hi⟩), all_bits hm hn]
  rfl⟩
instance eqBits_pv (u : TypeId) (x y : Operand) (m n : Nat) : PV Tryz.prog (.binOp .eql 117 x y u) [.agg (ints .i64 (bits3N m)).toArray, .agg (ints .i64 (bits3N n)).toArray] (.bool (decide (m = n))) (m < 680564733841876926926749214863536422912 ∧ n < 680564733841876926926749214863536422912) := pv_eqBits _ u x y m n rfl
instance {w0 : World} {W : Nat → Prop} {H : List HE} (u : TypeId) (x y : Operand) (m n : Nat) : MS Tryz.prog w0 W H (.binOp .eql 117 x y u) [.agg (ints .i64 (bits3N m)).toArray, .agg (ints .i64 (bits3N n)).toArray] (.bool (decide (m = n))) (m < 680564733841876926926749214863536422912 ∧ n < 680564733841876926926749214863536422912) := ⟨by
  intro hc F n N ds σ dd ty pos aft gd K Q _ hv hdN h
  exact o_val (by simp) rfl hdN (fun a w ha _ => pq_of (o := ⟨some dd, _, ty, pos, aft, gd⟩) hv hc a.eval (fun x _ u hu => ha.eval hu) w) h⟩
theorem mod129 {n : Nat} (h : n < 680564733841876926926749214863536422912) : n % 2 ^ 129 = n := Nat.mod_eq_of_lt h
attribute [local irreducible] OJ J HdJ Code.wpIn wpListIn Oper.wpIn bodyPost CallsIn Does
set_option maxRecDepth 4000
set_option maxHeartbeats 32000000 in
instance add3_cv (m n : Nat) : CV Tryz.prog 96 [.agg (ints .i64 (bits3N m)).toArray, .agg (ints .i64 (bits3N n)).toArray] (.agg (ints .i64 (bits3N (m + n))).toArray) True := ⟨fun _ w => by
  refine does_of Tryz.func96 rfl Tryz.ntmps96 rfl ⟨by simp, .nil⟩ (fun _ => ?_)
  simp only [slots]
  refine z_tas
  rename_i b2 b3 b4 b5
  refine c_loop (X := Nat) (fun i => i ≤ 129) (fun i => [(2, .pointer (some ⟨b2, 0, none⟩)), (3, .pointer (some ⟨b3, 0, none⟩)), (4, .pointer (some ⟨b4, 0, none⟩)), (5, .pointer (some ⟨b5, 0, none⟩)), (6, .int .i64 (car3N m n i : Nat)), (7, .int .i64 i)])
    (fun i => [.blk b2 117 (ints .i64 (bits3N m)), .blk b3 117 (ints .i64 (bits3N n)), .blk b4 117 (ints .i64 (bits3N 0)), .blk b5 117 (ints .i64 (bits3N ((m + n) % 2 ^ i)))]) (fun i => 129 - i) 0 (by omega) ⟨rfl, rfl, rfl, rfl, by rw [car_zero]; rfl, rfl, trivial⟩ (by rw [bits3N_mod1]; exact Sub.au) ?_
  intro i hi
  rcases Nat.lt_or_ge i 129 with h | h
  · have iL : Lt129 i := ⟨h⟩
    obtain ⟨a1, a2⟩ := add_bit m n i
    have b1 := bit3N_lt m i
    have b2' := bit3N_lt n i
    have b3' := car_lt m n i
    have o1 : SetAt (ints .i64 (bits3N ((m + n) % 2 ^ i))) i (.int .i64 ((((bit3N m i : Nat) : Int) + (bit3N n i : Nat) + (car3N m n i : Nat)) % 2)) (ints .i64 (bits3N ((m + n) % 2 ^ (i + 1)))) := set_bits (m + n) h (by omega)
    refine z_tas
    refine c_round (i + 1) h (by show 129 - (i + 1) < 129 - i; omega) ⟨rfl, rfl, rfl, rfl, ?_, by simp [look], trivial⟩ Sub.au
    simp only [look, List.lookup, Nat.beq]
    congr 2
    omega
  · obtain rfl : i = 129 := by omega
    rw [bits3N_mod]
    refine z_tas
    refine z_ro
    exact ⟨rfl, rfl⟩⟩
set_option maxHeartbeats 32000000 in
instance shift3_cv (m : Nat) : CV Tryz.prog 97 [.agg (ints .i64 (bits3N m)).toArray] (.agg (ints .i64 (bits3N (2 * m))).toArray) True := ⟨fun _ w => by
  rw [show 2 * m = m + m by omega]
  refine does_of Tryz.func97 rfl Tryz.ntmps97 rfl ⟨by simp, .nil⟩ (fun _ => ?_)
  simp only [slots]
  refine z_tas
  refine z_ro
  exact ⟨rfl, rfl⟩⟩
set_option maxHeartbeats 32000000 in
instance zero3_cv (c : Bool) (m : Nat) : CV Tryz.prog 94 [.agg (numE c m).toArray] (.bool (decide (m = 0))) (m < 680564733841876926926749214863536422912) := ⟨fun hm w => by
  refine does_of Tryz.func94 rfl Tryz.ntmps94 rfl ⟨by simp, .nil⟩ (fun _ => ?_)
  simp only [slots]
  refine z_tas
  rename_i b1
  refine c_loop (X := Nat) (fun i => i ≤ 129 ∧ ∀ j, j < i → bit3N m j = 0) (fun i => [(1, .pointer (some ⟨b1, 0, none⟩)), (3, .int .i64 i)])
    (fun i => [.blk b1 119 (numE c m)]) (fun i => 129 - i) 0 ⟨by omega, fun j hj => by omega⟩ ⟨rfl, rfl, trivial⟩ Sub.au ?_
  rintro i ⟨hi, hj⟩
  rcases Nat.lt_or_ge i 129 with h | h
  · have iL : Lt129 i := ⟨h⟩
    have h0 : bit3N m i ≠ 0 → m ≠ 0 := fun h e => h (by rw [e, bit3N_zero])
    generalize hb : bit3N m i = b at *
    refine z_tas
    · refine j_out1 rfl rfl (.nil _) ⟨congrArg Value.bool ?_, rfl⟩
      have := h0 (by omega)
      simp [this]
    · refine c_round (i + 1) ⟨h, fun j hjj => ?_⟩ (by show 129 - (i + 1) < 129 - i; omega) ⟨rfl, by simp [look], trivial⟩ Sub.au
      rcases Nat.lt_or_ge j i with h1 | h1
      · exact hj j h1
      · rw [show j = i by omega, hb]; omega
  · obtain rfl : i = 129 := by omega
    have := (zero_iff hm).1 hj
    refine z_tas
    exact j_out1 rfl rfl (.nil _) ⟨congrArg Value.bool (by simp [this]), rfl⟩⟩
theorem tdiv_in {x : Int} (h : InR .i64 x) (i : Nat) : InR .i64 (x.tdiv ((2 ^ i : Nat) : Int)) := by
  have h1 : -9223372036854775808 ≤ x ∧ x ≤ 9223372036854775807 := h
  have hp : (1 : Int) ≤ ((2 ^ i : Nat) : Int) := by have := Nat.two_pow_pos i; omega
  show -9223372036854775808 ≤ _ ∧ _ ≤ 9223372036854775807
  generalize ((2 ^ i : Nat) : Int) = p at *
  rcases Int.lt_or_le x 0 with h | h
  · obtain ⟨y, rfl⟩ : ∃ y, x = -y := ⟨-x, by omega⟩
    rw [Int.neg_tdiv, Int.tdiv_eq_ediv_of_nonneg (by omega)]
    have h3 : 0 ≤ y / p := Int.ediv_nonneg (by omega) (by omega)
    have h4 : y / p ≤ y := Int.ediv_le_self _ (by omega)
    omega
  · rw [Int.tdiv_eq_ediv_of_nonneg h]
    have h3 : 0 ≤ x / p := Int.ediv_nonneg h (by omega)
    have h4 : x / p ≤ x := Int.ediv_le_self _ h
    omega
theorem tdiv_0 (x : Int) : x.tdiv ((2 ^ 0 : Nat) : Int) = x := by simp
theorem tdiv_z {x : Int} {i : Nat} (h : x.tdiv ((2 ^ i : Nat) : Int) = 0) : x.natAbs % 2 ^ i = x.natAbs := by
  refine Nat.mod_eq_of_lt ?_
  have hp := Nat.two_pow_pos i
  have h1 := congrArg Int.natAbs h
  rw [Int.natAbs_tdiv, Int.natAbs_natCast] at h1
  exact (Nat.div_eq_zero_iff_lt hp).1 h1
set_option maxHeartbeats 32000000 in
theorem rof_any (x : Int) (hx : InR .i64 x) (w : World) : Does Tryz.prog 59 [.int .i64 x] [] w (fun v S' => v = .agg (numE (decide (x < 0)) x.natAbs).toArray ∧ S' = []) := by
  refine does_of Tryz.func59 rfl Tryz.ntmps59 rfl ⟨by simp, .nil⟩ (fun _ => ?_)
  simp only [slots]
  generalize hneg : decide (x < 0) = c
  have iN : ∀ w0 W H t u a b, MS Tryz.prog w0 W H (.binOp .lss t a b u) [.int .i64 x, .int .i64 0] (.bool c) True := by subst hneg; intros; infer_instance
  refine z_tas
  rename_i b2 b3
  refine c_loop (X := Nat) (fun i => i ≤ 65) (fun i => [(2, .pointer (some ⟨b2, 0, none⟩)), (3, .pointer (some ⟨b3, 0, none⟩)), (4, .int .i64 (x.tdiv ((2 ^ i : Nat) : Int))), (5, .int .i64 i)])
    (fun i => [.blk b2 119 (numE false 0), .blk b3 119 (numE c (x.natAbs % 2 ^ i))]) (fun i => 65 - i) 0 (by omega) ⟨rfl, rfl, by rw [tdiv_0]; rfl, rfl, trivial⟩ (by simp only [numE, bits3N_mod1]; exact Sub.au) ?_
  intro i hi
  have hin := tdiv_in hx i
  have hz := tdiv_z (x := x) (i := i)
  have hs := tdiv_step x i
  have hin2 := tdiv_in hx (i + 1)
  have hb := tmod_bit x i
  rcases Nat.lt_or_ge i 65 with h | h
  · have iL : Lt129 i := ⟨by omega⟩
    have o1 : bit3N x.natAbs i = 1 → SetAt (ints .i64 (bits3N (x.natAbs % 2 ^ i))) i (.int .i64 1) (ints .i64 (bits3N (x.natAbs % 2 ^ (i + 1)))) := fun h1 => set_bits x.natAbs (by omega) (by rw [h1]; rfl)
    have o2 := bit_keep x.natAbs (i := i)
    have b1 := bit3N_lt x.natAbs i
    rw [← hs] at hin2
    generalize hy : x.tdiv ((2 ^ i : Nat) : Int) = y at *
    by_cases hb1 : y.tmod 2 ≠ 0
    · have iS := o1 (hb.1 hb1)
      refine z_tas
      · refine c_round (i + 1) h (by show 65 - (i + 1) < 65 - i; omega) ⟨rfl, rfl, ?_, by simp [look], trivial⟩ Sub.au
        simp only [look, List.lookup, Nat.beq]
        rw [← hs, wrap_in hin2]
      · rename_i hy0
        exfalso
        apply hb1
        rw [Classical.not_not.1 hy0]
        rfl
    · have hb0 : bit3N x.natAbs i = 0 := by
        have : ¬ bit3N x.natAbs i = 1 := fun h => hb1 (hb.2 h)
        omega
      have e0 := o2 hb0
      have iR : ∀ w0 W H t u a b, MS Tryz.prog w0 W H (.binOp .neq t a b u) [.int .i64 (y.tmod 2), .int .i64 0] (.bool false) True := by
        rw [Classical.not_not.1 hb1]
        intros; infer_instance
      refine z_tas
      · refine c_round (i + 1) h (by show 65 - (i + 1) < 65 - i; omega) ⟨rfl, rfl, ?_, by simp [look], trivial⟩ (by simp only [numE, e0]; exact Sub.au)
        simp only [look, List.lookup, Nat.beq]
        rw [← hs, wrap_in hin2]
      · rename_i hy0
        rw [hz (Classical.not_not.1 hy0)]
        refine z_ro
        exact ⟨rfl, rfl⟩
  · obtain rfl : i = 65 := by omega
    have h1 : -9223372036854775808 ≤ x ∧ x ≤ 9223372036854775807 := hx
    rw [show x.natAbs % 2 ^ 65 = x.natAbs from Nat.mod_eq_of_lt (by show x.natAbs < 36893488147419103232; omega)]
    refine z_tas
    refine z_ro
    exact ⟨rfl, rfl⟩
end Go.Proofs.YtemmnpgebpffbaaGreat
/- Package theodoliteref03: products, held against each other, sums, both parts. -/
namespace Go.Proofs.YtemmnpgebpffbaaGreat
open Go.RowKit
theorem mul_mod_zero (a b : Nat) : bits3N (a * (b % 2 ^ 0)) = bits3N 0 := by rw [Nat.pow_zero, Nat.mod_one, Nat.mul_zero]
theorem two_mul_pow (a i : Nat) : 2 * (a * 2 ^ i) = a * 2 ^ (i + 1) := by rw [Nat.pow_succ, Nat.mul_left_comm, Nat.mul_comm 2 (2 ^ i)]
attribute [local irreducible] OJ J HdJ Code.wpIn wpListIn Oper.wpIn bodyPost CallsIn Does
set_option maxRecDepth 4000
set_option maxHeartbeats 64000000 in
theorem rmul_any (a b : Int) (ha : InR .i64 a) (hb : InR .i64 b) (c : Bool) (hs : decide (a < 0) = c) (ht : decide (b < 0) = c) (w : World) :
    Does Tryz.prog 60 [.int .i64 a, .int .i64 b] [] w (fun v S' => v = .agg (numE false (a.natAbs * b.natAbs)).toArray ∧ S' = []) := by
  have h1 : -9223372036854775808 ≤ a ∧ a ≤ 9223372036854775807 := ha
  have h2 : -9223372036854775808 ≤ b ∧ b ≤ 9223372036854775807 := hb
  have ia : CV Tryz.prog 59 [.int .i64 a] (.agg (numE c a.natAbs).toArray) True := ⟨fun _ w => by have := rof_any a ha w; rwa [hs] at this⟩
  have ib : CV Tryz.prog 59 [.int .i64 b] (.agg (numE c b.natAbs).toArray) True := ⟨fun _ w => by have := rof_any b hb w; rwa [ht] at this⟩
  have hm : b.natAbs % 2 ^ 65 = b.natAbs := Nat.mod_eq_of_lt (by show b.natAbs < 36893488147419103232; omega)
  have hp : a.natAbs * b.natAbs < 680564733841876926926749214863536422912 := by
    have := Nat.mul_le_mul (show a.natAbs ≤ 9223372036854775808 by omega) (show b.natAbs ≤ 9223372036854775808 by omega)
    omega
  refine does_of Tryz.func60 rfl Tryz.ntmps60 rfl ⟨by simp, .nil⟩ (fun _ => ?_)
  simp only [slots]
  clear hs ht
  refine z_tas
  rename_i b4 b5 b6 b7 b8
  refine c_loop (X := Nat) (fun i => i ≤ 65) (fun i => [(4, .pointer (some ⟨b4, 0, none⟩)), (5, .pointer (some ⟨b5, 0, none⟩)), (6, .pointer (some ⟨b6, 0, none⟩)), (7, .pointer (some ⟨b7, 0, none⟩)), (8, .pointer (some ⟨b8, 0, none⟩)), (9, .int .i64 i)])
    (fun i => [.blk b4 119 (numE false 0), .blk b5 119 (numE c a.natAbs), .blk b6 119 (numE c b.natAbs), .blk b7 119 (numE false (a.natAbs * (b.natAbs % 2 ^ i))), .blk b8 117 (ints .i64 (bits3N (a.natAbs * 2 ^ i)))]) (fun i => 65 - i) 0 (by omega) ⟨rfl, rfl, rfl, rfl, rfl, rfl, trivial⟩ (by simp only [numE, Nat.pow_zero, Nat.mod_one, Nat.mul_zero, Nat.mul_one]; exact Sub.au) ?_
  intro i hi
  rcases Nat.lt_or_ge i 65 with h | h
  · have iL : Lt129 i := ⟨by omega⟩
    have hst := mul_step a.natAbs b.natAbs i
    have hb1 := bit3N_lt b.natAbs i
    have e2 := two_mul_pow a.natAbs i
    refine z_tas
    all_goals rw [e2]
    · refine c_round (i + 1) h (by show 65 - (i + 1) < 65 - i; omega) ⟨rfl, rfl, rfl, rfl, rfl, by simp [look], trivial⟩ ?_
      have : bit3N b.natAbs i = 1 := by omega
      rw [hst, this, Nat.one_mul]
      exact Sub.au
    · refine c_round (i + 1) h (by show 65 - (i + 1) < 65 - i; omega) ⟨rfl, rfl, rfl, rfl, rfl, by simp [look], trivial⟩ ?_
      have : bit3N b.natAbs i = 0 := by omega
      rw [hst, this, Nat.zero_mul, Nat.add_zero]
      exact Sub.au
  · obtain rfl : i = 65 := by omega
    rw [hm]
    refine z_tas
    refine z_ro
    exact ⟨rfl, rfl⟩
/-- Which of two numbers is greater. -/
def cmpI (m n : Nat) : Int := if m < n then -1 else if m = n then 0 else 1
set_option maxHeartbeats 64000000 in
instance less3_cv (m n : Nat) : CV Tryz.prog 95 [.agg (ints .i64 (bits3N m)).toArray, .agg (ints .i64 (bits3N n)).toArray] (.bool (decide (m < n))) (m < 680564733841876926926749214863536422912 ∧ n < 680564733841876926926749214863536422912) := ⟨fun hc w => by
  refine does_of Tryz.func95 rfl Tryz.ntmps95 rfl ⟨by simp, .nil⟩ (fun _ => ?_)
  simp only [slots]
  refine z_tas
  rename_i b2 b3
  refine c_loop (X := Nat) (fun k => k ≤ 129 ∧ (m < n ↔ m % 2 ^ k < n % 2 ^ k)) (fun k => [(2, .pointer (some ⟨b2, 0, none⟩)), (3, .pointer (some ⟨b3, 0, none⟩)), (5, .int .i64 ((k : Int) - 1))])
    (fun k => [.blk b2 117 (ints .i64 (bits3N m)), .blk b3 117 (ints .i64 (bits3N n))]) (fun k => k) 129 ⟨Nat.le_refl _, by rw [mod129 hc.1, mod129 hc.2]⟩ ⟨rfl, rfl, rfl, trivial⟩ Sub.au ?_
  rintro k ⟨hk, hl⟩
  rcases Nat.eq_zero_or_pos k with h | h
  · subst h
    rw [Nat.pow_zero, Nat.mod_one, Nat.mod_one] at hl
    refine z_tas
    exact j_out1 rfl rfl (.nil _) ⟨congrArg Value.bool (by simp; omega), rfl⟩
  · obtain ⟨i, rfl⟩ : ∃ i, k = i + 1 := ⟨k - 1, by omega⟩
    have iL : Lt129 i := ⟨by omega⟩
    have hs := less_step m n i
    rw [show (((i + 1 : Nat) : Int) - 1) = (i : Int) by omega]
    refine z_tas
    · refine j_out1 rfl rfl (.nil _) ⟨congrArg Value.bool ?_, rfl⟩
      rw [Bool.eq_iff_iff, decide_eq_true_iff, decide_eq_true_iff, hl, hs]
      omega
    · refine c_round i ⟨by omega, ?_⟩ (Nat.lt_succ_self _) ⟨rfl, rfl, by simp [look], trivial⟩ Sub.au
      rw [hl, hs]
      omega⟩
set_option maxHeartbeats 64000000 in
instance cmp3_cv (m n : Nat) : CV Tryz.prog 58 [.agg (numE false m).toArray, .agg (numE false n).toArray] (.int .i64 (cmpI m n)) (m < 680564733841876926926749214863536422912 ∧ n < 680564733841876926926749214863536422912) := ⟨fun hc w => by
  refine does_of Tryz.func58 rfl Tryz.ntmps58 rfl ⟨by simp, .nil⟩ (fun _ => ?_)
  simp only [slots]
  unfold cmpI
  refine z_tas
  all_goals first
    | exact j_out1 rfl rfl (.nil _) ⟨congrArg (Value.int .i64) (by split <;> (try split) <;> omega), rfl⟩
    | skip
  all_goals (refine c_dv (0 :: 1 :: 2 :: 3 :: 4 :: 5 :: 6 :: 7 :: []) ?_; intro _)
  all_goals (refine z_govG)
  all_goals exact j_out1 rfl rfl (.nil _) ⟨congrArg (Value.int .i64) (by simp only [Bool.false_eq_true, iff_false, Classical.not_not] at *; split <;> (try split) <;> omega), rfl⟩⟩
theorem high_bit {n i : Nat} {k : Nat} (h : n < 2 ^ k) (hk : k ≤ i) : bit3N n i = 0 := by
  unfold bit3N
  rw [Nat.div_eq_of_lt (Nat.lt_of_lt_of_le h (Nat.pow_le_pow_right (by decide) hk))]
set_option maxHeartbeats 64000000 in
theorem fits_any (c : Bool) (m k : Nat) (hm : m < 2 ^ k) (hk : k < 129) (w : World) : Does Tryz.prog 100 [.agg (numE c m).toArray, .int .i64 k] [] w (fun v S' => v = .bool true ∧ S' = []) := by
  refine does_of Tryz.func100 rfl Tryz.ntmps100 rfl ⟨by simp, .nil⟩ (fun _ => ?_)
  simp only [slots]
  refine z_tas
  rename_i b2
  refine c_loop (X := Nat) (fun i => k + 1 ≤ i ∧ i ≤ 129) (fun i => [(1, .int .i64 k), (2, .pointer (some ⟨b2, 0, none⟩)), (5, .int .i64 i)])
    (fun i => [.blk b2 119 (numE c m)]) (fun i => 129 - i) (k + 1) ⟨by omega, by omega⟩ ⟨rfl, rfl, rfl, trivial⟩ Sub.au ?_
  rintro i ⟨hi1, hi⟩
  rcases Nat.lt_or_ge i 129 with h | h
  · have iL : Lt129 i := ⟨h⟩
    have iG : Get (ints .i64 (bits3N m)) i (.int .i64 0) := ⟨by rw [bits_get m h, high_bit hm (show k ≤ i by omega)]; rfl⟩
    refine z_tas
    exact c_round (i + 1) ⟨by omega, h⟩ (by show 129 - (i + 1) < 129 - i; omega) ⟨rfl, rfl, by simp [look], trivial⟩ Sub.au
  · obtain rfl : i = 129 := by omega
    have iL : Lt129 k := ⟨hk⟩
    have iG : Get (ints .i64 (bits3N m)) k (.int .i64 0) := ⟨by rw [bits_get m hk, high_bit hm (Nat.le_refl k)]; rfl⟩
    refine z_tas
    exact j_out1 rfl rfl (.nil _) ⟨rfl, rfl⟩
instance fits127_cv (c : Bool) (m : Nat) : CV Tryz.prog 100 [.agg (numE c m).toArray, .int .i64 127] (.bool true) (m < 170141183460469231731687303715884105728) := ⟨fun h w => fits_any c m 127 h (by decide) w⟩
instance fits63_cv (c : Bool) (m : Nat) : CV Tryz.prog 100 [.agg (numE c m).toArray, .int .i64 63] (.bool true) (m < 9223372036854775808) := ⟨fun h w => fits_any c m 63 h (by decide) w⟩
set_option maxHeartbeats 64000000 in
instance radd_cv (m n : Nat) : CV Tryz.prog 86 [.agg (numE false m).toArray, .agg (numE false n).toArray] (.tuple #[.agg (numE false (m + n)).toArray, .bool true]) (m + n < 170141183460469231731687303715884105728) := ⟨fun hc w => by
  refine does_of Tryz.func86 rfl Tryz.ntmps86 rfl ⟨by simp, .nil⟩ (fun _ => ?_)
  simp only [slots]
  refine z_tas
  all_goals (rename_i b2 b3 b4 b6 hz; refine c_dvL [.blk b6 119 (numE false (m + n))] (0 :: 1 :: 2 :: 3 :: 4 :: []) Sub.au ?_; intro _)
  all_goals (refine z_govG)
  all_goals (refine z_ro; exact ⟨rfl, rfl⟩)⟩
set_option maxHeartbeats 64000000 in
theorem word_any (n fr : Nat) (hf : fr ≤ 64) (w : World) : Does Tryz.prog 125 [.agg (ints .i64 (bits3N n)).toArray, .int .i64 fr] [] w (fun v S' => v = .int .u64 ((n / 2 ^ fr % 2 ^ 64 : Nat) : Int) ∧ S' = []) := by
  refine does_of Tryz.func125 rfl Tryz.ntmps125 rfl ⟨by simp, .nil⟩ (fun _ => ?_)
  simp only [slots]
  refine z_tas
  rename_i b2
  refine c_loop (X := Nat) (fun k => k ≤ 64) (fun k => [(1, .int .i64 fr), (2, .pointer (some ⟨b2, 0, none⟩)), (5, .int .u64 ((n / 2 ^ fr / 2 ^ k % 2 ^ (64 - k) : Nat) : Int)), (6, .int .i64 ((k : Int) - 1))])
    (fun k => [.blk b2 117 (ints .i64 (bits3N n))]) (fun k => k) 64 (Nat.le_refl _) ⟨rfl, rfl, by rw [Nat.sub_self, Nat.pow_zero, Nat.mod_one]; rfl, rfl, trivial⟩ Sub.au ?_
  intro k hk
  rcases Nat.eq_zero_or_pos k with h | h
  · subst h
    rw [Nat.pow_zero, Nat.div_one]
    refine z_tas
    exact j_out1 rfl rfl (.nil _) ⟨rfl, rfl⟩
  · obtain ⟨i, rfl⟩ : ∃ i, k = i + 1 := ⟨k - 1, by omega⟩
    have iL : Lt129 (fr + i) := ⟨by omega⟩
    have hs := word_step n fr i (by omega)
    have hlt : n / 2 ^ fr / 2 ^ i % 2 ^ (64 - i) < 18446744073709551616 := Nat.lt_of_lt_of_le (Nat.mod_lt _ (Nat.two_pow_pos _)) (Nat.pow_le_pow_right (by decide) (show 64 - i ≤ 64 by omega))
    have hb := bit3N_lt n (fr + i)
    rw [show (((i + 1 : Nat) : Int) - 1) = (i : Int) by omega]
    rw [hs] at hlt
    generalize n / 2 ^ fr / 2 ^ (i + 1) % 2 ^ (64 - (i + 1)) = y at *
    refine z_tas
    refine c_round i (by omega) (Nat.lt_succ_self _) ⟨rfl, rfl, ?_, by simp [look], trivial⟩ Sub.au
    rw [hs]
    simp only [look, List.lookup, Nat.beq]
    push_cast
    rfl
instance word0_cv (n : Nat) : CV Tryz.prog 125 [.agg (ints .i64 (bits3N n)).toArray, .int .i64 0] (.int .u64 ((n % 18446744073709551616 : Nat) : Int)) True := ⟨fun _ w => by
  have := word_any n 0 (by decide) w
  rw [Nat.pow_zero, Nat.div_one] at this
  exact this⟩
instance word64_cv (n : Nat) : CV Tryz.prog 125 [.agg (ints .i64 (bits3N n)).toArray, .int .i64 64] (.int .u64 ((n / 18446744073709551616 : Nat) : Int)) (n < 340282366920938463463374607431768211456) := ⟨fun h w => by
  have := word_any n 64 (by decide) w
  rw [Nat.mod_eq_of_lt (Nat.div_lt_of_lt_mul (by show n < 18446744073709551616 * 18446744073709551616; omega))] at this
  exact this⟩
set_option maxHeartbeats 64000000 in
instance parts_cv (n : Nat) : CV Tryz.prog 87 [.agg (numE false n).toArray] (.tuple #[.int .i64 ((n / 18446744073709551616 : Nat) : Int), .int .u64 ((n % 18446744073709551616 : Nat) : Int)]) (n < 170141183460469231731687303715884105728) := ⟨fun hc w => by
  have h1 : n / 18446744073709551616 < 9223372036854775808 := by omega
  refine does_of Tryz.func87 rfl Tryz.ntmps87 rfl ⟨by simp, .nil⟩ (fun _ => ?_)
  simp only [slots]
  refine z_tas
  exact j_out2 rfl rfl rfl (.nil _) ⟨rfl, rfl⟩⟩
end Go.Proofs.YtemmnpgebpffbaaGreat
/- Package wide: products of any two numbers. -/
namespace Go.Proofs.YtemmnpgebpffbaaGreat
open Go.RowKit
attribute [local irreducible] OJ J HdJ Code.wpIn wpListIn Oper.wpIn bodyPost CallsIn Does
set_option maxRecDepth 4000
set_option maxHeartbeats 8000000 in
instance (priority := 2000) negW_any (z : Int) : CV Tryz.prog 92 [.agg (wideV z).toArray] (.agg (wideV (-z)).toArray) (-85070591730234615865843651857942052864 ≤ z ∧ z ≤ 85070591730234615865843651857942052864) := ⟨fun hc w => by
  refine does_of Tryz.func92 rfl Tryz.ntmps92 rfl ⟨by simp, .nil⟩ (fun n => ?_)
  simp only [slots]
  refine z_gob
  refine z_ro
  refine ⟨wideA_eq ?_ (by omega), rfl⟩
  rw [IntKind.wrap_u64, IntKind.wrap_u64, IntKind.wrap_u64, IntKind.wrap_i64]
  split <;> omega⟩
theorem absI_in {a : Int} (h : InR .i64 a) : 0 ≤ absI a ∧ absI a ≤ 9223372036854775808 := by
  have h1 : -9223372036854775808 ≤ a ∧ a ≤ 9223372036854775807 := h
  unfold absI
  split <;> omega
instance (priority := 2000) mulW_any (a b : Int) : CV Tryz.prog 56 [.int .i64 a, .int .i64 b] (.agg (wideV (a * b)).toArray) (InR .i64 a ∧ InR .i64 b) := ⟨fun hc w => by
  have h1 := absI_mul a b
  have ha := absI_in hc.1
  have hb := absI_in hc.2
  have h2 : 0 ≤ absI a * absI b ∧ absI a * absI b ≤ 85070591730234615865843651857942052864 := by
    have := mulB 9223372036854775808 9223372036854775808 (a := absI a) (b := absI b) (by omega) (by omega)
    have := Int.mul_nonneg ha.1 hb.1
    omega
  have hc1 := hc.1
  have hc2 := hc.2
  refine does_of Tryz.func56 rfl Tryz.ntmps56 rfl ⟨by simp, .nil⟩ (fun n => ?_)
  simp only [slots]
  refine z_gob
  · rename_i h
    refine z_ro
    refine ⟨?_, rfl⟩
    rw [h1, absI_neg a b (fun e => h (by rw [e]))]
    rfl
  · rename_i h
    refine z_ro
    refine ⟨?_, rfl⟩
    rw [h1, absI_sgn a b (.inl (propext (Classical.not_not.1 h)))]
    rfl⟩
end Go.Proofs.YtemmnpgebpffbaaGreat
/- Packages match and theodoliteref21: what is wrong with a search, what differences cost. -/
namespace Go.Proofs.YtemmnpgebpffbaaGreat
open Go.RowKit
def in21 (x far : Int) : Bool := decide (-far ≤ x ∧ x ≤ far)
instance (x far : Int) : BoolP (in21 x far) (-far ≤ x ∧ x ≤ far) := ⟨by simp [in21]⟩
instance {P : Program} {w0 : World} {W : Nat → Prop} {H : List HE} (x y u v : Operand) (ts : Array TypeId) (k : IntKind) (p q r s : Int) : MS P w0 W H (.call ⟨.builtin .max, #[x, y, u, v], ts⟩) [.int k p, .int k q, .int k r, .int k s] (.int k (max (max (max p q) r) s)) True := ⟨fun _ _ _ _ _ _ _ _ _ _ _ _ _ _ h1 h2 h3 => by
  refine o_val (by simp) rfl h2 (fun a w ha _ => ?_) h3
  have hm : ∀ p q : Int, (if p < q then q else p) = max p q := fun p q => by omega
  have he := vals_map ha (show vals _ [x, y, u, v] = some _ from h1)
  simp only [List.map_cons, List.map_nil, List.cons.injEq, and_true] at he
  obtain ⟨e1, e2, e3, e4⟩ := he
  simp [execOp, e1, e2, e3, e4, resolve, invoke, builtin, Builtin.max_, Builtin.max2, hm]⟩
attribute [local irreducible] OJ J HdJ Code.wpIn wpListIn Oper.wpIn bodyPost CallsIn Does
set_option maxRecDepth 4000
set_option maxHeartbeats 16000000 in
instance rin21_cv (x far : Int) : CV Tryz.prog 84 [.int .i64 x, .int .i64 far] (.bool (in21 x far)) (0 ≤ far ∧ far < 9223372036854775808) := ⟨fun hf w => by
  refine does_of Tryz.func84 rfl Tryz.ntmps84 rfl ⟨by simp, .nil⟩ (fun n => ?_)
  simp only [slots]
  refine z_tas
  all_goals exact j_out1 rfl rfl (.nil _) ⟨congrArg Value.bool (by unfold in21; rw [Bool.eq_iff_iff]; simp only [decide_eq_true_eq, Bool.and_eq_true, Bool.false_eq_true, false_iff, true_iff]; omega), rfl⟩⟩
theorem chk21_1 {s : Sch} {l : List Smp} (h : ¬ SchOk s) : chk21 s l = 2 := if_pos h
theorem chk21_2 {s : Sch} {l : List Smp} (h : SchOk s) (h2 : l.length = 0 ∨ 64 < l.length) : chk21 s l = 5 := by unfold chk21; rw [if_neg (not_not_intro h), if_pos h2]
theorem chk21_3 {s : Sch} {l : List Smp} (h : SchOk s) (h2 : ¬ (l.length = 0 ∨ 64 < l.length)) (h3 : badS l l.length = true) : chk21 s l = 1 := by unfold chk21; rw [if_neg (not_not_intro h), if_neg h2, if_pos h3]
theorem chk21_4 {s : Sch} {l : List Smp} (h : SchOk s) (h2 : ¬ (l.length = 0 ∨ 64 < l.length)) (h3 : badS l l.length = false) : chk21 s l = 0 := by unfold chk21; rw [if_neg (not_not_intro h), if_neg h2, h3]; rfl
set_option maxHeartbeats 64000000 in
theorem mcheck_any (s : Sch) (Al : Option Addr) (cl : Nat) (l : List Smp) (w : World) (hr : RoA w (blocks []) Al l.length cl 3 (flat smpE l)) (hm : l.length ≤ 1000000) :
    Does Tryz.prog 37 [.agg (schE s).toArray, .slice Al l.length cl] [] w (fun v S' => v = .int .i64 (chk21 s l) ∧ S' = []) := by
  refine does_of Tryz.func37 rfl Tryz.ntmps37 rfl ⟨by simp, .nil⟩ (fun n => ?_)
  simp only [slots]
  by_cases hs : SchOk s
  · have hs' := hs
    obtain ⟨⟨s1, s2⟩, ⟨s3, s4⟩, ⟨s5, s6⟩, ⟨s7, s8⟩⟩ := hs'
    by_cases h2 : l.length = 0 ∨ 64 < l.length
    · rw [chk21_2 hs h2]
      refine z_tas
      all_goals exact j_out1 rfl rfl (.nil _) ⟨rfl, rfl⟩
    · have h3 := chk21_3 (s := s) (l := l) hs h2
      have h4 := chk21_4 (s := s) (l := l) hs h2
      obtain ⟨bL, oL, rfl, hL⟩ := hr.at_ (by omega : 0 < l.length)
      refine z_tas
      rename_i b2 _ _ _ _ _ _ _ _ _ _
      refine c_loop (X := Nat) (fun i => i ≤ l.length ∧ ∀ j, j < i → SmpOk (l.getD j default)) (fun i => [(2, .pointer (some ⟨b2, 0, none⟩)), (57, .slice (some ⟨bL, oL, none⟩) l.length cl), (58, .int .i64 l.length), (59, .int .i64 i)])
        (fun i => [.blk b2 26 (schE s)]) (fun i => l.length - i) 0 ⟨by omega, fun j hj => by omega⟩ ⟨rfl, rfl, rfl, rfl, trivial⟩ Sub.au ?_
      rintro i ⟨hi, hj⟩
      rcases Nat.lt_or_ge i l.length with h | h
      · have hb : ¬ SmpOk (l.getD i default) → badS l l.length = true := badS_yes h
        have hsx : SmpOk (l.getD i default) ↔ ((-4194304 ≤ (l.getD i default).z ∧ (l.getD i default).z ≤ 4194304) ∧ (-1073741824 ≤ (l.getD i default).dx ∧ (l.getD i default).dx ≤ 1073741824) ∧ (-1073741824 ≤ (l.getD i default).dy ∧ (l.getD i default).dy ≤ 1073741824)) := Iff.rfl
        refine z_tas
        all_goals first
          | (refine c_round (i + 1) ⟨h, fun j hjj => ?_⟩ (by show l.length - (i + 1) < l.length - i; omega) ⟨rfl, rfl, rfl, by simp [look], trivial⟩ Sub.au
             rcases Nat.lt_or_ge j i with h1 | h1
             · exact hj j h1
             · rw [show j = i by omega, hsx]; omega)
          | (rw [h3 (hb (by rw [hsx]; omega))]; exact j_out1 rfl rfl (.nil _) ⟨rfl, rfl⟩)
      · obtain rfl : i = l.length := by omega
        rw [h4 (badS_no.2 hj)]
        refine z_tas
        exact j_out1 rfl rfl (.nil _) ⟨rfl, rfl⟩
  · rw [chk21_1 hs]
    have hs' : ¬ ((0 ≤ s.far ∧ s.far ≤ 32) ∧ (1 ≤ s.step ∧ s.step ≤ 4096) ∧ (-1099511627776 ≤ s.x ∧ s.x ≤ 1099511627776) ∧ (-1099511627776 ≤ s.y ∧ s.y ≤ 1099511627776)) := hs
    refine z_tas
    all_goals first
      | exact j_out1 rfl rfl (.nil _) ⟨rfl, rfl⟩
      | (exfalso; omega)
set_option maxHeartbeats 64000000 in
theorem rcheck21_any (s : Sch) (Al : Option Addr) (cl : Nat) (l : List Smp) (w : World) (hr : RoA w (blocks []) Al l.length cl 3 (flat smpE l)) (hm : l.length ≤ 1000000) :
    Does Tryz.prog 41 [.agg (schE s).toArray, .slice Al l.length cl] [] w (fun v S' => v = .int .i64 (chk21 s l) ∧ S' = []) := by
  refine does_of Tryz.func41 rfl Tryz.ntmps41 rfl ⟨by simp, .nil⟩ (fun n => ?_)
  simp only [slots]
  by_cases hs : SchOk s
  · have hs' := hs
    obtain ⟨⟨s1, s2⟩, ⟨s3, s4⟩, ⟨s5, s6⟩, ⟨s7, s8⟩⟩ := hs'
    by_cases h2 : l.length = 0 ∨ 64 < l.length
    · rw [chk21_2 hs h2]
      refine z_tas
      all_goals exact j_out1 rfl rfl (.nil _) ⟨rfl, rfl⟩
    · have h3 := chk21_3 (s := s) (l := l) hs h2
      have h4 := chk21_4 (s := s) (l := l) hs h2
      obtain ⟨bL, oL, rfl, hL⟩ := hr.at_ (by omega : 0 < l.length)
      refine z_tas
      rename_i b2 _ _ _ _ _ _ _ _
      refine c_loop (X := Nat) (fun i => i ≤ l.length ∧ ∀ j, j < i → SmpOk (l.getD j default)) (fun i => [(1, .slice (some ⟨bL, oL, none⟩) l.length cl), (2, .pointer (some ⟨b2, 0, none⟩)), (5, .int .i64 i)])
        (fun i => [.blk b2 26 (schE s)]) (fun i => l.length - i) 0 ⟨by omega, fun j hj => by omega⟩ ⟨rfl, rfl, rfl, trivial⟩ Sub.au ?_
      rintro i ⟨hi, hj⟩
      rcases Nat.lt_or_ge i l.length with h | h
      · have hb : ¬ SmpOk (l.getD i default) → badS l l.length = true := badS_yes h
        have hsx : SmpOk (l.getD i default) ↔ ((-4194304 ≤ (l.getD i default).z ∧ (l.getD i default).z ≤ 4194304) ∧ (-1073741824 ≤ (l.getD i default).dx ∧ (l.getD i default).dx ≤ 1073741824) ∧ (-1073741824 ≤ (l.getD i default).dy ∧ (l.getD i default).dy ≤ 1073741824)) := Iff.rfl
        refine z_tas
        all_goals first
          | (refine c_round (i + 1) ⟨h, fun j hjj => ?_⟩ (by show l.length - (i + 1) < l.length - i; omega) ⟨rfl, rfl, by simp [look], trivial⟩ Sub.au
             rcases Nat.lt_or_ge j i with h1 | h1
             · exact hj j h1
             · rw [show j = i by omega, hsx]; omega)
          | (rw [h3 (hb (by rw [hsx]; omega))]; exact j_out1 rfl rfl (.nil _) ⟨rfl, rfl⟩)
      · obtain rfl : i = l.length := by omega
        rw [h4 (badS_no.2 hj)]
        refine z_tas
        exact j_out1 rfl rfl (.nil _) ⟨rfl, rfl⟩
  · rw [chk21_1 hs]
    have hs' : ¬ ((0 ≤ s.far ∧ s.far ≤ 32) ∧ (1 ≤ s.step ∧ s.step ≤ 4096) ∧ (-1099511627776 ≤ s.x ∧ s.x ≤ 1099511627776) ∧ (-1099511627776 ≤ s.y ∧ s.y ≤ 1099511627776)) := hs
    refine z_tas
    all_goals first
      | exact j_out1 rfl rfl (.nil _) ⟨rfl, rfl⟩
      | (exfalso; omega)
end Go.Proofs.YtemmnpgebpffbaaGreat
