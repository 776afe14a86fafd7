
import Derived.Test.YtemmnpgebpffbaaGreatMG10
set_option linter.unusedVariables false
set_option linter.unusedSimpArgs false
/- Packages match and theodoliteref21: what differences cost. -/
namespace Go.Proofs.YtemmnpgebpffbaaGreat
open Go.RowKit
theorem costF_1 {d : List Int} {m : Int} (h : 64 < d.length ∨ m < 0 ∨ 3 < m) : costF d m 1 2 10 = (0, 1) := if_pos h
theorem costF_2 {d : List Int} {m : Int} (h : ¬ (64 < d.length ∨ m < 0 ∨ 3 < m)) (hb : badTo d d.length = true) : costF d m 1 2 10 = (0, 2) := by unfold costF; rw [if_neg h, if_pos hb]
theorem costF_3 {d : List Int} {m : Int} (h : ¬ (64 < d.length ∨ m < 0 ∨ 3 < m)) (hb : DifOk d d.length) (hc : 4611686018427387904 < cosTo d.length (sumTo d d.length) m d d.length) : costF d m 1 2 10 = (0, 10) := by unfold costF; rw [if_neg h, badTo_no.2 hb, if_neg (by decide), if_pos hc]
theorem costF_4 {d : List Int} {m : Int} (h : ¬ (64 < d.length ∨ m < 0 ∨ 3 < m)) (hb : DifOk d d.length) (hc : ¬ 4611686018427387904 < cosTo d.length (sumTo d d.length) m d d.length) : costF d m 1 2 10 = (cosTo d.length (sumTo d d.length) m d d.length, 0) := by unfold costF; rw [if_neg h, badTo_no.2 hb, if_neg (by decide), if_neg hc]
theorem badTo_yes {d : List Int} {i n : Nat} (hi : i < n) (h : d.getD i 0 < -8388608 ∨ 8388608 < d.getD i 0) : badTo d n = true := by
  cases hb : badTo d n with
  | true => rfl
  | false => have := badTo_no.1 hb i hi; omega
theorem DifOk.succ {d : List Int} {i : Nat} (h : DifOk d i) (h2 : -8388608 ≤ d.getD i 0 ∧ d.getD i 0 ≤ 8388608) : DifOk d (i + 1) := fun j hj => by
  rcases Nat.lt_or_ge j i with h1 | h1
  · exact h j h1
  · rw [show j = i by omega]; exact h2
theorem sq_in {y : Int} (h : -1073741824 ≤ y ∧ y ≤ 1073741824) : 0 ≤ y * y ∧ y * y ≤ 1152921504606846976 := by
  have := mulB 1073741824 1073741824 (a := y) (b := y) (by omega) (by omega)
  refine ⟨?_, by omega⟩
  rcases Int.lt_or_le y 0 with h | h
  · exact Int.le_of_lt (Int.mul_pos_of_neg_of_neg h h)
  · exact Int.mul_nonneg h h
/-- Without squares there is always room. -/
theorem cosTo_lin {d : List Int} {m : Int} (hm : m = 0 ∨ m = 2) (hl : d.length ≤ 64) (h : DifOk d d.length) : ∀ i, i ≤ d.length → cosTo d.length (sumTo d d.length) m d i ≤ 1073741824 * (i : Int)
  | 0, _ => by simp [cosTo]
  | i + 1, hi => by
    have h1 := cosTo_lin hm hl h i (by omega)
    have h2 := difX_in (m := m) hl h (show i < d.length by omega)
    rw [cosTo]
    have : terX m (difX d.length (sumTo d d.length) m (d.getD i 0)) ≤ 1073741824 := by
      unfold terX
      rw [if_pos hm]
      split <;> omega
    omega
attribute [local irreducible] OJ J HdJ Code.wpIn wpListIn Oper.wpIn bodyPost CallsIn Does
set_option maxRecDepth 4000
set_option maxHeartbeats 64000000 in
theorem mcost_any (A : Option Addr) (c : Nat) (d : List Int) (m : Int) (w : World) (hr : RoA w (blocks []) A d.length c 1 (ints .i64 d)) (hm : d.length ≤ 1000000) :
    Does Tryz.prog 33 [.slice A d.length c, .int .i64 m] [] w (fun v S' => v = .tuple #[.int .i64 (costF d m 1 2 10).1, .int .i64 (costF d m 1 2 10).2] ∧ S' = []) := by
  refine does_of Tryz.func33 rfl Tryz.ntmps33 rfl ⟨by simp, .nil⟩ (fun n => ?_)
  simp only [slots]
  by_cases h0 : 64 < d.length ∨ m < 0 ∨ 3 < m
  · rw [costF_1 h0]
    refine z_tas
    all_goals first
      | exact j_out2 rfl rfl rfl (.nil _) ⟨rfl, rfl⟩
      | (exfalso; omega)
  · have f2 := costF_2 h0
    have f3 := costF_3 h0
    have f4 := costF_4 h0
    refine z_tas
    refine c_loop (X := Nat) (fun i => i ≤ d.length ∧ DifOk d i) (fun i => [(0, .slice A d.length c), (1, .int .i64 m), (6, .int .i64 d.length), (7, .int .i64 (sumTo d i)), (27, .slice A d.length c), (28, .int .i64 d.length), (29, .int .i64 i)])
      (fun i => []) (fun i => d.length - i) 0 ⟨by omega, fun j hj => by omega⟩ ⟨rfl, rfl, rfl, rfl, rfl, rfl, rfl, trivial⟩ Sub.au ?_
    rintro i ⟨hi, hok⟩
    have hsi := sumTo_in hok
    rcases Nat.lt_or_ge i d.length with h | h
    · obtain ⟨bL, oL, rfl, hL⟩ := hr.at_ (by omega : 0 < d.length)
      have hy := badTo_yes (d := d) (n := d.length) h
      refine z_tas
      · rw [f2 (hy (by omega))]
        exact j_out2 rfl rfl rfl (.nil _) ⟨rfl, rfl⟩
      · rw [f2 (hy (by omega))]
        exact j_out2 rfl rfl rfl (.nil _) ⟨rfl, rfl⟩
      · exact c_round (i + 1) ⟨h, hok.succ (by omega)⟩ (by show d.length - (i + 1) < d.length - i; omega) ⟨rfl, rfl, rfl, rfl, rfl, rfl, by simp [look], trivial⟩ Sub.au
    · obtain rfl : i = d.length := by omega
      have hb : badTo d d.length = false := badTo_no.2 hok
      have hlin := cosTo_lin (d := d) (m := m)
      refine z_tas
      refine c_loop (X := Nat) (fun i => i ≤ d.length ∧ cosTo d.length (sumTo d d.length) m d i ≤ 4611686018427387904) (fun i => [(1, .int .i64 m), (6, .int .i64 d.length), (7, .int .i64 (sumTo d d.length)), (10, .int .i64 (cosTo d.length (sumTo d d.length) m d i)), (43, .slice A d.length c), (44, .int .i64 d.length), (45, .int .i64 i)])
        (fun i => []) (fun i => d.length - i) 0 ⟨by omega, by show (0 : Int) ≤ _; omega⟩ ⟨rfl, rfl, rfl, rfl, rfl, rfl, rfl, trivial⟩ Sub.au ?_
      rintro i ⟨hi, hci⟩
      have hnn := cosTo_nn d.length (sumTo d d.length) m d i
      rcases Nat.lt_or_ge i d.length with h | h
      · obtain ⟨bL, oL, rfl, hL⟩ := hr.at_ (by omega : 0 < d.length)
        have hx := hok i h
        have hd := difX_in (m := m) (by omega) hok h
        have hst : cosTo d.length (sumTo d d.length) m d (i + 1) = cosTo d.length (sumTo d d.length) m d i + terX m (difX d.length (sumTo d d.length) m (d.getD i 0)) := rfl
        have hmono := cosTo_le (n := d.length) (s := sumTo d d.length) (m := m) (d := d) (show i + 1 ≤ d.length from h)
        have hl1 : m = 0 ∨ m = 2 → cosTo d.length (sumTo d d.length) m d (i + 1) ≤ 4611686018427387904 := fun h2 => by
          have := cosTo_lin h2 (by omega) hok (i + 1) h
          omega
        have hnx := mulB 64 8388608 (a := (d.length : Int)) (b := d.getD i 0) (by omega) (by omega)
        generalize hcI : cosTo d.length (sumTo d d.length) m d i = cI at *
        generalize hcJ : cosTo d.length (sumTo d d.length) m d (i + 1) = cJ at *
        have hsq := sq_in hd
        unfold difX at hd hst hsq
        obtain rfl | rfl | rfl | rfl : m = 0 ∨ m = 1 ∨ m = 2 ∨ m = 3 := by omega
        · rw [if_neg (by decide)] at hd hst hsq
          have hl2 := hl1 (by omega)
          have ht : terX 0 (d.getD i 0) = max (d.getD i 0) (-(d.getD i 0)) := by unfold terX; rw [if_pos (by decide)]; split <;> omega
          rw [ht] at hst
          refine z_tas
          all_goals exact c_round (i + 1) ⟨h, by rw [hcJ]; omega⟩ (by show d.length - (i + 1) < d.length - i; omega) ⟨rfl, rfl, rfl, by simp only [look, List.lookup, Nat.beq]; rw [hcJ, hst], rfl, rfl, by simp [look], trivial⟩ Sub.au
        · rw [if_neg (by decide)] at hd hst hsq
          have ht : terX 1 (d.getD i 0) = d.getD i 0 * d.getD i 0 := by unfold terX; rw [if_neg (by decide)]
          rw [ht] at hst
          have iM : CV Tryz.prog 56 [.int .i64 (d.getD i 0), .int .i64 (d.getD i 0)] (.agg #[.int .i64 0, .int .u64 (d.getD i 0 * d.getD i 0)]) True := ⟨fun _ w => by
            have := (mulW_any (d.getD i 0) (d.getD i 0)).h ⟨by show -9223372036854775808 ≤ _ ∧ _ ≤ 9223372036854775807; omega, by show -9223372036854775808 ≤ _ ∧ _ ≤ 9223372036854775807; omega⟩ w
            unfold wideV at this
            rw [show d.getD i 0 * d.getD i 0 / 18446744073709551616 = 0 by omega, show d.getD i 0 * d.getD i 0 % 18446744073709551616 = d.getD i 0 * d.getD i 0 by omega] at this
            exact this⟩
          generalize d.getD i 0 * d.getD i 0 = q at *
          refine z_tas
          · rw [f3 hok (by omega)]
            exact j_out2 rfl rfl rfl (.nil _) ⟨rfl, rfl⟩
          · exact c_round (i + 1) ⟨h, by rw [hcJ]; omega⟩ (by show d.length - (i + 1) < d.length - i; omega) ⟨rfl, rfl, rfl, by simp only [look, List.lookup, Nat.beq]; rw [hcJ, hst], rfl, rfl, by simp [look], trivial⟩ Sub.au
        · rw [if_pos (by decide)] at hd hst hsq
          have hl2 := hl1 (by omega)
          have ht : terX 2 ((d.length : Int) * d.getD i 0 - sumTo d d.length) = max ((d.length : Int) * d.getD i 0 - sumTo d d.length) (-((d.length : Int) * d.getD i 0 - sumTo d d.length)) := by unfold terX; rw [if_pos (by decide)]; split <;> omega
          rw [ht] at hst
          refine z_tas
          all_goals exact c_round (i + 1) ⟨h, by rw [hcJ]; omega⟩ (by show d.length - (i + 1) < d.length - i; omega) ⟨rfl, rfl, rfl, by simp only [look, List.lookup, Nat.beq]; rw [hcJ, hst], rfl, rfl, by simp [look], trivial⟩ Sub.au
        · rw [if_pos (by decide)] at hd hst hsq
          have ht : terX 3 ((d.length : Int) * d.getD i 0 - sumTo d d.length) = ((d.length : Int) * d.getD i 0 - sumTo d d.length) * ((d.length : Int) * d.getD i 0 - sumTo d d.length) := by unfold terX; rw [if_neg (by decide)]
          rw [ht] at hst
          have iM : CV Tryz.prog 56 [.int .i64 ((d.length : Int) * d.getD i 0 - sumTo d d.length), .int .i64 ((d.length : Int) * d.getD i 0 - sumTo d d.length)] (.agg #[.int .i64 0, .int .u64 (((d.length : Int) * d.getD i 0 - sumTo d d.length) * ((d.length : Int) * d.getD i 0 - sumTo d d.length))]) True := ⟨fun _ w => by
            generalize (d.length : Int) * d.getD i 0 - sumTo d d.length = y at *
            have := (mulW_any y y).h ⟨by show -9223372036854775808 ≤ _ ∧ _ ≤ 9223372036854775807; omega, by show -9223372036854775808 ≤ _ ∧ _ ≤ 9223372036854775807; omega⟩ w
            unfold wideV at this
            rw [show y * y / 18446744073709551616 = 0 by omega, show y * y % 18446744073709551616 = y * y by omega] at this
            exact this⟩
          generalize ((d.length : Int) * d.getD i 0 - sumTo d d.length) * ((d.length : Int) * d.getD i 0 - sumTo d d.length) = q at *
          refine z_tas
          · rw [f3 hok (by omega)]
            exact j_out2 rfl rfl rfl (.nil _) ⟨rfl, rfl⟩
          · exact c_round (i + 1) ⟨h, by rw [hcJ]; omega⟩ (by show d.length - (i + 1) < d.length - i; omega) ⟨rfl, rfl, rfl, by simp only [look, List.lookup, Nat.beq]; rw [hcJ, hst], rfl, rfl, by simp [look], trivial⟩ Sub.au
      · obtain rfl : i = d.length := by omega
        rw [f4 hok (by omega)]
        refine z_tas
        exact j_out2 rfl rfl rfl (.nil _) ⟨rfl, rfl⟩
end Go.Proofs.YtemmnpgebpffbaaGreat
/- Package terrain: Spot, Metres, within. -/
namespace Go.Proofs.YtemmnpgebpffbaaGreat
open Go.RowKit
def Far40 (x : Int) : Prop := x < -1099511627776 ∨ 1099511627776 < x
instance (x : Int) : Decidable (Far40 x) := by unfold Far40; infer_instance
attribute [local irreducible] OJ J HdJ Code.wpIn wpListIn Oper.wpIn bodyPost CallsIn Does
set_option maxRecDepth 4000
end Go.Proofs.YtemmnpgebpffbaaGreat
/- Package terrain: Rough. -/
namespace Go.Proofs.YtemmnpgebpffbaaGreat
open Go.RowKit
def sumZ : List Int → Int
  | [] => 0
  | x :: r => x + sumZ r
def sqZ : List Int → Int
  | [] => 0
  | x :: r => x * x + sqZ r
theorem sumZ_app : ∀ a b : List Int, sumZ (a ++ b) = sumZ a + sumZ b
  | [], b => by simp [sumZ]
  | x :: r, b => by rw [List.cons_append, sumZ, sumZ, sumZ_app r b]; omega
theorem sqZ_app : ∀ a b : List Int, sqZ (a ++ b) = sqZ a + sqZ b
  | [], b => by simp [sqZ]
  | x :: r, b => by rw [List.cons_append, sqZ, sqZ, sqZ_app r b]; omega
theorem sum_in : ∀ l : List Int, (∀ z ∈ l, -32768 ≤ z ∧ z ≤ 32767) → (-(32768 * (l.length : Int)) ≤ sumZ l ∧ sumZ l ≤ 32768 * (l.length : Int)) ∧ 0 ≤ sqZ l ∧ sqZ l ≤ 1073741824 * (l.length : Int)
  | [], _ => by simp [sumZ, sqZ]
  | x :: r, h => by
    have h1 := sum_in r fun z hz => h z (List.mem_cons_of_mem _ hz)
    have h2 := h x (List.mem_cons_self ..)
    have h3 := mulB 32768 32768 (a := x) (b := x) (by omega) (by omega)
    have h4 : 0 ≤ x * x := by
      rcases Int.lt_or_le x 0 with h | h
      · exact Int.le_of_lt (Int.mul_pos_of_neg_of_neg h h)
      · exact Int.mul_nonneg h h
    simp only [sumZ, sqZ, List.length_cons]
    push_cast
    omega
def wiF (x d : Int) : Int := if x < -1000 ∨ 1000 < x then -1 else x + d
def hAt (W H : Nat) (f : List Int) (x y dx dy : Int) : List Int := if (heightF W H f (wiF x dx) (wiF y dy)).2 = 0 then [(heightF W H f (wiF x dx) (wiF y dy)).1] else []
/-- The heights of a row of a square; of all its rows. -/
def rowH (W H : Nat) (f : List Int) (x y : Int) (far : Nat) (dy : Int) : Nat → List Int
  | 0 => []
  | j + 1 => rowH W H f x y far dy j ++ hAt W H f x y ((j : Int) - far) dy
def allH (W H : Nat) (f : List Int) (x y : Int) (far : Nat) : Nat → List Int
  | 0 => []
  | i + 1 => allH W H f x y far i ++ rowH W H f x y far ((i : Int) - far) (2 * far + 1)
theorem hAt_in {W H : Nat} {f : List Int} (hf : In16 f) (x y dx dy : Int) : (hAt W H f x y dx dy).length ≤ 1 ∧ ∀ z ∈ hAt W H f x y dx dy, -32768 ≤ z ∧ z ≤ 32767 := by
  unfold hAt
  split
  · exact ⟨Nat.le_refl _, fun z hz => by rw [List.mem_singleton.1 hz]; exact heightF_in hf _ _⟩
  · exact ⟨Nat.zero_le _, fun z hz => by cases hz⟩
theorem rowH_in {W H : Nat} {f : List Int} (hf : In16 f) (x y : Int) (far : Nat) (dy : Int) : ∀ j, (rowH W H f x y far dy j).length ≤ j ∧ ∀ z ∈ rowH W H f x y far dy j, -32768 ≤ z ∧ z ≤ 32767
  | 0 => ⟨Nat.le_refl _, fun z hz => by cases hz⟩
  | j + 1 => by
    obtain ⟨h1, h2⟩ := rowH_in hf (W := W) (H := H) x y far dy j
    obtain ⟨h3, h4⟩ := hAt_in hf (W := W) (H := H) x y ((j : Int) - far) dy
    rw [rowH]
    refine ⟨by rw [List.length_append]; omega, fun z hz => ?_⟩
    rcases List.mem_append.1 hz with h | h
    · exact h2 z h
    · exact h4 z h
theorem allH_in {W H : Nat} {f : List Int} (hf : In16 f) (x y : Int) {far : Nat} (hfar : far ≤ 8) : ∀ i, (allH W H f x y far i).length ≤ 17 * i ∧ ∀ z ∈ allH W H f x y far i, -32768 ≤ z ∧ z ≤ 32767
  | 0 => ⟨Nat.le_refl _, fun z hz => by cases hz⟩
  | i + 1 => by
    obtain ⟨h1, h2⟩ := allH_in hf (W := W) (H := H) x y hfar i
    obtain ⟨h3, h4⟩ := rowH_in hf (W := W) (H := H) x y far ((i : Int) - far) (2 * far + 1)
    rw [allH]
    refine ⟨by rw [List.length_append]; omega, fun z hz => ?_⟩
    rcases List.mem_append.1 hz with h | h
    · exact h2 z h
    · exact h4 z h
theorem lfc {F : Fence} {n : Nat} {P : Program} {N : Nat} {ds : List Deferred} {w0 : World} {W : Nat → Prop} {σ : List (Nat × Value)} {H R S : List HE} {Q : Exit → Act → World → Prop} {ops : Array Oper} {rest : List Oper} {d : Nat} {ty : TypeId} {pos : String} {aft : Array Edge} {gd : Option (Nat × Bool)} {us : List Value} {Rl : Value → List HE → Prop} [Wide F] [WF F] {x : Operand} {f : FuncId} {captured : Array Value} {args : Array Operand} {ts : Array TypeId} [Cl P f]
    (hw : wantd ops σ ⟨some d, .call ⟨.value x, args, ts⟩, ty, pos, aft, gd⟩ = some true) (hx : ev σ x = some (.func (.func f) #[] captured)) (hv : vals σ args.toList = some us) (hdN : Nat.blt d N = true)
    (hc : ∀ w, St w0 W H w → Own S w → Does P f (us ++ captured.toList) S w Rl) [hs : SplitC H S R] (h : ∀ v S', Rl v S' → J N ds w0 W ((d, v) :: σ) (S' ++ R) (wpListIn F n P ops Q rest)) :
    J N ds w0 W σ H (wpListIn F n P ops Q (⟨some d, .call ⟨.value x, args, ts⟩, ty, pos, aft, gd⟩ :: rest)) :=
  l_run hw (o_call hx hv hs.h hc fun v S' hr a w ha hw => h v S' hr _ _ (ha.put d v (by simpa using hdN)) hw)
/-- The three sums. -/
@[reducible] def sumsE (bs bq bn : Nat) (L : List Int) : List HE := [.blk bs 2 [.int .i64 (sumZ L)], .blk bq 2 [.int .i64 (sqZ L)], .blk bn 2 [.int .i64 (L.length : Nat)]]
/-- What the walk over a square captures. -/
@[reducible] def rgE (K : CaT) (bf bc bx by' far : Nat) (x y : Int) (T : List HE) : List HE := .blk bf 3 [.int .i64 far] :: .blk bc 36 [.pointer (some ⟨K.g, 0, none⟩)] :: .blk bx 3 [.int .i64 x] :: .blk by' 3 [.int .i64 y] :: T
set_option maxRecDepth 4000
end Go.Proofs.YtemmnpgebpffbaaGreat
/- Package terrain: Rough. -/
namespace Go.Proofs.YtemmnpgebpffbaaGreat
open Go.RowKit
def roughE (L : List Int) : Int := (sqZ L * (L.length : Nat) - sumZ L * sumZ L) * 16 * 16
def roughX (L : List Int) : Nat := (IntKind.u64.wrap (IntKind.i64.wrap ((roughE L).tdiv ((L.length : Nat) * (L.length : Nat))))).toNat
def roughR (L : List Int) : Int × Int := if L.length = 0 then (0, 0) else (((isq (roughX L) : Nat) : Int), ((L.length : Nat) : Int))
theorem roughX_eq (L : List Int) : IntKind.u64.wrap (IntKind.i64.wrap ((roughE L).tdiv ((L.length : Nat) * (L.length : Nat)))) = ((roughX L : Nat) : Int) ∧ roughX L < 18446744073709551616 := by
  unfold roughX
  generalize IntKind.i64.wrap ((roughE L).tdiv ((L.length : Nat) * (L.length : Nat))) = t
  rw [IntKind.wrap_u64]
  omega
theorem isq_lt {x : Nat} (h : x < 18446744073709551616) : isq x < 4294967296 := by
  rcases Nat.lt_or_ge (isq x) 4294967296 with h1 | h1
  · exact h1
  · have := Nat.mul_le_mul h1 h1
    have := (isq_spec x).1
    omega
/-- The heights of a square around a cell. -/
def sqH (W H : Nat) (f : List Int) (x y far : Int) : List Int := allH W H f x y (min (max far 0) 8).toNat (2 * (min (max far 0) 8).toNat + 1)
theorem rough_in {L : List Int} (h : ∀ z ∈ L, -32768 ≤ z ∧ z ≤ 32767) (hl : L.length ≤ 289) : (0 ≤ sqZ L * (L.length : Nat) ∧ sqZ L * (L.length : Nat) ≤ 90000000000000) ∧ (0 ≤ sumZ L * sumZ L ∧ sumZ L * sumZ L ≤ 90000000000000) ∧ (0 ≤ ((L.length : Nat) : Int) * (L.length : Nat) ∧ ((L.length : Nat) : Int) * (L.length : Nat) ≤ 83521) := by
  obtain ⟨⟨h1, h2⟩, h3, h4⟩ := sum_in L h
  have m1 := mulB 310311387136 289 (a := sqZ L) (b := (L.length : Nat)) (by omega) (by omega)
  have m2 := mulB 9469952 9469952 (a := sumZ L) (b := sumZ L) (by omega) (by omega)
  have m3 := mulB 289 289 (a := (L.length : Nat)) (b := (L.length : Nat)) (by omega) (by omega)
  have p1 : 0 ≤ sqZ L * (L.length : Nat) := Int.mul_nonneg h3 (by omega)
  have p2 : 0 ≤ sumZ L * sumZ L := by
    rcases Int.lt_or_le (sumZ L) 0 with h | h
    · exact Int.le_of_lt (Int.mul_pos_of_neg_of_neg h h)
    · exact Int.mul_nonneg h h
  have p3 : 0 ≤ ((L.length : Nat) : Int) * (L.length : Nat) := Int.mul_nonneg (by omega) (by omega)
  omega
attribute [local irreducible] OJ J HdJ Code.wpIn wpListIn Oper.wpIn bodyPost CallsIn Does
set_option maxRecDepth 4000
end Go.Proofs.YtemmnpgebpffbaaGreat
/- The reference of layer 11: places, heights. -/
namespace Go.Proofs.YtemmnpgebpffbaaGreat
open Go.RowKit
def corR (W H : Nat) (f : List Int) (X Y : Int) (i k : Nat) : Int × Int := if InsP W H X Y then heightF W H f (corX X i) (corX Y k) else (0, 9)
theorem tdiv_down {a b : Int} (hb : 0 < b) : (if a.tmod b < 0 then a.tdiv b - 1 else a.tdiv b) = a / b := by
  rcases Int.lt_or_le a 0 with h | h
  · obtain ⟨c, rfl⟩ : ∃ c, a = -c := ⟨-a, by omega⟩
    rw [Int.neg_tdiv, Int.neg_tmod, Int.tdiv_eq_ediv_of_nonneg (by omega), Int.tmod_eq_emod_of_nonneg (by omega)]
    have h1 := Int.mul_ediv_add_emod c b
    have h2 := Int.emod_nonneg c (by omega : b ≠ 0)
    have h3 := Int.emod_lt_of_pos c hb
    generalize c / b = q at *
    generalize c % b = r at *
    split
    · refine ((Int.ediv_emod_unique (r := b - r) (q := -q - 1) hb).2 ⟨?_, by omega, by omega⟩).1.symm
      rw [Int.mul_sub, Int.mul_neg]; omega
    · refine ((Int.ediv_emod_unique (r := 0) (q := -q) hb).2 ⟨?_, by omega, by omega⟩).1.symm
      rw [Int.mul_neg]; omega
  · rw [Int.tdiv_eq_ediv_of_nonneg h, Int.tmod_eq_emod_of_nonneg h, if_neg (by have := Int.emod_nonneg a (by omega : b ≠ 0); omega)]
attribute [local irreducible] OJ J HdJ Code.wpIn wpListIn Oper.wpIn bodyPost CallsIn Does
set_option maxRecDepth 4000
set_option maxHeartbeats 16000000 in
theorem down_any (a b : Int) (w : World) (ha : -4611686018427387904 ≤ a ∧ a ≤ 4611686018427387904) (hb : 0 < b ∧ b ≤ 4611686018427387904) : Does Tryz.prog 140 [.int .i64 a, .int .i64 b] [] w (fun v S' => v = .int .i64 (a / b) ∧ S' = []) := by
  have hq : -4611686018427387904 ≤ a.tdiv b ∧ a.tdiv b ≤ 4611686018427387904 := by
    have h1 := Int.natAbs_tdiv_le_natAbs a b
    omega
  have e := tdiv_down (a := a) hb.1
  refine does_of Tryz.func140 rfl Tryz.ntmps140 rfl ⟨by simp, .nil⟩ (fun n => ?_)
  simp only [slots]
  have iq : ∀ (w0 : World) (W : Nat → Prop) (H : List HE) (t u : TypeId) (p q : Operand), MS Tryz.prog w0 W H (.binOp .quo t p q u) [.int .i64 a, .int .i64 b] (.int .i64 (a.tdiv b)) True := fun w0 W H t u p q => ⟨fun _ _ _ _ _ _ _ _ _ _ _ _ _ _ h1 h2 h3 => (inferInstance : MW Tryz.prog w0 W H (.binOp .quo t p q u) [.int .i64 a, .int .i64 b] (.int .i64 (IntKind.i64.wrap (a.tdiv b))) (b ≠ 0)).h (by omega) h1 h2 (by rw [IntKind.wrap_i64, show (a.tdiv b + 9223372036854775808) % 18446744073709551616 - 9223372036854775808 = a.tdiv b by omega]; exact h3)⟩
  have ir : ∀ (w0 : World) (W : Nat → Prop) (H : List HE) (t u : TypeId) (p q : Operand), MS Tryz.prog w0 W H (.binOp .rem t p q u) [.int .i64 a, .int .i64 b] (.int .i64 (a.tmod b)) True := fun w0 W H t u p q => ⟨fun _ _ _ _ _ _ _ _ _ _ _ _ _ _ h1 h2 h3 => (inferInstance : MW Tryz.prog w0 W H (.binOp .rem t p q u) [.int .i64 a, .int .i64 b] (.int .i64 (a.tmod b)) (b ≠ 0)).h (by omega) h1 h2 h3⟩
  rcases Int.lt_or_le (a.tmod b) 0 with h | h
  · rw [if_pos h] at e
    rw [← e]
    refine z_tas
    all_goals first
      | exact j_out1 rfl rfl (.nil _) ⟨rfl, rfl⟩
      | (exfalso; omega)
  · rw [if_neg (by omega)] at e
    rw [← e]
    refine z_tas
    all_goals first
      | (exfalso; omega)
      | exact j_out1 rfl rfl (.nil _) ⟨rfl, rfl⟩
theorem near_any (a b : Int) (w : World) (ha : -1152921504606846976 ≤ a ∧ a ≤ 1152921504606846976) (hb : 0 < b ∧ b ≤ 1152921504606846976) : Does Tryz.prog 122 [.int .i64 a, .int .i64 b] [] w (fun v S' => v = .int .i64 ((2 * a + b) / (2 * b)) ∧ S' = []) := by
  refine does_of Tryz.func122 rfl Tryz.ntmps122 rfl ⟨by simp, .nil⟩ (fun n => ?_)
  simp only [slots]
  refine z_tas
  refine lfv rfl rfl rfl (fun w _ => down_any (2 * a + b) (2 * b) w (by omega) (by omega)) ?_
  refine z_tas
  exact j_out1 rfl rfl (.nil _) ⟨rfl, rfl⟩
set_option maxHeartbeats 16000000 in
theorem rinside_any (W H : Nat) (A : Option Addr) (m c : Nat) (X Y : Int) (w : World) (hm : 1 ≤ W ∧ W ≤ 1000000 ∧ 1 ≤ H ∧ H ≤ 1000000) :
    Does Tryz.prog 151 [.agg #[.int .i64 W, .int .i64 H, .slice A m c], .int .i64 X, .int .i64 Y] [] w (fun v S' => v = .bool (decide (InsP W H X Y)) ∧ S' = []) := by
  refine does_of Tryz.func151 rfl Tryz.ntmps151 rfl ⟨by simp, .nil⟩ (fun n => ?_)
  simp only [slots]
  refine z_tas
  all_goals exact j_out1 rfl rfl (.nil _) ⟨congrArg Value.bool (by rw [Bool.eq_iff_iff]; simp only [decide_eq_true_eq, Bool.and_eq_true, Bool.false_eq_true, false_iff]; unfold InsP; omega), rfl⟩
set_option maxHeartbeats 16000000 in
theorem rcorner_any (W H : Nat) (A : Option Addr) (c : Nat) (f : List Int) (X Y : Int) (i k : Nat) (w : World) (hr : RoA w (blocks []) A f.length c 1 (ints .i16 f)) (hW : 1 ≤ W ∧ W ≤ 256 ∧ 1 ≤ H ∧ H ≤ 256) (hz : f.length = W * H) (hf : In16 f) (hik : i ≤ 1 ∧ k ≤ 1) :
    Does Tryz.prog 139 [.agg #[.int .i64 W, .int .i64 H, .slice A f.length c], .int .i64 X, .int .i64 Y, .int .i64 i, .int .i64 k] [] w (fun v S' => v = .tuple #[.int .i64 (corR W H f X Y i k).1, .int .i64 (corR W H f X Y i k).2] ∧ S' = []) := by
  refine does_of Tryz.func139 rfl Tryz.ntmps139 rfl ⟨by simp, .nil⟩ (fun n => ?_)
  simp only [slots]
  refine z_tas
  refine lfv rfl rfl rfl (fun w _ => rinside_any W H A f.length c X Y w (by omega)) ?_
  by_cases hI : InsP W H X Y
  · rw [decide_eq_true hI, show corR W H f X Y i k = heightF W H f (corX X i) (corX Y k) from if_pos hI]
    have hI2 := hI
    unfold InsP at hI2
    have hci := heightF_in (W := W) (H := H) hf (corX X i) (corX Y k)
    refine z_tas
    all_goals
      refine j_set 34 _ rfl (v' := .int .i64 (corX X i)) (congrArg (Value.int .i64) (by unfold corX; first | rw [if_pos (by assumption)] | rw [if_neg (by assumption)])) ?_
      refine j_set 38 _ rfl (v' := .int .i64 (corX Y k)) (congrArg (Value.int .i64) (by unfold corX; first | rw [if_pos (by assumption)] | rw [if_neg (by assumption)])) ?_
      refine lfv rfl rfl rfl (fun w hw => rheight_any W H A c f (corX X i) (corX Y k) w ⟨hr.h.go hw (Split.nil _)⟩ hW hz) ?_
      refine z_tas
      exact j_out2 rfl rfl rfl (.nil _) ⟨rfl, rfl⟩
  · rw [decide_eq_false hI, show corR W H f X Y i k = (0, 9) from if_neg hI]
    refine z_tas
    exact j_out2 rfl rfl rfl (.nil _) ⟨rfl, rfl⟩
theorem corR_in {W H : Nat} {f : List Int} {X Y : Int} (hI : InsP W H X Y) (i : Nat) : corR W H f X Y (i % 2) (i / 2) = corH W H f X Y i := if_pos hI
theorem corR_bd {W H : Nat} {f : List Int} (hf : In16 f) (X Y : Int) (i k : Nat) : -32768 ≤ (corR W H f X Y i k).1 ∧ (corR W H f X Y i k).1 ≤ 32767 := by
  unfold corR
  split
  · exact heightF_in hf _ _
  · exact ⟨by decide, by decide⟩
set_option maxHeartbeats 16000000 in
theorem rcode_any (W H : Nat) (A : Option Addr) (c : Nat) (f : List Int) (X Y : Int) (w : World) (hr : RoA w (blocks []) A f.length c 1 (ints .i16 f)) (hW : 1 ≤ W ∧ W ≤ 256 ∧ 1 ≤ H ∧ H ≤ 256) (hz : f.length = W * H) (hf : In16 f) :
    Does Tryz.prog 121 [.agg #[.int .i64 W, .int .i64 H, .slice A f.length c], .int .i64 X, .int .i64 Y] [] w (fun v S' => v = .int .i64 (codeF W H f X Y) ∧ S' = []) := by
  refine does_of Tryz.func121 rfl Tryz.ntmps121 rfl ⟨by simp, .nil⟩ (fun n => ?_)
  simp only [slots]
  refine z_tas
  rename_i b3
  refine c_loop (X := Nat) (fun i => i ≤ 4 ∧ (0 < i → InsP W H X Y) ∧ codeT W H f X Y i = 0 ∨ i = 0) (fun i => [(1, .int .i64 X), (2, .int .i64 Y), (3, .pointer (some ⟨b3, 0, none⟩)), (7, .int .i64 i)])
    (fun _ => [.blk b3 31 [.int .i64 W, .int .i64 H, .slice A f.length c]]) (fun i => 4 - i) 0 (.inr rfl) ⟨rfl, rfl, rfl, rfl, trivial⟩ Sub.au ?_
  intro i hi0
  have hi : i ≤ 4 ∧ (0 < i → InsP W H X Y) ∧ codeT W H f X Y i = 0 := by
    rcases hi0 with h | rfl
    · exact h
    · exact ⟨by omega, fun h => by omega, rfl⟩
  obtain ⟨h4, hin, hc0⟩ := hi
  rcases Nat.lt_or_ge i 4 with h | h
  · have e1 : ((i : Int) % 2) = ((i % 2 : Nat) : Int) := by omega
    have e2 : ((i : Int) / 2) = ((i / 2 : Nat) : Int) := by omega
    refine z_tas
    rw [e1, e2]
    refine lfv rfl rfl rfl (fun w hw => rcorner_any W H A c f X Y (i % 2) (i / 2) w ⟨hr.h.go hw (Split.nil _)⟩ hW hz hf (by omega)) ?_
    refine z_gox
    refine c_if rfl ?_ ?_ <;> intro h9
    · have e5 : codeF W H f X Y = (corR W H f X Y (i % 2) (i / 2)).2 := by
        by_cases hI : InsP W H X Y
        · rw [corR_in hI] at h9 ⊢
          have ec : codeT W H f X Y (i + 1) = (corH W H f X Y i).2 := by rw [codeT, if_neg (by rw [hc0]; simp)]
          have e4 := codeT_stop (k := 3 - i) (by rw [ec]; exact h9)
          rw [show i + 1 + (3 - i) = 4 by omega, ec] at e4
          unfold codeF; rw [if_pos hI, e4]
        · rw [show corR W H f X Y (i % 2) (i / 2) = (0, 9) from if_neg hI]
          exact if_neg hI
      rw [e5]
      refine z_tas
      exact j_out1 rfl rfl (.nil _) ⟨rfl, rfl⟩
    · have hI : InsP W H X Y := by
        by_cases hI : InsP W H X Y
        · exact hI
        · rw [show corR W H f X Y (i % 2) (i / 2) = (0, 9) from if_neg hI] at h9; exact absurd (by decide) h9
      refine z_tas
      exact c_round (i + 1) (.inl ⟨h, fun _ => hI, by rw [codeT, if_neg (by rw [hc0]; simp), ← corR_in hI]; exact Classical.not_not.1 h9⟩) (by show 4 - (i + 1) < 4 - i; omega) ⟨rfl, rfl, rfl, by simp [look], trivial⟩ Sub.au
  · obtain rfl : i = 4 := by omega
    rw [show codeF W H f X Y = 0 by unfold codeF; rw [if_pos (hin (by omega)), hc0]]
    refine z_tas
    exact j_out1 rfl rfl (.nil _) ⟨rfl, rfl⟩
end Go.Proofs.YtemmnpgebpffbaaGreat
/- The reference of layer 11: the ground, how steep it is, places. -/
namespace Go.Proofs.YtemmnpgebpffbaaGreat
open Go.RowKit
def wt (x : Int) (i : Nat) : Int := if i = 0 then 256 - x % 256 else x % 256
def exT (W H : Nat) (f : List Int) (X Y : Int) : Nat → Int
  | 0 => 0
  | i + 1 => exT W H f X Y i + (corR W H f X Y (i % 2) (i / 2)).1 * wt X (i % 2) * wt Y (i / 2)
theorem exT_eq {W H : Nat} {f : List Int} {X Y : Int} (h : codeF W H f X Y = 0) : exT W H f X Y 4 = exL (fourF W H f X Y) (X % 256) (Y % 256) := by
  have hI : InsP W H X Y := by
    unfold codeF at h
    split at h
    · assumption
    · exact absurd h (by decide)
  have e : fourF W H f X Y = [(corH W H f X Y 0).1, (corH W H f X Y 1).1, (corH W H f X Y 2).1, (corH W H f X Y 3).1] := by unfold fourF; rw [if_pos h]; rfl
  rw [e]
  simp only [exT, exL, exF, wt, corR_in hI]
  simp only [Nat.zero_mod, Nat.zero_div, if_true, show 1 % 2 = 1 from rfl, show 1 / 2 = 0 from rfl, show 2 % 2 = 0 from rfl, show 2 / 2 = 1 from rfl, show 3 % 2 = 1 from rfl, show 3 / 2 = 1 from rfl, show ((1 : Nat) = 0) = False from by simp, if_false]
  rw [Int.add_mul, Int.add_mul]
  omega
theorem wt_in (x : Int) (i : Nat) : 0 ≤ wt x i ∧ wt x i ≤ 256 := by unfold wt; split <;> omega
theorem exT_in {W H : Nat} {f : List Int} (hf : In16 f) (X Y : Int) : ∀ i : Nat, -(2147483648 * (i : Int)) ≤ exT W H f X Y i ∧ exT W H f X Y i ≤ 2147483648 * (i : Int)
  | 0 => by simp [exT]
  | i + 1 => by
    have h1 := exT_in hf (W := W) (H := H) X Y i
    have h2 := corR_bd hf (W := W) (H := H) X Y (i % 2) (i / 2)
    have h3 := wt_in X (i % 2)
    have h4 := wt_in Y (i / 2)
    have m1 := mulB 32768 256 (a := (corR W H f X Y (i % 2) (i / 2)).1) (b := wt X (i % 2)) (by omega) (by omega)
    have m2 := mulB 8388608 256 (a := (corR W H f X Y (i % 2) (i / 2)).1 * wt X (i % 2)) (b := wt Y (i / 2)) (by omega) (by omega)
    rw [exT]
    push_cast
    omega
theorem wrap3 {e c a b : Int} (h1 : InR .i64 (c * a)) (h2 : InR .i64 (c * a * b)) (h3 : InR .i64 (e + c * a * b)) : IntKind.i64.wrap (e + IntKind.i64.wrap (IntKind.i64.wrap (c * a) * b)) = e + c * a * b := by
  rw [wrap_in h1, wrap_in h2, wrap_in h3]
attribute [local irreducible] OJ J HdJ Code.wpIn wpListIn Oper.wpIn bodyPost CallsIn Does
set_option maxRecDepth 4000
set_option maxHeartbeats 16000000 in
theorem rexact_any (W H : Nat) (A : Option Addr) (c : Nat) (f : List Int) (X Y : Int) (w : World) (hr : RoA w (blocks []) A f.length c 1 (ints .i16 f)) (hW : 1 ≤ W ∧ W ≤ 256 ∧ 1 ≤ H ∧ H ≤ 256) (hz : f.length = W * H) (hf : In16 f) (hX : (0 ≤ X ∧ X ≤ 65536) ∧ (0 ≤ Y ∧ Y ≤ 65536)) :
    Does Tryz.prog 123 [.agg #[.int .i64 W, .int .i64 H, .slice A f.length c], .int .i64 X, .int .i64 Y] [] w (fun v S' => v = .int .i64 (exT W H f X Y 4) ∧ S' = []) := by
  refine does_of Tryz.func123 rfl Tryz.ntmps123 rfl ⟨by simp, .nil⟩ (fun n => ?_)
  simp only [slots]
  refine z_tas
  rename_i b3
  refine c_loop (X := Nat) (fun i => i ≤ 4) (fun i => [(1, .int .i64 X), (2, .int .i64 Y), (3, .pointer (some ⟨b3, 0, none⟩)), (7, .int .i64 (exT W H f X Y i)), (8, .int .i64 i)])
    (fun _ => [.blk b3 31 [.int .i64 W, .int .i64 H, .slice A f.length c]]) (fun i => 4 - i) 0 (by omega) ⟨rfl, rfl, rfl, rfl, rfl, trivial⟩ Sub.au ?_
  intro i hi
  rcases Nat.lt_or_ge i 4 with h | h
  · have e1 : ((i : Int) % 2) = ((i % 2 : Nat) : Int) := by omega
    have e2 : ((i : Int) / 2) = ((i / 2 : Nat) : Int) := by omega
    have h1 := exT_in hf (W := W) (H := H) X Y i
    have h2 := corR_bd hf (W := W) (H := H) X Y (i % 2) (i / 2)
    have h3 := wt_in X (i % 2)
    have h4 := wt_in Y (i / 2)
    have m1 := mulB 32768 256 (a := (corR W H f X Y (i % 2) (i / 2)).1) (b := wt X (i % 2)) (by omega) (by omega)
    have m2 := mulB 8388608 256 (a := (corR W H f X Y (i % 2) (i / 2)).1 * wt X (i % 2)) (b := wt Y (i / 2)) (by omega) (by omega)
    have ee : exT W H f X Y (i + 1) = exT W H f X Y i + (corR W H f X Y (i % 2) (i / 2)).1 * wt X (i % 2) * wt Y (i / 2) := rfl
    refine z_tas
    rw [e1, e2]
    refine lfv rfl rfl rfl (fun w hw => rcorner_any W H A c f X Y (i % 2) (i / 2) w ⟨hr.h.go hw (Split.nil _)⟩ hW hz hf (by omega)) ?_
    refine z_tas
    all_goals
      have w1 : wt X (i % 2) = if i % 2 = 0 then 256 - X % 256 else X % 256 := rfl
      have w2 : wt Y (i / 2) = if i / 2 = 0 then 256 - Y % 256 else Y % 256 := rfl
      first
        | rw [if_pos (by omega : i % 2 = 0)] at w1
        | rw [if_neg (by omega : ¬ i % 2 = 0)] at w1
      first
        | rw [if_pos (by omega : i / 2 = 0)] at w2
        | rw [if_neg (by omega : ¬ i / 2 = 0)] at w2
      rw [w1] at m1 m2 ee
      rw [w2] at m2 ee
      rw [wrap3 (by simp only [InR]; omega) (by simp only [InR]; omega) (by simp only [InR]; omega), ← ee]
      exact c_round (i + 1) (by show i + 1 ≤ 4; omega) (by show 4 - (i + 1) < 4 - i; omega) ⟨rfl, rfl, rfl, rfl, rfl, trivial⟩ Sub.au
  · obtain rfl : i = 4 := by omega
    refine z_tas
    exact j_out1 rfl rfl (.nil _) ⟨rfl, rfl⟩
set_option maxHeartbeats 16000000 in
theorem rheight11_any (W H : Nat) (A : Option Addr) (c : Nat) (f : List Int) (X Y : Int) (w : World) (hr : RoA w (blocks []) A f.length c 1 (ints .i16 f)) (hW : 1 ≤ W ∧ W ≤ 256 ∧ 1 ≤ H ∧ H ≤ 256) (hz : f.length = W * H) (hf : In16 f) :
    Does Tryz.prog 85 [.agg #[.int .i64 W, .int .i64 H, .slice A f.length c], .int .i64 X, .int .i64 Y] [] w (fun v S' => v = .tuple #[.int .i64 (heightT W H f X Y), .int .i64 (codeF W H f X Y)] ∧ S' = []) := by
  refine does_of Tryz.func85 rfl Tryz.ntmps85 rfl ⟨by simp, .nil⟩ (fun n => ?_)
  simp only [slots]
  refine z_tas
  refine lfv rfl rfl rfl (fun w hw => rcode_any W H A c f X Y w ⟨hr.h.go hw (Split.nil _)⟩ hW hz hf) ?_
  unfold heightT
  by_cases hc : codeF W H f X Y = 0
  · have hI : InsP W H X Y := by
      unfold codeF at hc
      split at hc
      · assumption
      · exact absurd hc (by decide)
    unfold InsP at hI
    rw [if_pos hc, hc]
    have he := exT_in hf (W := W) (H := H) X Y 4
    refine z_tas
    refine lfv rfl rfl rfl (fun w hw => rexact_any W H A c f X Y w ⟨hr.h.go hw (Split.nil _)⟩ hW hz hf (by omega)) ?_
    rw [exT_eq hc] at he ⊢
    refine z_tas
    refine lfv rfl rfl rfl (fun w _ => near_any _ 65536 w (by omega) (by omega)) ?_
    refine z_tas
    refine j_out2 rfl rfl rfl (.nil _) ⟨?_, rfl⟩
    rw [Int.mul_comm 16]
  · rw [if_neg hc]
    refine z_tas
    exact j_out2 rfl rfl rfl (.nil _) ⟨rfl, rfl⟩
end Go.Proofs.YtemmnpgebpffbaaGreat
/- The reference of layer 11: how rough the ground is. -/
namespace Go.Proofs.YtemmnpgebpffbaaGreat
open Go.RowKit
def hR (W H : Nat) (f : List Int) (a b : Int) : List Int := if (heightF W H f a b).2 = 0 then [(heightF W H f a b).1] else []
/-- The heights of a column of a square; of all its columns. -/
def colR (W H : Nat) (f : List Int) (y : Int) (far : Nat) (a : Int) : Nat → List Int
  | 0 => []
  | j + 1 => colR W H f y far a j ++ hR W H f a (y - far + j)
def sqR (W H : Nat) (f : List Int) (x y : Int) (far : Nat) : Nat → List Int
  | 0 => []
  | i + 1 => sqR W H f x y far i ++ colR W H f y far (x - far + i) (2 * far + 1)
theorem hR_at {W H : Nat} {f : List Int} {x y dx dy : Int} (hx : -1000 ≤ x ∧ x ≤ 1000) (hy : -1000 ≤ y ∧ y ≤ 1000) : hAt W H f x y dx dy = hR W H f (x + dx) (y + dy) := by
  unfold hAt hR wiF
  rw [if_neg (show ¬(x < -1000 ∨ 1000 < x) by omega), if_neg (show ¬(y < -1000 ∨ 1000 < y) by omega)]
/-- A sum over the first numbers. -/
def smI (φ : Nat → Int) : Nat → Int
  | 0 => 0
  | n + 1 => smI φ n + φ n
theorem smI_add (φ ψ : Nat → Int) : ∀ n, smI (fun i => φ i + ψ i) n = smI φ n + smI ψ n
  | 0 => rfl
  | n + 1 => by simp only [smI, smI_add φ ψ n]; omega
theorem smI_zero : ∀ n, smI (fun _ => 0) n = 0
  | 0 => rfl
  | n + 1 => by simp only [smI, smI_zero n]; omega
theorem smI_swap (φ : Nat → Nat → Int) (m : Nat) : ∀ n, smI (fun i => smI (fun j => φ i j) m) n = smI (fun j => smI (fun i => φ i j) n) m
  | 0 => by simp only [smI, smI_zero]
  | n + 1 => by simp only [smI, smI_swap φ m n, smI_add]
theorem smI_congr {φ ψ : Nat → Int} (h : ∀ i, φ i = ψ i) (n : Nat) : smI φ n = smI ψ n := by rw [show φ = ψ from funext h]
section
variable {W H : Nat} {f : List Int} {x y : Int} {μ : List Int → Int} (h0 : μ [] = 0) (ha : ∀ a b, μ (a ++ b) = μ a + μ b)
include h0 ha
theorem colR_sm (far : Nat) (a : Int) : ∀ j, μ (colR W H f y far a j) = smI (fun j => μ (hR W H f a (y - far + j))) j
  | 0 => h0
  | j + 1 => by rw [colR, ha, colR_sm far a j]; rfl
theorem sqR_sm (far : Nat) : ∀ i, μ (sqR W H f x y far i) = smI (fun i => smI (fun j => μ (hR W H f (x - far + i) (y - far + j))) (2 * far + 1)) i
  | 0 => h0
  | i + 1 => by rw [sqR, ha, sqR_sm far i, colR_sm h0 ha]; rfl
theorem rowH_sm (far : Nat) (dy : Int) : ∀ j, μ (rowH W H f x y far dy j) = smI (fun j => μ (hAt W H f x y ((j : Int) - far) dy)) j
  | 0 => h0
  | j + 1 => by rw [rowH, ha, rowH_sm far dy j]; rfl
theorem allH_sm (far : Nat) : ∀ i, μ (allH W H f x y far i) = smI (fun i => smI (fun j => μ (hAt W H f x y ((j : Int) - far) ((i : Int) - far))) (2 * far + 1)) i
  | 0 => h0
  | i + 1 => by rw [allH, ha, allH_sm far i, rowH_sm h0 ha]; rfl
theorem sq_same (hx : -1000 ≤ x ∧ x ≤ 1000) (hy : -1000 ≤ y ∧ y ≤ 1000) (far : Nat) : μ (sqR W H f x y far (2 * far + 1)) = μ (allH W H f x y far (2 * far + 1)) := by
  rw [sqR_sm h0 ha, allH_sm h0 ha, smI_swap]
  refine smI_congr (fun i => smI_congr (fun j => ?_) _) _
  rw [hR_at hx hy]
  congr 2 <;> omega
end
theorem rough_same {W H : Nat} {f : List Int} {x y : Int} (hx : -1000 ≤ x ∧ x ≤ 1000) (hy : -1000 ≤ y ∧ y ≤ 1000) (far : Nat) :
    sumZ (sqR W H f x y far (2 * far + 1)) = sumZ (allH W H f x y far (2 * far + 1)) ∧ sqZ (sqR W H f x y far (2 * far + 1)) = sqZ (allH W H f x y far (2 * far + 1)) ∧ (sqR W H f x y far (2 * far + 1)).length = (allH W H f x y far (2 * far + 1)).length := by
  refine ⟨sq_same rfl sumZ_app hx hy far, sq_same rfl sqZ_app hx hy far, ?_⟩
  have := sq_same (μ := fun l => ((l.length : Nat) : Int)) (W := W) (H := H) (f := f) rfl (fun a b => by simp) hx hy far
  omega
theorem rough_congr {a b : List Int} (h1 : sumZ a = sumZ b) (h2 : sqZ a = sqZ b) (h3 : a.length = b.length) : roughR a = roughR b := by
  unfold roughR roughX roughE
  rw [h1, h2, h3]
theorem hR_in {W H : Nat} {f : List Int} (hf : In16 f) (a b : Int) : (hR W H f a b).length ≤ 1 ∧ ∀ z ∈ hR W H f a b, -32768 ≤ z ∧ z ≤ 32767 := by
  unfold hR
  split
  · exact ⟨Nat.le_refl _, fun z hz => by rw [List.mem_singleton.1 hz]; exact heightF_in hf _ _⟩
  · exact ⟨Nat.zero_le _, fun z hz => by cases hz⟩
theorem colR_in {W H : Nat} {f : List Int} (hf : In16 f) (y : Int) (far : Nat) (a : Int) : ∀ j, (colR W H f y far a j).length ≤ j ∧ ∀ z ∈ colR W H f y far a j, -32768 ≤ z ∧ z ≤ 32767
  | 0 => ⟨Nat.le_refl _, fun z hz => by cases hz⟩
  | j + 1 => by
    obtain ⟨h1, h2⟩ := colR_in hf (W := W) (H := H) y far a j
    obtain ⟨h3, h4⟩ := hR_in hf (W := W) (H := H) a (y - far + j)
    rw [colR]
    refine ⟨by rw [List.length_append]; omega, fun z hz => ?_⟩
    rcases List.mem_append.1 hz with h | h
    · exact h2 z h
    · exact h4 z h
theorem sqR_in {W H : Nat} {f : List Int} (hf : In16 f) (x y : Int) {far : Nat} (hfar : far ≤ 8) : ∀ i, (sqR W H f x y far i).length ≤ 17 * i ∧ ∀ z ∈ sqR W H f x y far i, -32768 ≤ z ∧ z ≤ 32767
  | 0 => ⟨Nat.le_refl _, fun z hz => by cases hz⟩
  | i + 1 => by
    obtain ⟨h1, h2⟩ := sqR_in hf (W := W) (H := H) x y hfar i
    obtain ⟨h3, h4⟩ := colR_in hf (W := W) (H := H) y far (x - far + i) (2 * far + 1)
    rw [sqR]
    refine ⟨by rw [List.length_append]; omega, fun z hz => ?_⟩
    rcases List.mem_append.1 hz with h | h
    · exact h2 z h
    · exact h4 z h
theorem sqZ_take (l : List Int) (i : Nat) (h : i < l.length) : sqZ (l.take (i + 1)) = sqZ (l.take i) + l.getD i 0 * l.getD i 0 := by
  rw [List.take_succ_eq_append_getElem h, sqZ_app]
  simp [sqZ, List.getD, List.getElem?_eq_getElem h]
def roughQ (W H : Nat) (f : List Int) (x y far : Int) : Int × Int := if x < -1000 ∨ 1000 < x ∨ y < -1000 ∨ 1000 < y then (0, 0) else roughR (sqH W H f x y far)
attribute [local irreducible] OJ J HdJ Code.wpIn wpListIn Oper.wpIn bodyPost CallsIn Does
set_option maxRecDepth 4000
end Go.Proofs.YtemmnpgebpffbaaGreat
/- Layer 10, the plain law: which tiles are at hand. -/
namespace Go.Proofs.YtemmnpgebpffbaaGreat
abbrev tS (l : List Slt) (k : Nat) : Int := (l.getD k default).t
abbrev uS (l : List Slt) (k : Nat) : Int := (l.getD k default).u
/-- Slots, as they were used, the last one first. -/
structure Rel (room : Nat) (l : List Slt) (clock : Int) (ks : List Nat) : Prop where
  desc : ks.Pairwise fun a b => uS l b < uS l a
  lt : ∀ k ∈ ks, k < room ∧ 0 ≤ tS l k ∧ uS l k ≤ clock
  all : ∀ k, k < room → 0 ≤ tS l k → k ∈ ks
  dis : ∀ j k, j < room → k < room → 0 ≤ tS l j → tS l j = tS l k → j = k
theorem Rel.nodup {room : Nat} {l : List Slt} {clock : Int} {ks : List Nat} (h : Rel room l clock ks) : ks.Nodup := h.desc.imp fun h e => by subst e; omega
theorem pigeon : ∀ (n : Nat) (l : List Nat), l.Nodup → (∀ x ∈ l, x < n) → l.length ≤ n
  | 0, l, _, h => by
    cases l with
    | nil => exact Nat.le_refl _
    | cons x r => exact absurd (h x (List.mem_cons_self ..)) (by omega)
  | n + 1, l, hd, h => by
    have h1 := pigeon n (l.erase n) (hd.erase n) (fun x hx => by
      have h2 := h x (List.mem_of_mem_erase hx)
      have h3 : x ≠ n := fun e => by subst e; exact hd.not_mem_erase hx
      omega)
    have h4 : l.length ≤ (l.erase n).length + 1 := by
      rw [List.length_erase]; split <;> omega
    omega
theorem full_len {n : Nat} {l : List Nat} (h : ∀ x, x < n → x ∈ l) : n ≤ l.length := by
  have : ∀ (m : Nat) (l : List Nat), (∀ x, x < m → x ∈ l) → m ≤ l.length := by
    intro m
    induction m with
    | zero => intro l _; exact Nat.zero_le _
    | succ m ih =>
      intro l hl
      have hm := hl m (by omega)
      have h1 := ih (l.erase m) (fun x hx => (List.mem_erase_of_ne (by omega)).2 (hl x (by omega)))
      have h2 := List.length_erase_of_mem hm
      have h3 := List.length_pos_of_mem hm
      omega
  exact this n l h
theorem bestH_spec (l : List Slt) (last : Int) : ∀ i, ((∀ j, j < i → ¬ (0 ≤ tS l j ∧ uS l j < last)) ∧ bestH l last i = -1) ∨ ∃ b : Nat, bestH l last i = b ∧ b < i ∧ (0 ≤ tS l b ∧ uS l b < last) ∧ ∀ j, j < i → 0 ≤ tS l j ∧ uS l j < last → uS l j ≤ uS l b
  | 0 => .inl ⟨fun j hj => by omega, rfl⟩
  | i + 1 => by
    rw [bestH]
    rcases bestH_spec l last i with ⟨h1, h2⟩ | ⟨b, h1, h2, h3, h4⟩
    · rw [h2]
      split
      · rename_i h
        refine .inr ⟨i, rfl, by omega, ⟨h.1, h.2.1⟩, fun j hj hq => ?_⟩
        rcases Nat.lt_or_ge j i with h5 | h5
        · exact absurd hq (h1 j h5)
        · obtain rfl : j = i := by omega
          exact Int.le_refl _
      · rename_i h
        refine .inl ⟨fun j hj hq => ?_, rfl⟩
        rcases Nat.lt_or_ge j i with h5 | h5
        · exact h1 j h5 hq
        · obtain rfl : j = i := by omega
          exact h ⟨hq.1, hq.2, .inl (by omega)⟩
    · rw [h1, Int.toNat_natCast]
      split
      · rename_i h
        have hu : uS l b < uS l i := by
          rcases h.2.2 with h5 | h5
          · omega
          · exact h5
        refine .inr ⟨i, rfl, by omega, ⟨h.1, h.2.1⟩, fun j hj hq => ?_⟩
        rcases Nat.lt_or_ge j i with h5 | h5
        · have := h4 j h5 hq; omega
        · obtain rfl : j = i := by omega
          exact Int.le_refl _
      · rename_i h
        refine .inr ⟨b, rfl, by omega, h3, fun j hj hq => ?_⟩
        rcases Nat.lt_or_ge j i with h5 | h5
        · exact h4 j h5 hq
        · obtain rfl : j = i := by omega
          rcases Int.lt_or_le (uS l b) (uS l j) with h6 | h6
          · exact absurd ⟨hq.1, hq.2, .inr h6⟩ h
          · exact h6
theorem held_rel {room : Nat} {l : List Slt} {clock : Int} {ks : List Nat} (h : Rel room l clock ks) : ∀ (rest pre : List Nat) (last : Int) (m : Nat), ks = pre ++ rest → rest.length ≤ m → (∀ k ∈ pre, last ≤ uS l k) → (∀ k ∈ rest, uS l k < last) → heldN l room m last = rest.map (tS l)
  | [], pre, last, m, he, _, hp, _ => by
    cases m with
    | zero => rfl
    | succ m =>
      rcases bestH_spec l last room with ⟨-, h2⟩ | ⟨b, -, h2, h3, -⟩
      · rw [heldN, h2]; rfl
      · have hb := h.all b h2 h3.1
        rw [he, List.append_nil] at hb
        have := hp b hb
        omega
  | k :: r, pre, last, m, he, hm, hp, hr => by
    cases m with
    | zero => simp at hm
    | succ m =>
      have hk : k ∈ ks := by rw [he]; simp
      obtain ⟨hk1, hk2, -⟩ := h.lt k hk
      have hkl := hr k (List.mem_cons_self ..)
      have hd := h.desc
      rw [he] at hd
      have hd2 := List.pairwise_cons.1 (List.pairwise_append.1 hd).2.1
      rcases bestH_spec l last room with ⟨h1, -⟩ | ⟨b, h1, h2, h3, h4⟩
      · exact absurd ⟨hk2, hkl⟩ (h1 k hk1)
      · have hb := h.all b h2 h3.1
        have hub := h4 k hk1 ⟨hk2, hkl⟩
        obtain rfl : b = k := by
          rw [he] at hb
          rcases List.mem_append.1 hb with h5 | h5
          · have := hp b h5; omega
          · rcases List.mem_cons.1 h5 with h6 | h6
            · exact h6
            · have := hd2.1 b h6; omega
        rw [heldN, h1, if_neg (by omega), Int.toNat_natCast, List.map_cons]
        congr 1
        refine held_rel h r (pre ++ [b]) _ m (by rw [he]; simp) (by simp at hm; omega) (fun k hk => ?_) (fun k hk => hd2.1 k hk)
        rcases List.mem_append.1 hk with h5 | h5
        · have := hp k h5
          show uS l b ≤ uS l k
          omega
        · rw [List.mem_singleton.1 h5]; exact Int.le_refl _
theorem Rel.held {room : Nat} {l : List Slt} {clock : Int} {ks : List Nat} (h : Rel room l clock ks) : heldN l room room (clock + 1) = ks.map (tS l) :=
  held_rel h ks [] _ room rfl (pigeon room ks h.nodup fun x hx => (h.lt x hx).1) (fun k hk => (by cases hk)) (fun k hk => by have := (h.lt k hk).2.2; omega)
theorem useL_eq (L : List Int) (n : Int) : ∀ i, i ≤ L.length → useL L n i = n :: (L.take i).filter (fun x => decide (x ≠ n)) ∧ metB L n i = (L.take i).any fun x => decide (x = n)
  | 0, _ => by simp [useL, metB]
  | i + 1, hi => by
    obtain ⟨h1, h2⟩ := useL_eq L n i (by omega)
    have e : L.getD i 0 = L[i] := by simp [List.getD_eq_getElem?_getD, List.getElem?_eq_getElem (show i < L.length by omega)]
    rw [useL, metB, h1, h2, e, List.take_succ_eq_append_getElem (by omega), List.filter_append, List.any_append]
    constructor
    · split <;> rename_i h <;> simp [h]
    · simp
theorem useL_all (L : List Int) (n : Int) : useL L n L.length = n :: L.filter (fun x => decide (x ≠ n)) ∧ metB L n L.length = L.any fun x => decide (x = n) := by
  have := useL_eq L n L.length (Nat.le_refl _)
  rwa [List.take_length] at this
theorem oldTo_min (l : List Slt) : ∀ i, ∀ j, j < i → uS l (oldTo l i) ≤ uS l j
  | 0, j, h => by omega
  | i + 1, j, h => by
    rw [oldTo]
    rcases Nat.lt_or_ge j i with h1 | h1
    · have := oldTo_min l i j h1
      split
      · rename_i h2; have h3 : uS l i < uS l (oldTo l i) := h2; omega
      · exact this
    · obtain rfl : j = i := by omega
      split
      · exact Int.le_refl _
      · rename_i h2; exact Int.not_lt.1 h2
theorem set_other {l : List Slt} {k j : Nat} {s : Slt} (h : j ≠ k) : (l.set k s).getD j default = l.getD j default := by rw [List.getD_eq_getElem?_getD, List.getElem?_set_ne (fun e => h e.symm), List.getD_eq_getElem?_getD]
theorem Rel.zero {room : Nat} (hr : room ≤ 32) : Rel room (newTo room) 0 [] :=
  ⟨.nil, fun k hk => (by cases hk), fun k hk h => (by rw [show tS (newTo room) k = -1 from newTo_neg room hr k hk] at h; omega), fun j k hj _ h => by rw [show tS (newTo room) j = -1 from newTo_neg room hr j hj] at h; omega⟩
theorem Rel.next {ys : List Int} {room n k : Nat} {l l' : List Slt} {clock met miss met' miss' : Int} {ks : List Nat} (h : Rel room l clock ks) (hl : room ≤ l.length) (hk : k < room) (hg : GetsC ys l room clock met miss n k l' met' miss') :
    ∃ ks', Rel room l' (clock + 1) ks' ∧ ks'.map (tS l') = (useL (ks.map (tS l)) n (ks.map (tS l)).length).take room ∧ met' = (if metB (ks.map (tS l)) n (ks.map (tS l)).length then met + 1 else met) ∧ miss' = (if metB (ks.map (tS l)) n (ks.map (tS l)).length then miss else miss + 1) := by
  rw [(useL_all ..).1, (useL_all ..).2]
  have hks := pigeon room ks h.nodup fun x hx => (h.lt x hx).1
  -- slot k was used now, holds n; the others are as they were
  have key : ∀ (s : Slt) (ks1 : List Nat), l' = l.set k s → s.t = n → s.u = clock + 1 → (∀ j ∈ ks1, j ≠ k ∧ j ∈ ks) → ks1.Pairwise (fun a b => uS l b < uS l a) → (∀ j, j < room → j ≠ k → 0 ≤ tS l j → j ∈ ks1 ∧ tS l j ≠ n) → Rel room l' (clock + 1) (k :: ks1) ∧ (k :: ks1).map (tS l') = (n : Int) :: ks1.map (tS l) := by
    intro s ks1 e et eu h1 h2 h3
    have a1 : tS l' k = n := by show (l'.getD k default).t = n; rw [e, getD_set_self (by omega), et]
    have a2 : uS l' k = clock + 1 := by show (l'.getD k default).u = clock + 1; rw [e, getD_set_self (by omega), eu]
    have a3 : ∀ j, j ≠ k → l'.getD j default = l.getD j default := fun j hj => by rw [e]; exact set_other hj
    have a4 : ∀ j, j ≠ k → tS l' j = tS l j := fun j hj => congrArg Slt.t (a3 j hj)
    have a5 : ∀ j, j ≠ k → uS l' j = uS l j := fun j hj => congrArg Slt.u (a3 j hj)
    refine ⟨⟨List.pairwise_cons.2 ⟨fun j hj => ?_, ?_⟩, fun j hj => ?_, fun j hj ht => ?_, fun i j hi hj ht he => ?_⟩, ?_⟩
    · rw [a2, a5 j (h1 j hj).1]; have := (h.lt j (h1 j hj).2).2.2; omega
    · refine h2.imp_of_mem fun {a b} ha hb hab => ?_
      rw [a5 a (h1 a ha).1, a5 b (h1 b hb).1]; exact hab
    · rcases List.mem_cons.1 hj with rfl | hj
      · exact ⟨hk, by rw [a1]; omega, by rw [a2]; exact Int.le_refl _⟩
      · obtain ⟨b1, b2⟩ := h1 j hj
        obtain ⟨c1, c2, c3⟩ := h.lt j b2
        exact ⟨c1, by rw [a4 j b1]; exact c2, by rw [a5 j b1]; omega⟩
    · by_cases hjk : j = k
      · rw [hjk]; exact List.mem_cons_self ..
      · rw [a4 j hjk] at ht
        exact List.mem_cons_of_mem _ (h3 j hj hjk ht).1
    · by_cases hik : i = k <;> by_cases hjk : j = k
      · omega
      · subst hik
        rw [a1, a4 j hjk] at he
        exact absurd he.symm (h3 j hj hjk (by omega)).2
      · subst hjk
        rw [a1, a4 i hik] at he
        rw [a4 i hik] at ht
        exact absurd he (h3 i hi hik ht).2
      · rw [a4 i hik, a4 j hjk] at he
        rw [a4 i hik] at ht
        exact h.dis i j hi hj ht he
    · rw [List.map_cons, a1]
      congr 1
      exact List.map_congr_left fun j hj => a4 j (h1 j hj).1
  rcases hg with ⟨h1, -, h3, h4, h5⟩ | ⟨h0, hold, ⟨zs, -, h2⟩, h4, h5⟩
  · have hkm : k ∈ ks := h.all k hk (by show 0 ≤ (l.getD k default).t; omega)
    obtain ⟨r1, r2⟩ := key _ (ks.filter fun j => decide (j ≠ k)) h3 h1 rfl (fun j hj => by have := List.mem_filter.1 hj; exact ⟨by simpa using this.2, this.1⟩) (h.desc.filter _) (fun j hj hjk ht => ⟨List.mem_filter.2 ⟨h.all j hj ht, by simpa using hjk⟩, fun e => hjk (h.dis j k hj hk ht (e.trans h1.symm))⟩)
    have hany : ((ks.map (tS l)).any fun x => decide (x = (n : Int))) = true := List.any_eq_true.2 ⟨tS l k, List.mem_map_of_mem hkm, decide_eq_true h1⟩
    rw [hany, if_pos rfl, if_pos rfl]
    refine ⟨_, r1, ?_, h4, h5⟩
    have hlen : (k :: ks.filter fun j => decide (j ≠ k)).length ≤ room := pigeon room _ r1.nodup fun x hx => (r1.lt x hx).1
    have e2 : (ks.map (tS l)).filter (fun x => decide (x ≠ (n : Int))) = (ks.filter fun j => decide (j ≠ k)).map (tS l) := by
      rw [List.filter_map]
      congr 1
      refine List.filter_congr fun j hj => ?_
      have hj' := h.lt j hj
      simp only [Function.comp_apply, decide_eq_decide]
      exact not_congr ⟨fun e => h.dis j k hj'.1 hk hj'.2.1 (e.trans h1.symm), fun e => by rw [e]; exact h1⟩
    rw [r2, e2, List.take_of_length_le]
    simpa using hlen
  · have hnot : ∀ j ∈ ks, tS l j ≠ n := fun j hj => h0 j (h.lt j hj).1
    have hany : ((ks.map (tS l)).any fun x => decide (x = (n : Int))) = false := by
      rw [List.any_eq_false]
      intro x hx
      obtain ⟨j, hj, rfl⟩ := List.mem_map.1 hx
      simpa using hnot j hj
    have hfil : (ks.map (tS l)).filter (fun x => decide (x ≠ (n : Int))) = ks.map (tS l) := List.filter_eq_self.2 fun x hx => by
      obtain ⟨j, hj, rfl⟩ := List.mem_map.1 hx
      simpa using hnot j hj
    rw [hany, hfil, if_neg (by simp), if_neg (by simp)]
    rcases hold with ⟨hneg, -⟩ | ⟨hfull, rfl⟩
    · have hkn : k ∉ ks := fun hm => by have : 0 ≤ (l.getD k default).t := (h.lt k hm).2.1; omega
      obtain ⟨r1, r2⟩ := key _ ks h2 rfl rfl (fun j hj => ⟨fun e => hkn (e ▸ hj), hj⟩) h.desc (fun j hj hjk ht => ⟨h.all j hj ht, h0 j hj⟩)
      refine ⟨_, r1, ?_, h4, h5⟩
      have hlen : (k :: ks).length ≤ room := pigeon room _ r1.nodup fun x hx => (r1.lt x hx).1
      rw [r2, List.take_of_length_le]
      simpa using hlen
    · have hmin := oldTo_min l room
      have hkm : oldTo l room ∈ ks := h.all _ hk (hfull _ hk)
      have hrl := full_len (n := room) (l := ks) (fun x hx => h.all x hx (hfull x hx))
      generalize oldTo l room = k at *
      obtain ⟨r1, r2⟩ := key _ (ks.filter fun j => decide (j ≠ k)) h2 rfl rfl (fun j hj => by have := List.mem_filter.1 hj; exact ⟨by simpa using this.2, this.1⟩) (h.desc.filter _) (fun j hj hjk ht => ⟨List.mem_filter.2 ⟨h.all j hj ht, by simpa using hjk⟩, h0 j hj⟩)
      refine ⟨_, r1, ?_, h4, h5⟩
      rw [r2]
      have hne : ks ≠ [] := List.ne_nil_of_mem hkm
      have hdl := List.dropLast_concat_getLast hne
      have hd := h.desc
      rw [← hdl] at hd
      have hda := List.pairwise_append.1 hd
      have hlast : ks.getLast hne = k := by
        rw [← hdl] at hkm
        rcases List.mem_append.1 hkm with h6 | h6
        · have h7 := hda.2.2 k h6 (ks.getLast hne) (List.mem_singleton.2 rfl)
          have h8 := hmin (ks.getLast hne) (h.lt _ (List.getLast_mem hne)).1
          omega
        · exact (List.mem_singleton.1 h6).symm
      have hfl : (ks.filter fun j => decide (j ≠ k)) = ks.dropLast := by
        conv => lhs; rw [← hdl]
        rw [List.filter_append, hlast]
        have e1 : (ks.dropLast.filter fun j => decide (j ≠ k)) = ks.dropLast := List.filter_eq_self.2 fun j hj => by
          have h7 := hda.2.2 j hj k (by rw [hlast]; exact List.mem_singleton.2 rfl)
          have : j ≠ k := fun e => by subst e; omega
          simpa using this
        rw [e1]
        simp
      rw [hfl, List.dropLast_eq_take, show ks.length - 1 = room - 1 by omega]
      have hr1 : room = (room - 1) + 1 := by omega
      conv => rhs; rw [hr1]
      rw [List.take_succ_cons, List.map_take]
end Go.Proofs.YtemmnpgebpffbaaGreat
/- Layer 10: what the statements' own check reckons. -/
namespace Go.Proofs.YtemmnpgebpffbaaGreat
open Go.RowKit
/-- What Height does to what is at hand. -/
theorem HgtS.rel {ys f : List Int} {room : Nat} {s s' : CaV} {x y b : Int} {ks : List Nat} (hg : HgtS ys room s x y s') (hF : CaF ys f room) (h : CaOk ys f room s b) (hR : Rel room s.l s.clock ks) (ho : ¬ (x < 0 ∨ y < 0 ∨ (wY ys : Int) ≤ x ∨ (hY ys : Int) ≤ y)) :
    ∃ ks', Rel room s'.l s'.clock ks' ∧ ks'.map (tS s'.l) = (useL (ks.map (tS s.l)) (y.toNat / 16 * cntF (wY ys) + x.toNat / 16 : Nat) (ks.map (tS s.l)).length).take room ∧ s'.met = (if metB (ks.map (tS s.l)) (y.toNat / 16 * cntF (wY ys) + x.toNat / 16 : Nat) (ks.map (tS s.l)).length then s.met + 1 else s.met) ∧ s'.miss = (if metB (ks.map (tS s.l)) (y.toNat / 16 * cntF (wY ys) + x.toNat / 16 : Nat) (ks.map (tS s.l)).length then s.miss else s.miss + 1) := by
  rcases hg with ⟨h1, -⟩ | ⟨-, k, hk, h1, h2⟩
  · exact absurd h1 ho
  · rw [h2]
    exact hR.next (by have := h.len; have := hF.room; omega) hk h1
def zf10 : List Int := fieldF [5, 6, -32768] 160
theorem zf10_len : zf10.length = 160 := by decide +kernel
theorem zf10_in : In16 zf10 := in16_of (fun x hx => by
  have h : ∀ y ∈ zf10, -32768 ≤ y ∧ y ≤ 32767 := by decide +kernel
  exact h x hx)
theorem works10_plain {ys : List Int} {room : Nat} (hr : room = 4) (hw : wY ys = 32) (hh : hY ys = 5) (hF : CaF ys zf10 room) {s1 s2 s3 s4 : CaV} (h1 : HgtS ys room (newV 4) 1 0 s1) (h2 : HgtS ys room s1 2 0 s2) (h3 : HgtS ys room s2 32 0 s3) (h4 : HgtS ys room s3 20 0 s4) : s4.met = 1 ∧ s4.miss = 2 ∧ heldN s4.l room room (s4.clock + 1) = [1, 0] := by
  subst hr
  have k0 : CaOk ys zf10 4 (newV 4) 0 := newV_ok (by omega)
  obtain ⟨ks1, r1, e1, m1, i1⟩ := h1.rel hF k0 (Rel.zero (by omega)) (by rw [hw, hh]; decide)
  have k1 := h1.ok hF k0
  obtain ⟨ks2, r2, e2, m2, i2⟩ := h2.rel hF k1 r1 (by rw [hw, hh]; decide)
  have k2 := h2.ok hF k1
  obtain rfl : s3 = s2 := by
    rcases h3 with ⟨-, h⟩ | ⟨h, -⟩
    · exact h
    · rw [hw, hh] at h; exact absurd (by decide) h
  obtain ⟨ks4, r4, e4, m4, i4⟩ := h4.rel hF k2 r2 (by rw [hw, hh]; decide)
  rw [hw] at e1 m1 i1 e2 m2 i2 e4 m4 i4
  rw [e1] at e2 m2 i2
  rw [e2] at e4 m4 i4
  rw [r4.held, e4, m4, i4, m2, i2, m1, i1]
  exact ⟨by decide, by decide, by decide⟩
attribute [local irreducible] OJ J HdJ Code.wpIn wpListIn Oper.wpIn bodyPost CallsIn Does
set_option maxRecDepth 4000
end Go.Proofs.YtemmnpgebpffbaaGreat
/- Layer 11: what the statements' own check reckons. -/
namespace Go.Proofs.YtemmnpgebpffbaaGreat
open Go.RowKit
theorem run_eqSpot (t u : TypeId) (x y : Operand) (a b c d : Int) (ht : t = 24) : PV Tryz.prog (.binOp .eql t x y u) [.agg #[.int .i64 a, .int .i64 b], .agg #[.int .i64 c, .int .i64 d]] (.bool (a == c && b == d)) True := ⟨by
  subst ht
  rintro _ ρ ⟨dst, op', ty, pos, aft, gd⟩ rfl h w
  obtain ⟨h1, h2⟩ := map2 h
  have u2 := Tryz.underlying2
  have a2 := Tryz.isAgg2
  have z2 := Tryz.sizeOf2
  have hS : Tryz.prog.underlying 24 = some (.struct (Tryz.prog.fieldsOf 24)) := by kernel_rfl
  have hp : Tryz.prog.stoodInHeld 24 = false := by kernel_rfl
  have hm : Tryz.prog.eqGuardType Tryz.prog.depth 24 = false := by kernel_rfl
  simp only [execOp, h1, h2, Sem.run_bind, run_eqGuard_agg w _ _ _ _ _ _ hm, Result.andThen_ok]
  rw [run_eql_struct, show (10000 : Nat) = 9999 + 1 from rfl, run_equalIn_agg w 9999 24 _ _ hS hp]
  simp only [Program.fieldsOf, Tryz.underlying24]
  go_simp
  by_cases h1 : a = c <;> by_cases h2 : b = d <;> simp [h1, h2]⟩
instance (u : TypeId) (x y : Operand) (a b c d : Int) : PV Tryz.prog (.binOp .eql 24 x y u) [.agg #[.int .i64 a, .int .i64 b], .agg #[.int .i64 c, .int .i64 d]] (.bool (a == c && b == d)) True := run_eqSpot _ u x y a b c d rfl
instance {w0 : World} {W : Nat → Prop} {H : List HE} (u : TypeId) (x y : Operand) (a b c d : Int) : MS Tryz.prog w0 W H (.binOp .eql 24 x y u) [.agg #[.int .i64 a, .int .i64 b], .agg #[.int .i64 c, .int .i64 d]] (.bool (a == c && b == d)) True := ⟨by
  intro _ F n N ds σ dd ty pos aft gd K Q _ hv hdN h
  exact o_val (by simp) rfl hdN (fun a w ha _ => pq_of (o := ⟨some dd, _, ty, pos, aft, gd⟩) hv trivial a.eval (fun x _ u hu => ha.eval hu) w) h⟩
theorem works11_plain : ((heightT 2 2 [0, 16, 32, 48] 128 64 = 256 ∧ codeF 2 2 [0, 16, 32, 48] 128 64 = 0) ∧ (slopeT 2 2 [0, 16, 32, 48] 128 64).1 = 256 ∧ (slopeT 2 2 [0, 16, 32, 48] 128 64).2 = 512) ∧ codeF 2 2 [0, 16, 32, 48] 257 0 = 9 ∧ heightT 2 2 [0, 16, 32, 48] 257 0 = 0 ∧ heightT 2 2 [0, 16, 32, 48] 256 256 = 768 ∧ codeF 2 2 [0, 16, 32, 48] 256 256 = 0 := by decide +kernel
theorem works11_rough : (roughR (sqH 2 2 [0, 16, 32, 48] 0 0 1)).1 = 286 ∧ (roughR (sqH 2 2 [0, 16, 32, 48] 0 0 1)).2 = 4 := by
  have e : sqH 2 2 [0, 16, 32, 48] 0 0 1 = [0, 16, 32, 48] := by decide +kernel
  rw [e]
  have e2 : roughX [0, 16, 32, 48] = 81920 := by decide +kernel
  have e3 : isq 81920 = 286 := isq_of (by decide) (by decide)
  unfold roughR
  rw [if_neg (by decide), e2, e3]
  exact ⟨rfl, rfl⟩
attribute [local irreducible] OJ J HdJ Code.wpIn wpListIn Oper.wpIn bodyPost CallsIn Does
set_option maxRecDepth 4000
end Go.Proofs.YtemmnpgebpffbaaGreat
/- Package theodoliteref21: what differences cost; package wide: numbers held against each other; package match: is the second best so much worse? -/
namespace Go.Proofs.YtemmnpgebpffbaaGreat
open Go.RowKit
theorem cmpI_pos (m n : Nat) : 0 < cmpI m n ↔ n < m := by unfold cmpI; split <;> (try split) <;> omega
theorem of_lit (n : Nat) (h : (n : Int) < 9223372036854775808) : CV Tryz.prog 59 [.int .i64 (n : Int)] (.agg (numE false n).toArray) True := ⟨fun _ w => by
  have := rof_any (n : Int) ⟨by show -9223372036854775808 ≤ _; omega, by show _ ≤ 9223372036854775807; omega⟩ w
  rw [show decide ((n : Int) < 0) = false by simp, Int.natAbs_natCast] at this
  exact this⟩
instance of_zero : CV Tryz.prog 59 [.int .i64 0] (.agg (numE false 0).toArray) True := of_lit 0 (by decide)
instance of_2_62 : CV Tryz.prog 59 [.int .i64 4611686018427387904] (.agg (numE false 4611686018427387904).toArray) True := of_lit 4611686018427387904 (by decide)
theorem natAbs_sq (y : Int) : y.natAbs * y.natAbs = (y * y).toNat := by
  rw [← Int.natAbs_mul]
  rcases Int.lt_or_le y 0 with h | h
  · have := Int.mul_pos_of_neg_of_neg h h
    omega
  · have := Int.mul_nonneg h h
    omega
theorem terX_abs {m y : Int} (h : m = 0 ∨ m = 2) : terX m y = (y.natAbs : Int) := by
  unfold terX
  rw [if_pos h]
  split <;> omega
attribute [local irreducible] OJ J HdJ Code.wpIn wpListIn Oper.wpIn bodyPost CallsIn Does
set_option maxRecDepth 4000
set_option maxHeartbeats 128000000 in
theorem rcost_any (A : Option Addr) (c : Nat) (d : List Int) (m : Int) (w : World) (hr : RoA w (blocks []) A d.length c 1 (ints .i64 d)) (hm : d.length ≤ 1000000) :
    Does Tryz.prog 43 [.slice A d.length c, .int .i64 m] [] w (fun v S' => v = .tuple #[.int .i64 (costF d m 1 2 10).1, .int .i64 (costF d m 1 2 10).2] ∧ S' = []) := by
  refine does_of Tryz.func43 rfl Tryz.ntmps43 rfl ⟨by simp, .nil⟩ (fun n => ?_)
  simp only [slots]
  by_cases h0 : 64 < d.length ∨ m < 0 ∨ 3 < m
  · rw [costF_1 h0]
    refine z_tas
    all_goals first
      | exact j_out2 rfl rfl rfl (.nil _) ⟨rfl, rfl⟩
      | (exfalso; omega)
  · have f2 := costF_2 h0
    have f3 := costF_3 h0
    have f4 := costF_4 h0
    refine z_tas
    refine c_loop (X := Nat) (fun i => i ≤ d.length ∧ DifOk d i) (fun i => [(0, .slice A d.length c), (0 + 1, .int .i64 m), (6, .int .i64 d.length), (7, .int .i64 (sumTo d i)), (8, .int .i64 i)])
      (fun i => []) (fun i => d.length - i) 0 ⟨by omega, fun j hj => by omega⟩ ⟨rfl, rfl, rfl, rfl, rfl, trivial⟩ Sub.au ?_
    rintro i ⟨hi, hok⟩
    have hsi := sumTo_in hok
    rcases Nat.lt_or_ge i d.length with h | h
    · obtain ⟨bL, oL, rfl, hL⟩ := hr.at_ (by omega : 0 < d.length)
      have hy := badTo_yes (d := d) (n := d.length) h
      refine z_tas
      · rw [f2 (hy (by omega))]
        exact j_out2 rfl rfl rfl (.nil _) ⟨rfl, rfl⟩
      · exact c_round (i + 1) ⟨h, hok.succ (by omega)⟩ (by show d.length - (i + 1) < d.length - i; omega) ⟨rfl, rfl, rfl, rfl, by simp [look], trivial⟩ Sub.au
    · obtain rfl : i = d.length := by omega
      refine z_tas
      rename_i b9
      refine c_loop (X := Nat) (fun i => i ≤ d.length) (fun i => [(0, .slice A d.length c), (0 + 1, .int .i64 m), (6, .int .i64 d.length), (7, .int .i64 (sumTo d d.length)), (9, .pointer (some ⟨b9, 0, none⟩)), (10, .int .i64 i)])
        (fun i => [.blk b9 119 (numE false (cosTo d.length (sumTo d d.length) m d i).toNat)]) (fun i => d.length - i) 0 (by omega) ⟨rfl, rfl, rfl, rfl, rfl, rfl, trivial⟩ (by show Sub [.blk b9 _ (numE false 0)] _; exact Sub.au) ?_
      intro i hi
      have hnn := cosTo_nn d.length (sumTo d d.length) m d i
      have hin := cosTo_in (m := m) (by omega) hok i hi
      rcases Nat.lt_or_ge i d.length with h | h
      · obtain ⟨bL, oL, rfl, hL⟩ := hr.at_ (by omega : 0 < d.length)
        have hx := hok i h
        have hd := difX_in (m := m) (by omega) hok h
        have hst : cosTo d.length (sumTo d d.length) m d (i + 1) = cosTo d.length (sumTo d d.length) m d i + terX m (difX d.length (sumTo d d.length) m (d.getD i 0)) := rfl
        have hnx := mulB 64 8388608 (a := (d.length : Int)) (b := d.getD i 0) (by omega) (by omega)
        have hsq := sq_in hd
        have hsa := natAbs_sq (difX d.length (sumTo d d.length) m (d.getD i 0))
        obtain ⟨y, hy⟩ : ∃ y, difX d.length (sumTo d d.length) m (d.getD i 0) = y := ⟨_, rfl⟩
        rw [hy] at hd hst hsq hsa
        have hye : y = if 2 ≤ m then (d.length : Int) * d.getD i 0 - sumTo d d.length else d.getD i 0 := hy.symm
        have iMul : CV Tryz.prog 60 [.int .i64 y, .int .i64 y] (.agg (numE false (y * y).toNat).toArray) True := ⟨fun _ w => by
          have := rmul_any y y ⟨by show -9223372036854775808 ≤ _; omega, by show _ ≤ 9223372036854775807; omega⟩ ⟨by show -9223372036854775808 ≤ _; omega, by show _ ≤ 9223372036854775807; omega⟩ (decide (y < 0)) rfl rfl w
          rw [hsa] at this
          exact this⟩
        have hof := fun w => rof_any y ⟨by show -9223372036854775808 ≤ _; omega, by show _ ≤ 9223372036854775807; omega⟩ w
        have hofn := fun w => rof_any (-y) ⟨by show -9223372036854775808 ≤ _; omega, by show _ ≤ 9223372036854775807; omega⟩ w
        have ht1 : m = 0 ∨ m = 2 → terX m y = (y.natAbs : Int) := terX_abs
        have ht2 : ¬ (m = 0 ∨ m = 2) → terX m y = y * y := fun h => if_neg h
        have hn1 : terX m y = (y.natAbs : Int) → (cosTo d.length (sumTo d d.length) m d (i + 1)).toNat = (cosTo d.length (sumTo d d.length) m d i).toNat + y.natAbs := fun e => by rw [hst, e]; omega
        have hn2 : terX m y = y * y → (cosTo d.length (sumTo d d.length) m d (i + 1)).toNat = (cosTo d.length (sumTo d d.length) m d i).toNat + (y * y).toNat := fun e => by rw [hst, e]; omega
        clear hst hsa hy
        generalize hcJ : cosTo d.length (sumTo d d.length) m d (i + 1) = cJ at *
        generalize cosTo d.length (sumTo d d.length) m d i = cI at *
        generalize y * y = q at *
        rcases Int.lt_or_le y 0 with hs | hs
        · have iOf : CV Tryz.prog 59 [.int .i64 y] (.agg (numE true y.natAbs).toArray) True := ⟨fun _ w => by have := hof w; rwa [decide_eq_true hs] at this⟩
          have iOn : CV Tryz.prog 59 [.int .i64 (-y)] (.agg (numE false y.natAbs).toArray) True := ⟨fun _ w => by have := hofn w; rwa [decide_eq_false (show ¬ -y < 0 by omega), Int.natAbs_neg] at this⟩
          clear hof hofn
          obtain rfl | rfl | rfl | rfl : m = 0 ∨ m = 1 ∨ m = 2 ∨ m = 3 := by omega
          · rw [if_neg (by decide)] at hye
            have e := hn1 (ht1 (by decide))
            clear hn1 hn2 ht1 ht2
            subst hye
            refine z_tas
            exact c_round (i + 1) h (by show d.length - (i + 1) < d.length - i; omega) ⟨rfl, rfl, rfl, rfl, rfl, by simp [look], trivial⟩ (by rw [hcJ, e]; exact Sub.au)
          · rw [if_neg (by decide)] at hye
            have e := hn2 (ht2 (by decide))
            clear hn1 hn2 ht1 ht2
            subst hye
            refine z_tas
            exact c_round (i + 1) h (by show d.length - (i + 1) < d.length - i; omega) ⟨rfl, rfl, rfl, rfl, rfl, by simp [look], trivial⟩ (by rw [hcJ, e]; exact Sub.au)
          · rw [if_pos (by decide)] at hye
            have e := hn1 (ht1 (by decide))
            clear hn1 hn2 ht1 ht2
            subst hye
            refine z_tas
            exact c_round (i + 1) h (by show d.length - (i + 1) < d.length - i; omega) ⟨rfl, rfl, rfl, rfl, rfl, by simp [look], trivial⟩ (by rw [hcJ, e]; exact Sub.au)
          · rw [if_pos (by decide)] at hye
            have e := hn2 (ht2 (by decide))
            clear hn1 hn2 ht1 ht2
            subst hye
            refine z_tas
            exact c_round (i + 1) h (by show d.length - (i + 1) < d.length - i; omega) ⟨rfl, rfl, rfl, rfl, rfl, by simp [look], trivial⟩ (by rw [hcJ, e]; exact Sub.au)
        · have iOf : CV Tryz.prog 59 [.int .i64 y] (.agg (numE false y.natAbs).toArray) True := ⟨fun _ w => by have := hof w; rwa [decide_eq_false (show ¬ y < 0 by omega)] at this⟩
          clear hof hofn
          obtain rfl | rfl | rfl | rfl : m = 0 ∨ m = 1 ∨ m = 2 ∨ m = 3 := by omega
          · rw [if_neg (by decide)] at hye
            have e := hn1 (ht1 (by decide))
            clear hn1 hn2 ht1 ht2
            subst hye
            refine z_tas
            exact c_round (i + 1) h (by show d.length - (i + 1) < d.length - i; omega) ⟨rfl, rfl, rfl, rfl, rfl, by simp [look], trivial⟩ (by rw [hcJ, e]; exact Sub.au)
          · rw [if_neg (by decide)] at hye
            have e := hn2 (ht2 (by decide))
            clear hn1 hn2 ht1 ht2
            subst hye
            refine z_tas
            exact c_round (i + 1) h (by show d.length - (i + 1) < d.length - i; omega) ⟨rfl, rfl, rfl, rfl, rfl, by simp [look], trivial⟩ (by rw [hcJ, e]; exact Sub.au)
          · rw [if_pos (by decide)] at hye
            have e := hn1 (ht1 (by decide))
            clear hn1 hn2 ht1 ht2
            subst hye
            refine z_tas
            exact c_round (i + 1) h (by show d.length - (i + 1) < d.length - i; omega) ⟨rfl, rfl, rfl, rfl, rfl, by simp [look], trivial⟩ (by rw [hcJ, e]; exact Sub.au)
          · rw [if_pos (by decide)] at hye
            have e := hn2 (ht2 (by decide))
            clear hn1 hn2 ht1 ht2
            subst hye
            refine z_tas
            exact c_round (i + 1) h (by show d.length - (i + 1) < d.length - i; omega) ⟨rfl, rfl, rfl, rfl, rfl, by simp [look], trivial⟩ (by rw [hcJ, e]; exact Sub.au)
      · obtain rfl : i = d.length := by omega
        have hN : (cosTo d.length (sumTo d d.length) m d d.length).toNat < 147573952589676412928 := by omega
        by_cases hbig : 4611686018427387904 < cosTo d.length (sumTo d d.length) m d d.length
        · rw [f3 hok hbig]
          have hp := (cmpI_pos (cosTo d.length (sumTo d d.length) m d d.length).toNat 4611686018427387904).2 (by omega)
          refine z_tas
          refine c_dv (0 :: 1 :: 2 :: 3 :: []) ?_; intro _
          refine z_govG
          exact j_out2 rfl rfl rfl (.nil _) ⟨rfl, rfl⟩
        · rw [f4 hok hbig]
          have hp : ¬ 0 < cmpI (cosTo d.length (sumTo d d.length) m d d.length).toNat 4611686018427387904 := fun hh => by have := (cmpI_pos _ _).1 hh; omega
          generalize cosTo d.length (sumTo d d.length) m d d.length = cN at *
          refine z_tas
          refine c_dv (0 :: 1 :: 2 :: 3 :: []) ?_; intro _
          refine z_govG
          exact j_out2 rfl rfl rfl (.nil _) ⟨congrArg (fun q => Value.tuple #[.int .i64 q, .int .i64 0]) (by omega), rfl⟩
end Go.Proofs.YtemmnpgebpffbaaGreat
/- Packages match and theodoliteref21: how a profile lies on the ground; is the second best so much worse? -/
namespace Go.Proofs.YtemmnpgebpffbaaGreat
open Go.RowKit
theorem pv_eqWide (t u : TypeId) (x y : Operand) (a b c d : Int) (ht : t = 112) : PV Tryz.prog (.binOp .eql t x y u) [.agg #[.int .i64 a, .int .u64 b], .agg #[.int .i64 c, .int .u64 d]] (.bool (a == c && b == d)) True := ⟨by
  subst ht
  rintro _ ρ ⟨dst, op', ty, pos, aft, gd⟩ rfl h w
  obtain ⟨h1, h2⟩ := map2 h
  have u1 := Tryz.underlying2
  have a1 := Tryz.isAgg2
  have z1 := Tryz.sizeOf2
  have u2 := Tryz.underlying110
  have a2 := Tryz.isAgg110
  have z2 := Tryz.sizeOf110
  have hS : Tryz.prog.underlying 112 = some (.struct (Tryz.prog.fieldsOf 112)) := by kernel_rfl
  have hp : Tryz.prog.stoodInHeld 112 = false := by kernel_rfl
  have hm : Tryz.prog.eqGuardType Tryz.prog.depth 112 = false := by kernel_rfl
  simp only [execOp, h1, h2, Sem.run_bind, run_eqGuard_agg w _ _ _ _ _ _ hm, Result.andThen_ok]
  rw [run_eql_struct, show (10000 : Nat) = 9999 + 1 from rfl, run_equalIn_agg w 9999 112 _ _ hS hp]
  simp only [Program.fieldsOf, Tryz.underlying112]
  go_simp
  by_cases h1 : a = c <;> by_cases h2 : b = d <;> simp [h1, h2]⟩
instance (u : TypeId) (x y : Operand) (a b c d : Int) : PV Tryz.prog (.binOp .eql 112 x y u) [.agg #[.int .i64 a, .int .u64 b], .agg #[.int .i64 c, .int .u64 d]] (.bool (a == c && b == d)) True := pv_eqWide _ u x y a b c d rfl
instance {w0 : World} {W : Nat → Prop} {H : List HE} (u : TypeId) (x y : Operand) (a b c d : Int) : MS Tryz.prog w0 W H (.binOp .eql 112 x y u) [.agg #[.int .i64 a, .int .u64 b], .agg #[.int .i64 c, .int .u64 d]] (.bool (a == c && b == d)) True := ⟨by
  intro _ F n N ds σ dd ty pos aft gd K Q _ hv hdN h
  exact o_val (by simp) rfl hdN (fun a w ha _ => pq_of (o := ⟨some dd, _, ty, pos, aft, gd⟩) hv trivial a.eval (fun x _ u hu => ha.eval hu) w) h⟩
/-- Which of two numbers is greater. -/
def cmpZ (a b : Int) : Int := if a < b then -1 else if a = b then 0 else 1
attribute [local irreducible] OJ J HdJ Code.wpIn wpListIn Oper.wpIn bodyPost CallsIn Does
set_option maxRecDepth 4000
set_option maxHeartbeats 64000000 in
instance wcmp_cv (a b : Int) : CV Tryz.prog 54 [.agg (wideV a).toArray, .agg (wideV b).toArray] (.int .i64 (cmpZ a b)) True := ⟨fun _ w => by
  have h1 : a = 18446744073709551616 * (a / 18446744073709551616) + a % 18446744073709551616 := by omega
  have h2 : b = 18446744073709551616 * (b / 18446744073709551616) + b % 18446744073709551616 := by omega
  have h3 : 0 ≤ a % 18446744073709551616 ∧ a % 18446744073709551616 < 18446744073709551616 := by omega
  have h4 : 0 ≤ b % 18446744073709551616 ∧ b % 18446744073709551616 < 18446744073709551616 := by omega
  refine does_of Tryz.func54 rfl Tryz.ntmps54 rfl ⟨by simp, .nil⟩ (fun n => ?_)
  simp only [slots]
  unfold cmpZ
  generalize a / 18446744073709551616 = p at *
  generalize a % 18446744073709551616 = q at *
  generalize b / 18446744073709551616 = r at *
  generalize b % 18446744073709551616 = s at *
  refine z_tas
  all_goals exact j_out1 rfl rfl (.nil _) ⟨congrArg (Value.int .i64) (by split <;> (try split) <;> omega), rfl⟩⟩
/-- Is the second best so much worse than the best? -/
def clrB (best second num den : Int) : Bool := decide (0 ≤ best ∧ 0 ≤ num ∧ 1 ≤ den ∧ (second < 0 ∨ best * num < second * den))
theorem mul_in64 {a b : Int} (ha : InR .i64 a) (hb : InR .i64 b) : -85070591730234615865843651857942052864 ≤ a * b ∧ a * b ≤ 85070591730234615865843651857942052864 := by
  have h1 : -9223372036854775808 ≤ a ∧ a ≤ 9223372036854775807 := ha
  have h2 : -9223372036854775808 ≤ b ∧ b ≤ 9223372036854775807 := hb
  have := mulB 9223372036854775808 9223372036854775808 (a := a) (b := b) (by omega) (by omega)
  omega
theorem cmpZ_pos (a b : Int) : 0 < cmpZ a b ↔ b < a := by unfold cmpZ; split <;> (try split) <;> omega
set_option maxHeartbeats 64000000 in
theorem clear21_any (best second num den : Int) (h1 : InR .i64 best) (h2 : InR .i64 second) (h3 : InR .i64 num) (h4 : InR .i64 den) (w : World) :
    Does Tryz.prog 36 [.int .i64 best, .int .i64 second, .int .i64 num, .int .i64 den] [] w (fun v S' => v = .bool (clrB best second num den) ∧ S' = []) := by
  refine does_of Tryz.func36 rfl Tryz.ntmps36 rfl ⟨by simp, .nil⟩ (fun n => ?_)
  simp only [slots]
  have hp := cmpZ_pos (second * den) (best * num)
  have key : clrB best second num den = true ↔ (0 ≤ best ∧ 0 ≤ num ∧ 1 ≤ den ∧ (second < 0 ∨ best * num < second * den)) := by simp [clrB]
  have iC : CV Tryz.prog 54 [.agg (wideV (second * den)).toArray, .agg (wideV (best * num)).toArray] (.int .i64 (cmpZ (second * den) (best * num))) True := wcmp_cv _ _
  generalize clrB best second num den = r at *
  refine z_tas
  all_goals exact j_out1 rfl rfl (.nil _) ⟨congrArg Value.bool (by rw [Bool.eq_iff_iff, key]; simp only [decide_eq_true_eq, Bool.false_eq_true, false_iff, true_iff]; omega), rfl⟩
/-- Are two steps more than so many apart? -/
theorem farB_iff (a b : Stp) (away : Int) : farB a b away = true ↔ away < max (max (max (a.i - b.i) (b.i - a.i)) (a.k - b.k)) (b.k - a.k) := by simp [farB]
set_option maxHeartbeats 64000000 in
instance far_cv (a b : Stp) (away : Int) : CV Tryz.prog 45 [.agg (stpE a).toArray, .agg (stpE b).toArray, .int .i64 away] (.bool (farB a b away)) (((-32 ≤ a.i ∧ a.i ≤ 32) ∧ (-32 ≤ a.k ∧ a.k ≤ 32)) ∧ (-32 ≤ b.i ∧ b.i ≤ 32) ∧ (-32 ≤ b.k ∧ b.k ≤ 32)) := ⟨fun hc w => by
  refine does_of Tryz.func45 rfl Tryz.ntmps45 rfl ⟨by simp, .nil⟩ (fun n => ?_)
  simp only [slots]
  refine z_tas
  exact j_out1 rfl rfl (.nil _) ⟨rfl, rfl⟩⟩
set_option maxHeartbeats 64000000 in
instance near_cv (a b : Stp) (away : Int) : CV Tryz.prog 44 [.agg (stpE a).toArray, .agg (stpE b).toArray, .int .i64 away] (.bool (!farB a b away)) (((-32 ≤ a.i ∧ a.i ≤ 32) ∧ (-32 ≤ a.k ∧ a.k ≤ 32)) ∧ (-32 ≤ b.i ∧ b.i ≤ 32) ∧ (-32 ≤ b.k ∧ b.k ≤ 32)) := ⟨fun hc w => by
  refine does_of Tryz.func44 rfl Tryz.ntmps44 rfl ⟨by simp, .nil⟩ (fun n => ?_)
  simp only [slots]
  have key := farB_iff a b away
  generalize farB a b away = r at *
  refine z_tas
  all_goals exact j_out1 rfl rfl (.nil _) ⟨congrArg Value.bool (by
    cases r
    · simp only [Bool.false_eq_true, false_iff] at key
      first | (simp; omega) | simp | omega
    · simp only [true_iff] at key
      first | (simp; omega) | simp | omega), rfl⟩⟩
end Go.Proofs.YtemmnpgebpffbaaGreat
/- Packages match and theodoliteref21: how a profile lies on the ground. -/
namespace Go.Proofs.YtemmnpgebpffbaaGreat
open Go.RowKit
/-- What is told of how a profile lies: nothing, or by how much the ground is above each height. -/
def ApR (W H : Nat) (f : List Int) (X Y : Int) (l : List Smp) (T : List HE) (v : Value) (S' : List HE) : Prop :=
  (onTo W H f X Y l l.length = true ∧ ∃ A c, v = .tuple #[.slice A (apTo W H f X Y l l.length).length c, .bool true] ∧ S' = .row (.slice A (apTo W H f X Y l l.length).length c) 2 1 (apTo W H f X Y l l.length).length (ints .i64 (apTo W H f X Y l l.length)) :: T) ∨
  (onTo W H f X Y l l.length = false ∧ v = .tuple #[.slice none 0 0, .bool false] ∧ S' = T)
theorem onTo_no {W H : Nat} {f : List Int} {X Y : Int} {l : List Smp} {i : Nat} : ∀ {n : Nat}, i < n → codeF W H f (X + (l.getD i default).dx) (Y + (l.getD i default).dy) ≠ 0 → onTo W H f X Y l n = false
  | n + 1, hi, h => by
    rw [onTo]
    rcases Nat.lt_or_ge i n with h1 | h1
    · rw [onTo_no h1 h]; rfl
    · obtain rfl : i = n := by omega
      have : (codeF W H f (X + (l.getD i default).dx) (Y + (l.getD i default).dy) == 0) = false := by simpa using h
      rw [this, Bool.and_false]
theorem onTo_yes {W H : Nat} {f : List Int} {X Y : Int} {l : List Smp} {n : Nat} (h : onTo W H f X Y l n = true) (h2 : codeF W H f (X + (l.getD n default).dx) (Y + (l.getD n default).dy) = 0) : onTo W H f X Y l (n + 1) = true := by
  rw [onTo, h, h2]; rfl
attribute [local irreducible] OJ J HdJ Code.wpIn wpListIn Oper.wpIn bodyPost CallsIn Does
set_option maxRecDepth 4000
set_option maxHeartbeats 64000000 in
theorem apart_t (K : CaT) (s : CaV) (f : List Int) (X Y b : Int) (Al : Option Addr) (cl : Nat) (l : List Smp) (w : World) (hown : Own (K.H s) w) (hF : CaF K.ys f K.room) (h : CaOk K.ys f K.room s b) (hb : b ≤ 800000000000000000)
    (hr : RoA w (blocks (K.H s)) Al l.length cl 3 (flat smpE l)) (hm : l.length ≤ 1000000) (hXb : -2199023255552 ≤ X ∧ X ≤ 2199023255552) (hYb : -2199023255552 ≤ Y ∧ Y ≤ 2199023255552) (hl : ∀ j, j < l.length → SmpOk (l.getD j default)) :
    Does Tryz.prog 35 [.pointer (some ⟨K.g, 0, none⟩), .agg #[.int .i64 X, .int .i64 Y], .slice Al l.length cl] (K.H s) w
      (fun v S' => ∃ s', CaOk K.ys f K.room s' (b + 4 * (l.length : Int)) ∧ ApR (wY K.ys) (hY K.ys) f X Y l (K.H s') v S') := by
  refine does_of Tryz.func35 rfl Tryz.ntmps35 rfl hown (fun n => ?_)
  simp only [slots]
  refine j_nil (e := 2) (size := 1) ?_
  refine z_tas
  rename_i b4
  refine c_loop (X := Nat × CaV × Option Addr × Nat) (fun q => q.1 ≤ l.length ∧ CaOk K.ys f K.room q.2.1 (b + 4 * (q.1 : Int)) ∧ onTo (wY K.ys) (hY K.ys) f X Y l q.1 = true)
    (fun q => [(0, .pointer (some ⟨K.g, 0, none⟩)), (4, .pointer (some ⟨b4, 0, none⟩)), (8, .slice q.2.2.1 (apTo (wY K.ys) (hY K.ys) f X Y l q.1).length q.2.2.2), (13, .slice Al l.length cl), (14, .int .i64 l.length), (15, .int .i64 q.1)])
    (fun q => K.HC q.2.1 [.blk b4 24 [.int .i64 X, .int .i64 Y], .row (.slice q.2.2.1 (apTo (wY K.ys) (hY K.ys) f X Y l q.1).length q.2.2.2) 2 1 (apTo (wY K.ys) (hY K.ys) f X Y l q.1).length (ints .i64 (apTo (wY K.ys) (hY K.ys) f X Y l q.1))]) (fun q => l.length - q.1) (0, s, none, 0) ⟨by omega, by simpa using h, rfl⟩ ⟨rfl, rfl, rfl, rfl, rfl, rfl, trivial⟩ (by simp only [apTo, ints, List.map_nil, List.length_nil]; exact Sub.au) ?_
  rintro ⟨i, s1, A1, c1⟩ ⟨hi, hk, hon⟩
  dsimp only at hi hk hon ⊢
  have hal := apTo_len (wY K.ys) (hY K.ys) f X Y l i
  rcases Nat.lt_or_ge i l.length with hlt | hge
  · obtain ⟨bL, oL, rfl, hL⟩ := hr.at_ (by omega : 0 < l.length)
    have hsx := hl i hlt
    unfold SmpOk at hsx
    have hz := heightT_in hF.good.1 (W := wY K.ys) (H := hY K.ys) (X + (l.getD i default).dx) (Y + (l.getD i default).dy)
    have hno := onTo_no (W := wY K.ys) (H := hY K.ys) (f := f) (X := X) (Y := Y) (l := l) hlt
    have hyes := onTo_yes hon
    have hap : apTo (wY K.ys) (hY K.ys) f X Y l (i + 1) = apTo (wY K.ys) (hY K.ys) f X Y l i ++ [heightT (wY K.ys) (hY K.ys) f (X + (l.getD i default).dx) (Y + (l.getD i default).dy) - (l.getD i default).z] := rfl
    refine z_tas
    refine lf rfl rfl rfl (S := K.H s1) (fun w hw ho => height_t K s1 f (X + (l.getD i default).dx) (Y + (l.getD i default).dy) (b + 4 * (i : Int)) w ho hF hk (by omega)) ?_
    rintro v S' ⟨s', rfl, k1, rfl⟩
    generalize heightT (wY K.ys) (hY K.ys) f (X + (l.getD i default).dx) (Y + (l.getD i default).dy) = z at *
    generalize codeF (wY K.ys) (hY K.ys) f (X + (l.getD i default).dx) (Y + (l.getD i default).dy) = e at *
    generalize hga : apTo (wY K.ys) (hY K.ys) f X Y l i = ga at *
    refine z_tas
    · refine j_out2 rfl rfl (S' := K.H s') rfl Sub.au ⟨s', k1.mono (by omega), .inr ⟨hno (by assumption), rfl, rfl⟩⟩
    · rename_i he _ A2 c2
      refine c_round (i + 1, s', A2, c2) ⟨hlt, k1.mono (by dsimp only; omega), hyes (Classical.not_not.1 he)⟩ (by show l.length - (i + 1) < l.length - i; omega) ⟨rfl, rfl, by simp only [hap]; rfl, rfl, rfl, by simp [look], trivial⟩ ?_
      simp only [hap]
      exact Sub.au
  · obtain rfl : i = l.length := by omega
    refine z_tas
    exact j_out2 rfl rfl rfl Sub.au ⟨s1, hk, .inl ⟨hon, A1, c1, rfl, rfl⟩⟩
set_option maxHeartbeats 64000000 in
theorem rapart_any (W H : Nat) (A : Option Addr) (c : Nat) (f : List Int) (X Y : Int) (Al : Option Addr) (cl : Nat) (l : List Smp) (w : World) (hr : RoA w (blocks []) A f.length c 1 (ints .i16 f)) (hW : 1 ≤ W ∧ W ≤ 256 ∧ 1 ≤ H ∧ H ≤ 256) (hz : f.length = W * H) (hf : In16 f)
    (hrl : RoA w (blocks []) Al l.length cl 3 (flat smpE l)) (hm : l.length ≤ 1000000) (hXb : -2199023255552 ≤ X ∧ X ≤ 2199023255552) (hYb : -2199023255552 ≤ Y ∧ Y ≤ 2199023255552) (hl : ∀ j, j < l.length → SmpOk (l.getD j default)) :
    Does Tryz.prog 42 [.agg #[.int .i64 W, .int .i64 H, .slice A f.length c], .int .i64 X, .int .i64 Y, .slice Al l.length cl] [] w (fun v S' => ApR W H f X Y l [] v S') := by
  refine does_of Tryz.func42 rfl Tryz.ntmps42 rfl ⟨by simp, .nil⟩ (fun n => ?_)
  simp only [slots]
  refine j_nil (e := 2) (size := 1) ?_
  refine z_tas
  rename_i b4
  refine c_loop (X := Nat × Option Addr × Nat) (fun q => q.1 ≤ l.length ∧ onTo W H f X Y l q.1 = true)
    (fun q => [(0 + 1, .int .i64 X), (0 + 1 + 1, .int .i64 Y), (0 + 1 + 1 + 1, .slice Al l.length cl), (4, .pointer (some ⟨b4, 0, none⟩)), (10, .slice q.2.1 (apTo W H f X Y l q.1).length q.2.2), (11, .int .i64 q.1)])
    (fun q => [.blk b4 31 [.int .i64 W, .int .i64 H, .slice A f.length c], .row (.slice q.2.1 (apTo W H f X Y l q.1).length q.2.2) 2 1 (apTo W H f X Y l q.1).length (ints .i64 (apTo W H f X Y l q.1))]) (fun q => l.length - q.1) (0, none, 0) ⟨by omega, rfl⟩ ⟨rfl, rfl, rfl, rfl, rfl, rfl, trivial⟩ (by simp only [apTo, ints, List.map_nil, List.length_nil]; exact Sub.au) ?_
  rintro ⟨i, A1, c1⟩ ⟨hi, hon⟩
  dsimp only at hi hon ⊢
  have hal := apTo_len W H f X Y l i
  rcases Nat.lt_or_ge i l.length with hlt | hge
  · obtain ⟨bL, oL, rfl, hL⟩ := hrl.at_ (by omega : 0 < l.length)
    have hsx := hl i hlt
    unfold SmpOk at hsx
    have hz1 := heightT_in hf (W := W) (H := H) (X + (l.getD i default).dx) (Y + (l.getD i default).dy)
    have hno := onTo_no (W := W) (H := H) (f := f) (X := X) (Y := Y) (l := l) hlt
    have hyes := onTo_yes hon
    have hap : apTo W H f X Y l (i + 1) = apTo W H f X Y l i ++ [heightT W H f (X + (l.getD i default).dx) (Y + (l.getD i default).dy) - (l.getD i default).z] := rfl
    refine z_tas
    refine c_dv (0 :: 1 :: 2 :: 3 :: 4 :: 5 :: 6 :: 7 :: 8 :: 9 :: 10 :: 11 :: 12 :: 13 :: 14 :: 15 :: 16 :: 17 :: 18 :: 19 :: 20 :: []) ?_; intro _
    refine z_govG
    refine lfv rfl rfl rfl (fun w hw => rheight11_any W H A c f (X + (l.getD i default).dx) (Y + (l.getD i default).dy) w ⟨hr.h.go hw (Split.nil _)⟩ hW hz hf) ?_
    generalize heightT W H f (X + (l.getD i default).dx) (Y + (l.getD i default).dy) = z at *
    generalize codeF W H f (X + (l.getD i default).dx) (Y + (l.getD i default).dy) = e at *
    generalize hga : apTo W H f X Y l i = ga at *
    refine z_govG
    · exact j_out2 rfl rfl rfl Sub.au (.inr ⟨hno (by assumption), rfl, rfl⟩)
    · rename_i he _ A2 c2
      refine c_round (i + 1, A2, c2) ⟨hlt, hyes (Classical.not_not.1 he)⟩ (by show l.length - (i + 1) < l.length - i; omega) ⟨rfl, rfl, rfl, rfl, by simp only [hap]; rfl, by simp [look], trivial⟩ ?_
      simp only [hap]
      exact Sub.au
  · obtain rfl : i = l.length := by omega
    refine z_tas
    exact j_out2 rfl rfl rfl Sub.au (.inl ⟨hon, A1, c1, rfl, rfl⟩)
end Go.Proofs.YtemmnpgebpffbaaGreat
