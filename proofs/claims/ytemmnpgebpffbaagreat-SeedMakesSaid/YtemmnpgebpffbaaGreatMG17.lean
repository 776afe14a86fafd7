
import Derived.Test.YtemmnpgebpffbaaGreatMG16
set_option linter.unusedVariables false
set_option linter.unusedSimpArgs false
/- Package wide: quotients of any numbers. -/
namespace Go.Proofs.YtemmnpgebpffbaaGreat
open Go.RowKit
theorem two_bool {A A' : Int} {c d : Bool} (h1 : A = A') (h2 : c = d) : retV [.int .i64 A, .bool c] = Value.tuple #[.int .i64 A', .bool d] := by subst h1 h2; rfl
attribute [local irreducible] OJ J HdJ Code.wpIn wpListIn Oper.wpIn bodyPost CallsIn Does
set_option maxRecDepth 4000
set_option maxHeartbeats 16000000 in
/-- A magnitude with a sign, and whether that has room. -/
instance (priority := 900) signedX (m : Int) (minus : Bool) : CV Tryz.prog 129 [.int .u64 m, .bool minus] (.tuple #[.int .i64 (IntKind.i64.wrap (bif minus then -m else m)), .bool (bif minus then decide (m ≤ 9223372036854775808) else decide (m < 9223372036854775808))]) (0 ≤ m ∧ m < 18446744073709551616) := ⟨fun hc w => by
  refine does_of Tryz.func129 rfl Tryz.ntmps129 rfl ⟨by simp, .nil⟩ (fun n => ?_)
  simp only [slots]
  cases minus
  all_goals refine z_gob
  all_goals refine z_ro
  · exact ⟨two_bool (by show IntKind.i64.wrap _ = IntKind.i64.wrap _; rfl) rfl, rfl⟩
  · exact ⟨two_bool (by show IntKind.i64.wrap (IntKind.u64.wrap (0 - m)) = IntKind.i64.wrap (-m); rw [IntKind.wrap_u64, IntKind.wrap_i64, IntKind.wrap_i64]; omega) rfl, rfl⟩⟩
/-- A quotient's magnitude; has it room? -/
def divQ (z b mode : Int) : Int := absI z / b + if upB mode (absI z % b) b (decide (z < 0)) then 1 else 0
def divOk (z b mode : Int) : Bool := bif decide (z < 0) then decide (divQ z b mode ≤ 9223372036854775808) else decide (divQ z b mode < 9223372036854775808)
theorem divV_eq (z b mode : Int) : divV z b mode = bif decide (z < 0) then -(divQ z b mode) else divQ z b mode := rfl
theorem divQ_pos (z : Int) {b : Int} (mode : Int) (hb : 0 < b) : 0 ≤ divQ z b mode := by
  have : 0 ≤ absI z / b := Int.ediv_nonneg (by unfold absI; split <;> omega) (by omega)
  unfold divQ
  split <;> omega
theorem divOk_of {z b mode : Int} (h : -9223372036854775808 ≤ divV z b mode ∧ divV z b mode ≤ 9223372036854775807) : divOk z b mode = true := by
  rw [divV_eq] at h
  unfold divOk
  cases hz : decide (z < 0) <;> rw [hz] at h <;> simp only [cond_true, cond_false] at h ⊢ <;> exact decide_eq_true (by omega)
theorem divOk_in {z b mode : Int} (hb : 0 < b) (h : divOk z b mode = true) : -9223372036854775808 ≤ divV z b mode ∧ divV z b mode ≤ 9223372036854775807 := by
  have h0 := divQ_pos z mode hb
  rw [divV_eq]
  unfold divOk at h
  cases hz : decide (z < 0) <;> rw [hz] at h <;> simp only [cond_true, cond_false] at h ⊢ <;> have h := of_decide_eq_true h <;> omega
theorem divOk_hi {z b mode : Int} (hb : 0 < b) (h : b ≤ absI z / 18446744073709551616) : divOk z b mode = false := by
  have h1 : b * 18446744073709551616 ≤ absI z := by omega
  have h2 : 18446744073709551616 ≤ absI z / b := (Int.le_ediv_iff_mul_le hb).2 (by omega)
  have h3 : 18446744073709551616 ≤ divQ z b mode := by unfold divQ; split <;> omega
  unfold divOk
  cases decide (z < 0) <;> simp only [cond_true, cond_false] <;> exact decide_eq_false (by omega)
set_option maxHeartbeats 64000000 in
theorem divX_any (z b mode : Int) (w : World) (hz : -85070591730234615865843651857942052864 ≤ z ∧ z ≤ 85070591730234615865843651857942052864) (hb : 0 < b ∧ b ≤ 9223372036854775807) (hm : 0 ≤ mode ∧ mode ≤ 3) :
    Does Tryz.prog 93 [.agg (wideV z).toArray, .int .i64 b, .int .i64 mode] [] w (fun v S' => v = .tuple #[.int .i64 (bif divOk z b mode then divV z b mode else 0), .int .i64 (bif divOk z b mode then 0 else 10)] ∧ S' = []) := by
  obtain ⟨c3, c4⟩ := hb
  obtain ⟨c5, c6⟩ := hm
  have hab : absI b = b := by unfold absI; rw [if_neg (by omega)]
  have h0 : 0 ≤ absI z ∧ absI z ≤ 85070591730234615865843651857942052864 := by unfold absI; split <;> omega
  have hhi := divOk_hi (z := z) (mode := mode) c3
  have hr : 0 ≤ absI z % b ∧ absI z % b < b := ⟨Int.emod_nonneg _ (by omega), Int.emod_lt_of_pos _ c3⟩
  have hq0 : 0 ≤ absI z / b := Int.ediv_nonneg h0.1 (by omega)
  have hq1 : absI z / 18446744073709551616 < b → absI z / b < 18446744073709551616 := fun h => Int.ediv_lt_of_lt_mul c3 (by omega)
  have hdm : absI z / 18446744073709551616 * 18446744073709551616 + absI z % 18446744073709551616 = absI z := by omega
  have iS := fun m minus => signedX m minus
  have iN := negW_any z
  have eV := divV_eq z b mode
  have eO : divOk z b mode = bif decide (z < 0) then decide (divQ z b mode ≤ 9223372036854775808) else decide (divQ z b mode < 9223372036854775808) := rfl
  have eQ : divQ z b mode = absI z / b + if upB mode (absI z % b) b (decide (z < 0)) then 1 else 0 := rfl
  have iM : CV Tryz.prog 91 [.int .i64 b] (.int .u64 b) True := ⟨fun _ w => by have := (magnitude_any b).h ⟨by omega, c4⟩ w; rwa [hab] at this⟩
  have iD := (div64_cv (absI z / 18446744073709551616) (absI z % 18446744073709551616) b)
  rw [hdm] at iD
  have iU := up_any mode (absI z % b) b (decide (z < 0))
  have iB : ∀ w0 W H t u x y, MS Tryz.prog w0 W H (.binOp .lss t x y u) [.int .i64 b, .int .i64 0] (.bool false) True := fun _ _ _ _ _ _ _ => msM inferInstance trivial (congrArg _ (decide_eq_false (by omega)))
  generalize upB mode (absI z % b) b (decide (z < 0)) = up at *
  generalize divOk z b mode = ok at *
  generalize divV z b mode = V at *
  generalize divQ z b mode = Q at *
  refine does_of Tryz.func93 rfl Tryz.ntmps93 rfl ⟨by simp, .nil⟩ (fun n => ?_)
  simp only [slots]
  rcases Int.lt_or_le z 0 with hz0 | hz0
  · have ez : absI z = -z := by unfold absI; rw [if_pos hz0]
    have hz1 : z / 18446744073709551616 < 0 := by omega
    have iL : ∀ w0 W H t u a b, MS Tryz.prog w0 W H (.binOp .lss t a b u) [.int .i64 (z / 18446744073709551616), .int .i64 0] (.bool true) True := fun _ _ _ _ _ _ _ => msM inferInstance trivial (congrArg _ (decide_eq_true hz1))
    have iE : ∀ w0 W H u a b, MS Tryz.prog w0 W H (.binOp .neq 4 a b u) [.bool true, .bool false] (.bool true) True := fun _ _ _ _ _ _ => msM inferInstance trivial rfl
    rw [decide_eq_true hz0] at eV eO iU
    simp only [cond_true] at eV eO
    have e3 : -z / 18446744073709551616 = absI z / 18446744073709551616 := by rw [ez]
    have e4 : -z % 18446744073709551616 = absI z % 18446744073709551616 := by rw [ez]
    simp only [wideV] at iN ⊢
    rw [e3, e4] at iN
    clear hab ez e3 e4 hdm
    generalize absI z = a at *
    generalize a / b = q at *
    generalize a % b = r at *
    rcases Int.lt_or_le (a / 18446744073709551616) b with hlt | hge
    · have hq1 := hq1 hlt
      cases up
      · simp only [Bool.false_eq_true, if_false, Int.add_zero] at eQ
        refine z_tas
        all_goals refine z_ro
        all_goals (rename_i h; simp only [cond_true, cond_false, decide_eq_true_eq, Classical.not_not] at h)
        · have e : ok = false := by rw [eO]; exact decide_eq_false (by omega)
          subst e
          exact ⟨rfl, rfl⟩
        · have e : ok = true := by rw [eO]; exact decide_eq_true (by omega)
          subst e
          exact ⟨two_ii (by show IntKind.i64.wrap _ = V; rw [IntKind.wrap_i64]; simp only [cond_true, cond_false]; omega) rfl, rfl⟩
      · simp only [if_true] at eQ
        by_cases hqm : q = 18446744073709551615
        · have i1 : ∀ w0 W H t u a b, MS Tryz.prog w0 W H (.binOp .add t a b u) [.int .u64 q, .int .u64 1] (.int .u64 0) True := fun _ _ _ _ _ _ _ => msW inferInstance trivial (by rw [hqm]; rfl)
          have e : ok = false := by rw [eO]; exact decide_eq_false (by omega)
          subst e
          refine z_tas
          refine z_ro
          exact ⟨rfl, rfl⟩
        · refine z_tas
          all_goals refine z_ro
          all_goals (rename_i h; simp only [cond_true, cond_false, decide_eq_true_eq, Classical.not_not] at h)
          · have e : ok = false := by rw [eO]; exact decide_eq_false (by omega)
            subst e
            exact ⟨rfl, rfl⟩
          · have e : ok = true := by rw [eO]; exact decide_eq_true (by omega)
            subst e
            exact ⟨two_ii (by show IntKind.i64.wrap _ = V; rw [IntKind.wrap_i64]; simp only [cond_true, cond_false]; omega) rfl, rfl⟩
    · have hok := hhi hge
      subst hok
      refine z_tas
      refine z_ro
      exact ⟨rfl, rfl⟩
  · have ez : absI z = z := by unfold absI; rw [if_neg (by omega)]
    have hz1 : ¬ z / 18446744073709551616 < 0 := by omega
    have iL : ∀ w0 W H t u a b, MS Tryz.prog w0 W H (.binOp .lss t a b u) [.int .i64 (z / 18446744073709551616), .int .i64 0] (.bool false) True := fun _ _ _ _ _ _ _ => msM inferInstance trivial (congrArg _ (decide_eq_false hz1))
    have iE : ∀ w0 W H u a b, MS Tryz.prog w0 W H (.binOp .neq 4 a b u) [.bool false, .bool false] (.bool false) True := fun _ _ _ _ _ _ => msM inferInstance trivial rfl
    rw [decide_eq_false (by omega : ¬ z < 0)] at eV eO iU
    simp only [cond_false] at eV eO
    have e3 : z / 18446744073709551616 = absI z / 18446744073709551616 := by rw [ez]
    have e4 : z % 18446744073709551616 = absI z % 18446744073709551616 := by rw [ez]
    simp only [wideV]
    clear iN
    rw [e3] at iL
    rw [e3, e4]
    clear hab ez e3 e4 hdm
    generalize absI z = a at *
    generalize a / b = q at *
    generalize a % b = r at *
    rcases Int.lt_or_le (a / 18446744073709551616) b with hlt | hge
    · have hq1 := hq1 hlt
      cases up
      · simp only [Bool.false_eq_true, if_false, Int.add_zero] at eQ
        refine z_tas
        all_goals refine z_ro
        all_goals (rename_i h; simp only [cond_true, cond_false, decide_eq_true_eq, Classical.not_not] at h)
        · have e : ok = false := by rw [eO]; exact decide_eq_false (by omega)
          subst e
          exact ⟨rfl, rfl⟩
        · have e : ok = true := by rw [eO]; exact decide_eq_true (by omega)
          subst e
          exact ⟨two_ii (by show IntKind.i64.wrap _ = V; rw [IntKind.wrap_i64]; simp only [cond_true, cond_false]; omega) rfl, rfl⟩
      · simp only [if_true] at eQ
        by_cases hqm : q = 18446744073709551615
        · have i1 : ∀ w0 W H t u a b, MS Tryz.prog w0 W H (.binOp .add t a b u) [.int .u64 q, .int .u64 1] (.int .u64 0) True := fun _ _ _ _ _ _ _ => msW inferInstance trivial (by rw [hqm]; rfl)
          have e : ok = false := by rw [eO]; exact decide_eq_false (by omega)
          subst e
          refine z_tas
          refine z_ro
          exact ⟨rfl, rfl⟩
        · refine z_tas
          all_goals refine z_ro
          all_goals (rename_i h; simp only [cond_true, cond_false, decide_eq_true_eq, Classical.not_not] at h)
          · have e : ok = false := by rw [eO]; exact decide_eq_false (by omega)
            subst e
            exact ⟨rfl, rfl⟩
          · have e : ok = true := by rw [eO]; exact decide_eq_true (by omega)
            subst e
            exact ⟨two_ii (by show IntKind.i64.wrap _ = V; rw [IntKind.wrap_i64]; simp only [cond_true, cond_false]; omega) rfl, rfl⟩
    · have hok := hhi hge
      subst hok
      refine z_tas
      refine z_ro
      exact ⟨rfl, rfl⟩
/-- The product, divided. -/
theorem muldivX_any (a b c mode : Int) (w : World) (ha : InR .i64 a) (hb : InR .i64 b) (hc : 0 < c ∧ c ≤ 9223372036854775807) (hm : 0 ≤ mode ∧ mode ≤ 3) :
    Does Tryz.prog 57 [.int .i64 a, .int .i64 b, .int .i64 c, .int .i64 mode] [] w (fun v S' => v = .tuple #[.int .i64 (bif divOk (a * b) c mode then divV (a * b) c mode else 0), .int .i64 (bif divOk (a * b) c mode then 0 else 10)] ∧ S' = []) := by
  have ha1 : -9223372036854775808 ≤ a ∧ a ≤ 9223372036854775807 := ha
  have hb1 : -9223372036854775808 ≤ b ∧ b ≤ 9223372036854775807 := hb
  have h1 := mulB 9223372036854775808 9223372036854775808 (a := a) (b := b) (by omega) (by omega)
  have iD : CV Tryz.prog 93 [.agg (wideV (a * b)).toArray, .int .i64 c, .int .i64 mode] (.tuple #[.int .i64 (bif divOk (a * b) c mode then divV (a * b) c mode else 0), .int .i64 (bif divOk (a * b) c mode then 0 else 10)]) True := ⟨fun _ w => divX_any (a * b) c mode w (by omega) hc hm⟩
  have iM := mulW_any a b
  generalize a * b = z at *
  generalize divOk z c mode = ok at *
  generalize divV z c mode = V at *
  refine does_of Tryz.func57 rfl Tryz.ntmps57 rfl ⟨by simp, .nil⟩ (fun n => ?_)
  simp only [slots]
  refine z_tas
  refine z_ro
  exact ⟨rfl, rfl⟩
/-- A quotient that has room. -/
theorem muldiv_cv (a b c mode : Int) : CV Tryz.prog 57 [.int .i64 a, .int .i64 b, .int .i64 c, .int .i64 mode] (.tuple #[.int .i64 (divV (a * b) c mode), .int .i64 0]) ((InR .i64 a ∧ InR .i64 b) ∧ (0 < c ∧ c ≤ 9223372036854775807) ∧ (0 ≤ mode ∧ mode ≤ 3) ∧ -9223372036854775808 ≤ divV (a * b) c mode ∧ divV (a * b) c mode ≤ 9223372036854775807) := ⟨fun ⟨h1, h2, h3, h4⟩ w => by
  have := muldivX_any a b c mode w h1.1 h1.2 h2 h3
  rw [divOk_of h4] at this
  exact this⟩
end Go.Proofs.YtemmnpgebpffbaaGreat
