/- WHO STAYS LIES WHERE THE PROFILE DOES: for every map, every search, every profile and any cost of a step the law DriftStill of the given program returns true, and leaves its arguments as they were. No condition. No condition. -/
import Derived.Carry
import Derived.Test.YtemmnpgebpffbaaMD15
set_option linter.unusedVariables false
set_option linter.unusedSimpArgs false
/- Drifting, the plain part: ways, and the least of them. -/
namespace Go.Proofs.Ytemmnpgebpffbaa
def nearP (far : Int) (a b : Nat) : Prop := absD (pS far a).1 (pS far b).1 ≤ 1 ∧ absD (pS far a).2 (pS far b).2 ≤ 1
def dstP (far : Int) (a b : Nat) : Int := absD (pS far a).1 (pS far b).1 + absD (pS far a).2 (pS far b).2
theorem dstP_pos (far : Int) (a b : Nat) : 0 ≤ dstP far a b := by unfold dstP absD; omega
theorem trn_eq (t far : Int) (a b : Nat) : (trnF t (pS far a) (pS far b)).1 = dstP far a b * t := rfl
theorem trn_near (t far : Int) (a b : Nat) : (trnF t (pS far a) (pS far b)).2 = true ↔ nearP far a b := by unfold trnF nearP; simp
/-- A way from a height on: what it costs to be there, and how much it turns. -/
inductive Way (far : Int) (N : Nat) (cst : Nat → Nat → Int) : Nat → List Nat → Int → Int → Prop
  | one {n a : Nat} : a < N → cst n a ≠ -1 → Way far N cst n [a] (cst n a) 0
  | cons {n a b : Nat} {r : List Nat} {c u : Int} : a < N → cst n a ≠ -1 → nearP far a b → Way far N cst (n + 1) (b :: r) c u → Way far N cst n (a :: b :: r) (cst n a + c) (dstP far a b + u)
section
variable {far : Int} {N : Nat} {cst : Nat → Nat → Int}
theorem Way.pos (hc : ∀ n a, -1 ≤ cst n a) {n : Nat} {l : List Nat} {c u : Int} (h : Way far N cst n l c u) : 0 ≤ c ∧ 0 ≤ u := by
  induction h with
  | one h1 h2 => rename_i n a; have := hc n a; omega
  | cons h1 h2 h3 h4 ih => rename_i n a b r c u; have := hc n a; have := dstP_pos far a b; omega
theorem Way.snoc : ∀ {l : List Nat} {n a b : Nat} {c u : Int}, Way far N cst n (l ++ [a]) c u → b < N → cst (n + l.length + 1) b ≠ -1 → nearP far a b → Way far N cst n (l ++ [a, b]) (c + cst (n + l.length + 1) b) (u + dstP far a b)
  | [], n, a, b, c, u, h, hb, hc, hn => by
    cases h with
    | one h1 h2 =>
      rw [Int.zero_add]
      have := Way.cons (n := n) h1 h2 hn (.one hb hc)
      rwa [Int.add_zero] at this
  | [x], n, a, b, c, u, h, hb, hc, hn => by
    cases h with
    | cons h1 h2 h3 h4 =>
      have := Way.snoc (l := []) h4 hb (by rw [show n + 1 + ([] : List Nat).length + 1 = n + [x].length + 1 by simp]; exact hc) hn
      have h5 := Way.cons h1 h2 h3 this
      rw [show n + 1 + ([] : List Nat).length + 1 = n + [x].length + 1 by simp] at h5
      rw [Int.add_assoc, Int.add_assoc]
      exact h5
  | x :: y :: l, n, a, b, c, u, h, hb, hc, hn => by
    cases h with
    | cons h1 h2 h3 h4 =>
      have := Way.snoc (l := y :: l) h4 hb (by rw [show n + 1 + (y :: l).length + 1 = n + (x :: y :: l).length + 1 by simp only [List.length_cons]; omega]; exact hc) hn
      have h5 := Way.cons h1 h2 h3 this
      rw [show n + 1 + (y :: l).length + 1 = n + (x :: y :: l).length + 1 by simp only [List.length_cons]; omega] at h5
      rw [Int.add_assoc, Int.add_assoc]
      exact h5
theorem Way.unsnoc : ∀ {l : List Nat} {n a b : Nat} {c u : Int}, Way far N cst n (l ++ [a, b]) c u → ∃ c' u', Way far N cst n (l ++ [a]) c' u' ∧ b < N ∧ cst (n + l.length + 1) b ≠ -1 ∧ nearP far a b ∧ c = c' + cst (n + l.length + 1) b ∧ u = u' + dstP far a b
  | [], n, a, b, c, u, h => by
    cases h with
    | cons h1 h2 h3 h4 =>
      cases h4 with
      | one h5 h6 => exact ⟨_, _, .one h1 h2, h5, h6, h3, rfl, by omega⟩
  | [x], n, a, b, c, u, h => by
    cases h with
    | cons h1 h2 h3 h4 =>
      obtain ⟨c', u', w, h5, h6, h7, e1, e2⟩ := Way.unsnoc (l := []) h4
      rw [show n + 1 + ([] : List Nat).length + 1 = n + [x].length + 1 by simp] at h6 e1
      exact ⟨_, _, .cons h1 h2 h3 w, h5, h6, h7, by rw [e1, Int.add_assoc], by rw [e2, Int.add_assoc]⟩
  | x :: y :: l, n, a, b, c, u, h => by
    cases h with
    | cons h1 h2 h3 h4 =>
      obtain ⟨c', u', w, h5, h6, h7, e1, e2⟩ := Way.unsnoc (l := y :: l) h4
      rw [show n + 1 + (y :: l).length + 1 = n + (x :: y :: l).length + 1 by simp only [List.length_cons]; omega] at h6 e1
      exact ⟨_, _, .cons h1 h2 h3 w, h5, h6, h7, by rw [e1, Int.add_assoc], by rw [e2, Int.add_assoc]⟩
theorem Way.mem {n : Nat} {l : List Nat} {c u : Int} (h : Way far N cst n l c u) : ∀ a ∈ l, a < N := by
  induction h with
  | one h1 h2 => intro x hx; simp at hx; subst hx; exact h1
  | cons h1 h2 h3 h4 ih =>
    intro x hx
    rcases List.mem_cons.1 hx with rfl | hx
    · exact h1
    · exact ih x hx
theorem last_of {α : Type} {l : List α} (h : l ≠ []) : ∃ l' a, l = l' ++ [a] := by
  rcases List.eq_nil_or_concat l with h1 | ⟨L, b, h1⟩
  · exact absurd h1 h
  · exact ⟨L, b, by simpa using h1⟩
theorem Way.ne {n : Nat} {l : List Nat} {c u : Int} (h : Way far N cst n l c u) : l ≠ [] := by cases h <;> simp
end
theorem grow_le {t far : Int} {last : Nat → Int} {c : Int} {a : Nat} (ht : 0 ≤ t) (hl : ∀ k, -1 ≤ last k) (hc : 0 ≤ c) : ∀ n k, k < n → nearP far k a → last k ≠ -1 → (growTo t far last c a n).1 ≠ -1 ∧ (growTo t far last c a n).1 ≤ last k + dstP far k a * t + c
  | n + 1, k, hk, hn, hlk => by
    have cand : ∀ j, last j ≠ -1 → 0 ≤ last j + dstP far j a * t + c := fun j hj => by
      have := hl j
      have := Int.mul_nonneg (dstP_pos far j a) ht
      omega
    rw [growTo]
    rcases Nat.lt_or_ge k n with h | h
    · obtain ⟨h1, h2⟩ := grow_le (far := far) (a := a) ht hl hc n k h hn hlk
      split
      · exact ⟨h1, h2⟩
      · rename_i hb
        have hj : last n ≠ -1 := fun e => hb (.inr e)
        have hcd := cand n hj
        split
        · rename_i hlt
          rw [trn_eq] at hlt ⊢
          dsimp only
          refine ⟨by omega, ?_⟩
          rcases hlt with h3 | h3
          · exact absurd h3 h1
          · omega
        · exact ⟨h1, h2⟩
    · obtain rfl : k = n := by omega
      have hnn : ¬ ((trnF t (pS far k) (pS far a)).2 = false ∨ last k = -1) := by
        rintro (h1 | h1)
        · have := (trn_near t far k a).2 hn
          rw [this] at h1; cases h1
        · exact hlk h1
      rw [if_neg hnn]
      have hcd := cand k hlk
      split
      · rw [trn_eq]
        dsimp only
        omega
      · rename_i hlt
        rw [trn_eq] at hlt
        omega
section
variable {t far : Int} {N : Nat} {cst : Nat → Nat → Int}
theorem bakL_last (G : Nat → Nat → Int × Int) : ∀ n b, ∃ l, bakL G n b = l ++ [b] ∧ l.length = n
  | 0, b => ⟨[], rfl, rfl⟩
  | n + 1, b => ⟨_, rfl, bakL_len G n _⟩
/-- What the trellis tells is the cost of the way back. -/
theorem tre_way : ∀ n a, a < N → (tre t far N cst n a).1 ≠ -1 → ∃ c u, Way far N cst 0 (bakL (tre t far N cst) n a) c u ∧ (tre t far N cst n a).1 = c + u * t
  | 0, a, ha, h => by
    by_cases hc : cst 0 a = -1
    · exact absurd (by rw [tre_none t far N cst 0 a hc]) h
    · refine ⟨_, _, .one ha hc, ?_⟩
      rw [tre_first t far N cst a hc]
      omega
  | n + 1, a, ha, h => by
    obtain ⟨k, k1, k2, k3, k4, k5, k6⟩ := tre_back h
    obtain ⟨c, u, w, e⟩ := tre_way n k k1 k3
    obtain ⟨l, hl, hn⟩ := bakL_last (tre t far N cst) n k
    rw [hl] at w
    have hw := w.snoc ha (by rw [Nat.zero_add, hn]; exact k6) ((trn_near t far k a).1 k4)
    rw [Nat.zero_add, hn] at hw
    refine ⟨c + cst (n + 1) a, u + dstP far k a, ?_, ?_⟩
    · rw [bakL, k2, Int.toNat_natCast, hl, List.append_assoc]
      exact hw
    · rw [k5, e, trn_eq, Int.add_mul]
      omega
/-- No way costs less. -/
theorem tre_le (ht : 0 ≤ t) (hc : ∀ n a, -1 ≤ cst n a) (hg : ∀ n a, -1 ≤ (tre t far N cst n a).1) : ∀ n (l : List Nat) a c u, l.length = n → Way far N cst 0 (l ++ [a]) c u → (tre t far N cst n a).1 ≠ -1 ∧ (tre t far N cst n a).1 ≤ c + u * t
  | 0, l, a, c, u, hl, h => by
    obtain rfl : l = [] := List.eq_nil_of_length_eq_zero hl
    cases h with
    | one h1 h2 =>
      rw [tre_first t far N cst a h2]
      dsimp only
      omega
  | n + 1, l, a, c, u, hl, h => by
    obtain ⟨l', b, rfl⟩ : ∃ l' b, l = l' ++ [b] := last_of (by rintro rfl; cases hl)
    have hl' : l'.length = n := by simpa using hl
    rw [List.append_assoc] at h
    obtain ⟨c', u', w, h1, h2, h3, rfl, rfl⟩ := Way.unsnoc h
    rw [Nat.zero_add, hl'] at h2
    obtain ⟨g1, g2⟩ := tre_le ht hc hg n l' b c' u' hl' w
    have hb : b < N := w.mem b (by simp)
    have hcn := hc (n + 1) a
    obtain ⟨e1, e2⟩ := grow_le (far := far) (last := fun k => (tre t far N cst n k).1) (c := cst (n + 1) a) (a := a) ht (fun k => hg n k) (by omega) N b hb h3 g1
    rw [tre_next t far N cst n a h2]
    refine ⟨e1, ?_⟩
    have e2' : (growTo t far (fun k => (tre t far N cst n k).1) (cst (n + 1) a) a N).1 ≤ (tre t far N cst n b).1 + dstP far b a * t + cst (n + 1) a := e2
    rw [Nat.zero_add, hl', Int.add_mul]
    omega
theorem bstG_le {g : Nat → Int} : ∀ {n b : Nat}, bstG g n = some b → ∀ a, a < n → g a ≠ -1 → g b ≤ g a
  | 0, b, h => by simp [bstG] at h
  | n + 1, b, h => by
    intro a ha hga
    rw [bstG] at h
    split at h
    · rename_i h1
      rcases Nat.lt_or_ge a n with h2 | h2
      · exact bstG_le h a h2 hga
      · obtain rfl : a = n := by omega
        exact absurd h1 hga
    · split at h
      · rename_i h3
        injection h with h; subst h
        rcases Nat.lt_or_ge a n with h2 | h2
        · exact absurd (bstG_no h3 a h2) hga
        · obtain rfl : a = n := by omega
          exact Int.le_refl _
      · rename_i c hc
        split at h
        · rename_i hlt
          injection h with h; subst h
          rcases Nat.lt_or_ge a n with h2 | h2
          · have := bstG_le hc a h2 hga; omega
          · obtain rfl : a = n := by omega
            exact Int.le_refl _
        · rename_i hge
          injection h with h; subst h
          rcases Nat.lt_or_ge a n with h2 | h2
          · exact bstG_le hc a h2 hga
          · obtain rfl : a = n := by omega
            omega
where
  bstG_no {g : Nat → Int} : ∀ {n : Nat}, bstG g n = none → ∀ a, a < n → g a = -1
  | n + 1, h, a, ha => by
    rw [bstG] at h
    split at h
    · rename_i h1
      rcases Nat.lt_or_ge a n with h2 | h2
      · exact bstG_no h a h2
      · obtain rfl : a = n := by omega
        exact h1
    · split at h
      · cases h
      · split at h <;> cases h
theorem best_some (ht : 0 ≤ t) (hc : ∀ n a, -1 ≤ cst n a) (hg : ∀ n a, -1 ≤ (tre t far N cst n a).1) {n b : Nat} (h : bstG (fun a => (tre t far N cst n a).1) N = some b) :
    ∃ c u, Way far N cst 0 (bakL (tre t far N cst) n b) c u ∧ (tre t far N cst n b).1 = c + u * t ∧ ∀ (l : List Nat) c' u', l.length = n + 1 → Way far N cst 0 l c' u' → (tre t far N cst n b).1 ≤ c' + u' * t := by
  obtain ⟨h1, h2⟩ := bstG_lt h
  obtain ⟨c, u, w, e⟩ := tre_way n b h1 h2
  refine ⟨c, u, w, e, fun l c' u' hl hw => ?_⟩
  obtain ⟨l', a, rfl⟩ : ∃ l' a, l = l' ++ [a] := last_of hw.ne
  have hl' : l'.length = n := by simpa using hl
  obtain ⟨g1, g2⟩ := tre_le ht hc hg n l' a c' u' hl' hw
  have ha : a < N := hw.mem a (by simp)
  have hle : (tre t far N cst n b).1 ≤ (tre t far N cst n a).1 := bstG_le h a ha g1
  omega
theorem best_none (ht : 0 ≤ t) (hc : ∀ n a, -1 ≤ cst n a) (hg : ∀ n a, -1 ≤ (tre t far N cst n a).1) {n : Nat} (h : bstG (fun a => (tre t far N cst n a).1) N = none) (l : List Nat) (c u : Int) (hl : l.length = n + 1) : ¬ Way far N cst 0 l c u := by
  intro hw
  obtain ⟨l', a, rfl⟩ : ∃ l' a, l = l' ++ [a] := last_of hw.ne
  have hl' : l'.length = n := by simpa using hl
  obtain ⟨g1, -⟩ := tre_le ht hc hg n l' a c u hl' hw
  have ha : a < N := hw.mem a (by simp)
  exact g1 (bstG_le.bstG_no h a ha)
end
end Go.Proofs.Ytemmnpgebpffbaa
/- Layer 40's statements: the cheaper a step. -/
namespace Go.Proofs.Ytemmnpgebpffbaa
open Go.RowKit
def sqD (p q : Int × Int) : Int := (q.1 - p.1) * (q.1 - p.1) + (q.2 - p.2) * (q.2 - p.2)
def uTo (l : List (Int × Int)) : Nat → Int
  | 0 => 0
  | i + 1 => uTo l i + sqD (l.getD i default) (l.getD (i + 1) default)
theorem uTo_cons (p : Int × Int) (l : List (Int × Int)) : ∀ i, uTo (p :: l) (i + 1) = sqD p (l.getD 0 default) + uTo l i
  | 0 => by simp [uTo]
  | i + 1 => by
    rw [uTo, uTo_cons p l i, uTo]
    simp only [List.getD_cons_succ]
    omega
theorem sq_abs {x : Int} (h : max (-x) x ≤ 1) : x * x = max (-x) x := by
  have : x = -1 ∨ x = 0 ∨ x = 1 := by omega
  rcases this with rfl | rfl | rfl <;> rfl
theorem sqD_near {far : Int} {a b : Nat} (h : nearP far a b) : sqD (pS far a) (pS far b) = dstP far a b := by
  obtain ⟨h1, h2⟩ := h
  unfold sqD dstP
  unfold absD at *
  rw [sq_abs (by omega), sq_abs (by omega)]
  omega
theorem way_u {far : Int} {N : Nat} {cst : Nat → Nat → Int} {n : Nat} {l : List Nat} {c u : Int} (h : Way far N cst n l c u) : uTo (l.map (pS far)) (l.length - 1) = u := by
  induction h with
  | one => rfl
  | cons h1 h2 h3 h4 ih =>
    rename_i n a b r c u
    simp only [List.map_cons, List.length_cons, Nat.add_sub_cancel] at ih ⊢
    rw [uTo_cons, List.getD_cons_zero, sqD_near h3, ih]
theorem uTo_bnd {l : List (Int × Int)} (hl : ∀ j, j < l.length → (-8 ≤ (l.getD j default).1 ∧ (l.getD j default).1 ≤ 8) ∧ (-8 ≤ (l.getD j default).2 ∧ (l.getD j default).2 ≤ 8)) : ∀ i, i < l.length → 0 ≤ uTo l i ∧ uTo l i ≤ 512 * i
  | 0, _ => by simp [uTo]
  | i + 1, h => by
    have ih := uTo_bnd hl i (by omega)
    have h1 := hl i (by omega)
    have h2 := hl (i + 1) h
    rw [uTo]
    unfold sqD
    have e1 := mulB 16 16 (a := (l.getD (i + 1) default).1 - (l.getD i default).1) (b := (l.getD (i + 1) default).1 - (l.getD i default).1) (by omega) (by omega)
    have e2 := mulB 16 16 (a := (l.getD (i + 1) default).2 - (l.getD i default).2) (b := (l.getD (i + 1) default).2 - (l.getD i default).2) (by omega) (by omega)
    have e3 := sq_pos ((l.getD (i + 1) default).1 - (l.getD i default).1)
    have e4 := sq_pos ((l.getD (i + 1) default).2 - (l.getD i default).2)
    omega
where sq_pos (x : Int) : 0 ≤ x * x := by
        rcases Int.le_total 0 x with h | h
        · exact Int.mul_nonneg h h
        · exact Int.mul_nonneg_of_nonpos_of_nonpos h h
theorem chk40_ok {s : Sch} {l : List Smp} {t : Int} (h : chk40 s l t = 0) : chk21 s l = 0 ∧ s.far ≤ 8 ∧ 0 ≤ t ∧ t ≤ 1048576 := by
  unfold chk40 at h
  split at h
  · rename_i h1; exact absurd h h1
  · rename_i h1
    split at h
    · cases h
    · split at h
      · cases h
      · exact ⟨Classical.not_not.1 h1, by omega, by omega, by omega⟩
theorem chk40_of {s : Sch} {l : List Smp} {t : Int} (h1 : chk21 s l = 0) (h2 : s.far ≤ 8) (h3 : 0 ≤ t ∧ t ≤ 1048576) : chk40 s l t = 0 := by
  unfold chk40
  rw [if_neg (by rw [h1]; simp), if_neg (by omega), if_neg (by omega)]
attribute [local irreducible] OJ J HdJ Code.wpIn wpListIn Oper.wpIn bodyPost CallsIn Does
set_option maxRecDepth 4000
set_option maxHeartbeats 128000000 in
theorem cheaper_law (a : Int) (ha : InR .u8 a) (b : Int) (hb : InR .u8 b) (A : Option Addr) (c : Nat) (z : List Int) {w : World} (hr : RoA w (blocks []) A z.length c 1 (ints .i16 z)) (hz : ∀ x ∈ z, InR .i16 x) (s : Sch) (_ : InR .i64 s.x) (_ : InR .i64 s.y) (_ : InR .i64 s.far) (_ : InR .i64 s.step) (Al : Option Addr) (cl : Nat) (l : List Smp) (hrl : RoA w (blocks []) Al l.length cl 3 (flat smpE l)) (_ : ∀ p ∈ l, p.ok) (turn : Int) (hturn : InR .i64 turn) (more : Int) (hmore : InR .u16 more) :
    Does Try.prog 8 [.int .u8 a, .int .u8 b, .slice A z.length c, .agg (schE s).toArray, .slice Al l.length cl, .int .i64 turn, .int .u16 more] [] w (fun v _ => v = .bool true) := by
  have ha1 : 0 ≤ a ∧ a ≤ 255 := ha
  have hb1 : 0 ≤ b ∧ b ≤ 255 := hb
  have hmo : 0 ≤ more ∧ more ≤ 65535 := hmore
  obtain ⟨W, hW, hW1⟩ : ∃ x : Nat, 2 + a % 39 = (x : Int) ∧ 2 ≤ x ∧ x ≤ 40 := ⟨(2 + a % 39).toNat, by omega, by omega⟩
  obtain ⟨H, hH, hH1⟩ : ∃ x : Nat, 2 + b % 39 = (x : Int) ∧ 2 ≤ x ∧ x ≤ 40 := ⟨(2 + b % 39).toNat, by omega, by omega⟩
  have iW : CV Try.prog 24 [] (.bool true) True := ⟨fun _ w => works40 w⟩
  refine does_of Try.func8 rfl Try.ntmps8 rfl ⟨by simp, .nil⟩ (fun _ => ?_)
  simp only [slots]
  refine z_tas
  refine lfv rfl rfl rfl (fun w hw => small40_any s w) ?_
  generalize small40 s = s at *
  refine z_tas
  · exact j_out1 rfl rfl (.nil _) rfl
  · exact j_out1 rfl rfl (.nil _) rfl
  refine lfv rfl rfl rfl (fun w hw => rcheck40_any s Al cl l turn w ⟨hrl.h.go hw (Split.nil _)⟩ (by omega)) ?_
  generalize hck : chk40 s l turn = ck at *
  refine z_tas
  · exact j_out1 rfl rfl (.nil _) rfl
  · exact j_out1 rfl rfl (.nil _) rfl
  have hck0 : ck = 0 := by omega
  subst hck0
  obtain ⟨hcz, hf8, ht0, ht1⟩ := chk40_ok hck
  have hck2 := chk40_of hcz hf8 (t := turn + more) (by omega)
  obtain ⟨⟨⟨a1, a2⟩, ⟨a3, a4⟩, ⟨a5, a6⟩, a7, a8⟩, ⟨l1, l2⟩, hl⟩ := chk21_ok hcz
  refine lf rfl rfl rfl (S := []) (fun w hw ho => made_any a b ha hb W H hW hH A c z 30 (by decide) 0 0 w ⟨hr.h.go hw (Split.nil _)⟩ (by omega)) ?_
  rintro v S' ⟨Af, cf, rfl, rfl⟩
  have hfl := fieldF_len z (W * H)
  have hfi := field_in16 hz (W * H)
  generalize fieldF z (W * H) = f at *
  rw [show (1 + 30 % 1000 : Int) = ((31 : Nat) : Int) by decide]
  have hcb : 2 ≤ W ∧ W ≤ 256 ∧ 2 ≤ H ∧ H ≤ 256 ∧ 1 ≤ 31 ∧ 31 ≤ 1000 := by omega
  have hF := caF_of (ox := 0) (oy := 0) hcb hfl hfi (by omega : 1 ≤ 4 ∧ 4 ≤ 32)
  obtain ⟨-, h2, h3, -, -, -⟩ := chart_hdr (ox := 0) (oy := 0) (z := f) (W := W) (H := H) (cell := 31) (by omega)
  refine z_tas
  refine lf rfl rfl rfl (S := []) (fun w hw ho => open10 W H 31 Af cf f 0 0 4 w ⟨Ro.row hw (Split.nil _) (by refine z_hs)⟩ hcb hfl hfi (by decide) (by decide) (by omega)) ?_
  rintro v S' ⟨K, hys, hrm, rfl, rfl⟩
  rw [← hys, ← hrm] at hF
  rw [← hys] at h2 h3
  have k0 : CaOk K.ys f K.room (newV 4) 0 := by rw [hrm]; exact newV_ok (by omega)
  refine z_tas
  refine lf rfl rfl rfl (S := K.H (newV 4)) (fun w hw ho => find_t K (newV 4) f s Al cl l turn 0 w _ rfl ho hF k0 (by omega) ⟨hrl.h.go hw Split.au⟩ (by omega)) ?_
  rintro v S' ⟨s1, k1, h5⟩
  rw [h2, h3, hck] at h5
  have hcst := cst_ok hfi s l hl (W := W) (H := H)
  obtain ⟨cst, hcs⟩ : ∃ x, cstF W H f s l = x := ⟨_, rfl⟩
  have hcs1 : ∀ n a, -1 ≤ cst n a := fun n a => by rw [← hcs]; exact (hcst n a).1
  have hg1 : ∀ n a, -1 ≤ (tre turn s.far (sideN s.far * sideN s.far) cst n a).1 := fun n a => by rw [← hcs]; exact (tre_bnd ⟨ht0, ht1⟩ hcst n a).1
  have hg2 : ∀ n a, -1 ≤ (tre (turn + more) s.far (sideN s.far * sideN s.far) cst n a).1 := fun n a => by rw [← hcs]; exact (tre_bnd ⟨by omega, by omega⟩ hcst n a).1
  have hu1 : ∀ n a, (tre turn s.far (sideN s.far * sideN s.far) cst n a).1 ≤ 10485760 * ((n : Int) + 1) := fun n a => by rw [← hcs]; exact (tre_bnd ⟨ht0, ht1⟩ hcst n a).2
  have hu2 : ∀ n a, (tre (turn + more) s.far (sideN s.far * sideN s.far) cst n a).1 ≤ 10485760 * ((n : Int) + 1) := fun n a => by rw [← hcs]; exact (tre_bnd ⟨by omega, by omega⟩ hcst n a).2
  rw [hcs] at h5
  obtain ⟨r, hr1⟩ : ∃ r, l.length = r + 1 := ⟨l.length - 1, by omega⟩
  rw [show l.length - 1 = r by omega] at h5
  generalize hN : sideN s.far * sideN s.far = N at *
  rcases h5 with ⟨h5, -⟩ | ⟨-, h5, rfl, rfl⟩ | ⟨b1, A1, c1, -, h5, rfl, rfl⟩
  · exact absurd rfl h5
  · refine z_tas
    refine lf rfl rfl rfl (S := K.H s1) (fun w hw ho => find_t K s1 f s Al cl l (turn + more) _ w N hN.symm ho hF k1 (by omega) ⟨hrl.h.go hw Split.au⟩ (by omega)) ?_
    rintro v S' ⟨s2, k2, h6⟩
    rw [h2, h3, hck2, hcs, show l.length - 1 = r by omega] at h6
    rcases h6 with ⟨h6, -⟩ | ⟨-, h6, rfl, rfl⟩ | ⟨b2, A2, c2, -, h6, rfl, rfl⟩
    · exact absurd rfl h6
    · refine z_tas
      exact j_out1 rfl rfl (.nil _) rfl
    · exfalso
      obtain ⟨c', u', w', -, -⟩ := best_some (by omega) hcs1 hg2 h6
      exact best_none ht0 hcs1 hg1 h5 _ c' u' (bakL_len _ _ _) w'
  · refine z_tas
    refine lf rfl rfl rfl (S := K.H s1) (fun w hw ho => find_t K s1 f s Al cl l (turn + more) _ w N hN.symm ho hF k1 (by omega) ⟨hrl.h.go hw Split.au⟩ (by omega)) ?_
    rintro v S' ⟨s2, k2, h6⟩
    rw [h2, h3, hck2, hcs, show l.length - 1 = r by omega] at h6
    obtain ⟨cc1, u1, w1, e1, m1⟩ := best_some ht0 hcs1 hg1 h5
    rcases h6 with ⟨h6, -⟩ | ⟨-, h6, rfl, rfl⟩ | ⟨b2, A2, c2, -, h6, rfl, rfl⟩
    · exact absurd rfl h6
    · exfalso
      exact best_none (by omega) hcs1 hg2 h6 _ cc1 u1 (bakL_len _ _ _) w1
    · obtain ⟨cc2, u2, w2, e2, m2⟩ := best_some (by omega) hcs1 hg2 h6
      have hwl := bakL_len (tre turn s.far N cst) r b1
      have huw := way_u w1
      have hin : ∀ j, j < (bakL (tre turn s.far N cst) r b1).length → (-8 ≤ (((bakL (tre turn s.far N cst) r b1).map (pS s.far)).getD j default).1 ∧ (((bakL (tre turn s.far N cst) r b1).map (pS s.far)).getD j default).1 ≤ 8) ∧ (-8 ≤ (((bakL (tre turn s.far N cst) r b1).map (pS s.far)).getD j default).2 ∧ (((bakL (tre turn s.far N cst) r b1).map (pS s.far)).getD j default).2 ≤ 8) := fun j hj => by
        have hj2 := w1.mem _ (List.getElem_mem hj)
        have := pS_in a1 (n := (bakL (tre turn s.far N cst) r b1)[j]) (by rw [hN]; exact hj2)
        rw [List.getD_eq_getElem?_getD, List.getElem?_map, List.getElem?_eq_getElem hj, Option.map_some, Option.getD_some]
        omega
      have hml : ((bakL (tre turn s.far N cst) r b1).map (pS s.far)).length = r + 1 := by rw [List.length_map, hwl]
      rw [hwl] at huw hin
      rw [Nat.add_sub_cancel] at huw
      generalize (bakL (tre turn s.far N cst) r b1).map (pS s.far) = wl at *
      have hub := uTo_bnd (l := wl) (by rw [hml]; exact hin)
      have hpos2 := (w2.pos hcs1).2
      have hm1 := m1 _ cc2 u2 (bakL_len _ _ _) w2
      have hm2 := m2 _ cc1 u1 (bakL_len _ _ _) w1
      have hub1 := hub r (by omega)
      rw [huw] at hub1
      have hv0 := hg1 r b1
      have hm0 := hg2 r b2
      have hv1 := hu1 r b1
      have hm3 := hu2 r b2
      have hmu := Int.mul_nonneg hpos2 hmo.1
      have hmb := mulB 4096 65535 (a := u1) (b := more) (by omega) (by omega)
      rw [Int.mul_add] at e2 hm2
      generalize u2 * more = um2 at *
      generalize u1 * turn = ut at *
      generalize u2 * turn = ut2 at *
      generalize (tre turn s.far N cst r b1).1 = v at *
      generalize (tre (turn + more) s.far N cst r b2).1 = m at *
      rw [hr1]
      refine z_tas
      refine c_loop (X := Nat) (fun i => i ≤ r) (fun i => [(6, .int .u16 more), (16, .slice A1 (r + 1) c1), (17, .int .i64 v), (20, .int .i64 m), (22, .int .i64 (uTo wl i)), (23, .int .i64 ((i : Int) + 1))])
        (fun i => [.row (.slice A1 (r + 1) c1) 69 2 (r + 1) (flat dE wl)]) (fun i => r - i) 0 (by omega) ⟨rfl, rfl, rfl, rfl, rfl, rfl, trivial⟩ Sub.au ?_
      intro i hi
      rcases Nat.lt_or_ge i r with h | h
      · have eu : uTo wl (i + 1) = uTo wl i + ((wl.getD (i + 1) default).1 - (wl.getD i default).1) * ((wl.getD (i + 1) default).1 - (wl.getD i default).1) + ((wl.getD (i + 1) default).2 - (wl.getD i default).2) * ((wl.getD (i + 1) default).2 - (wl.getD i default).2) := by rw [uTo, sqD, Int.add_assoc]
        have hx := hin i (by omega)
        have hy := hin (i + 1) (by omega)
        have hui := hub i (by omega)
        have q1 := mulB 16 16 (a := (wl.getD (i + 1) default).1 - (wl.getD i default).1) (b := (wl.getD (i + 1) default).1 - (wl.getD i default).1) (by omega) (by omega)
        have q2 := mulB 16 16 (a := (wl.getD (i + 1) default).2 - (wl.getD i default).2) (b := (wl.getD (i + 1) default).2 - (wl.getD i default).2) (by omega) (by omega)
        refine j_opn (A := A1) (m := r + 1) (cc := c1) (by omega) (fun g1 hg1 => ?_)
        subst hg1
        rw [show ((i : Int) + 1) = ((i + 1 : Nat) : Int) by omega]
        refine z_tas
        exact c_round (i + 1) h (by show r - (i + 1) < r - i; omega) ⟨rfl, rfl, rfl, rfl, by rw [eu]; rfl, rfl, trivial⟩ Sub.au
      · obtain rfl : i = r := by omega
        rw [huw]
        refine z_tas
        exact j_out1 rfl rfl (.nil _) rfl
end Go.Proofs.Ytemmnpgebpffbaa
/- Who stays: the plain part. -/
namespace Go.Proofs.Ytemmnpgebpffbaa
/-- What it costs to stay. -/
def sumC (cst : Nat → Nat → Int) (a : Nat) : Nat → Int
  | 0 => 0
  | i + 1 => sumC cst a i + cst i a
theorem dstP_self (far : Int) (a : Nat) : dstP far a a = 0 := by unfold dstP absD; omega
theorem nearP_self (far : Int) (a : Nat) : nearP far a a := by unfold nearP absD; omega
section
variable {far : Int} {N : Nat} {cst : Nat → Nat → Int}
theorem stay_way {a : Nat} (ha : a < N) : ∀ k, (∀ i, i < k + 1 → cst i a ≠ -1) → Way far N cst 0 (List.replicate (k + 1) a) (sumC cst a (k + 1)) 0
  | 0, h => by
    have := Way.one (far := far) (cst := cst) ha (h 0 (by omega))
    simpa [sumC] using this
  | k + 1, h => by
    have ih := stay_way ha k (fun i hi => h i (by omega))
    rw [List.replicate_succ'] at ih
    have := ih.snoc ha (by rw [List.length_replicate, Nat.zero_add]; exact h _ (by omega)) (nearP_self far a)
    rw [List.length_replicate, Nat.zero_add, dstP_self] at this
    rw [List.replicate_succ', List.replicate_succ', List.append_assoc]
    exact this
theorem way_det : ∀ {n : Nat} {l : List Nat} {c u : Int}, Way far N cst n l c u → ∀ {c' u' : Int}, Way far N cst n l c' u' → c = c' ∧ u = u' := by
  intro n l c u h
  induction h with
  | one => intro c' u' h'; cases h' with | one => exact ⟨rfl, rfl⟩
  | cons h1 h2 h3 h4 ih =>
    intro c' u' h'
    cases h' with
    | cons k1 k2 k3 k4 =>
      obtain ⟨e1, e2⟩ := ih k4
      rw [e1, e2]
      exact ⟨rfl, rfl⟩
theorem dst_zero {a b : Nat} (h : dstP far a b = 0) : a = b := by
  unfold dstP absD pS at h
  dsimp only at h
  have e1 : a % sideN far = b % sideN far := by omega
  have e2 : a / sideN far = b / sideN far := by omega
  have h1 := Nat.div_add_mod a (sideN far)
  have h2 := Nat.div_add_mod b (sideN far)
  rw [← h1, ← h2, e1, e2]
theorem way_still (hc : ∀ n a, -1 ≤ cst n a) {n : Nat} {l : List Nat} {c u : Int} (h : Way far N cst n l c u) : u = 0 → ∃ a, a < N ∧ l = List.replicate l.length a := by
  induction h with
  | one h1 h2 => exact fun _ => ⟨_, h1, rfl⟩
  | cons h1 h2 h3 h4 ih =>
    rename_i n a b r c u
    intro hu
    have e1 := dstP_pos far a b
    have e2 := (h4.pos hc).2
    obtain ⟨x, hx, e⟩ := ih (by omega)
    have hab := dst_zero (show dstP far a b = 0 by omega)
    subst hab
    have hxa : a = x := by
      rw [List.length_cons, List.replicate_succ] at e
      injection e
    subst hxa
    refine ⟨a, hx, ?_⟩
    rw [List.length_cons, List.replicate_succ, ← e]
theorem stay_cst : ∀ {k a : Nat} {c u : Int}, Way far N cst 0 (List.replicate (k + 1) a) c u → ∀ i, i < k + 1 → cst i a ≠ -1
  | 0, a, c, u, h, i, hi => by
    obtain rfl : i = 0 := by omega
    cases h with
    | one h1 h2 => exact h2
  | k + 1, a, c, u, h, i, hi => by
    rw [List.replicate_succ', List.replicate_succ', List.append_assoc] at h
    obtain ⟨c', u', w, h1, h2, -⟩ := Way.unsnoc h
    rw [List.length_replicate, Nat.zero_add] at h2
    rcases Nat.lt_or_ge i (k + 1) with h3 | h3
    · rw [← List.replicate_succ'] at w
      exact stay_cst w i h3
    · obtain rfl : i = k + 1 := by omega
      exact h2
theorem stl_rep (p : Int × Int) (n : Nat) : ∀ i, i ≤ n → stl (List.replicate n p) i = true
  | 0, _ => rfl
  | i + 1, h => by
    have g : ∀ j, j < n → (List.replicate n p).getD j default = p := fun j hj => by rw [List.getD_eq_getElem?_getD, List.getElem?_replicate, if_pos hj]; rfl
    rw [stl, stl_rep p n i (by omega), g i (by omega), g 0 (by omega)]
    simp
end
section
variable {W H : Nat} {f : List Int} {s : Sch} {l : List Smp}
theorem off_ne {x : Smp} {i k : Int} : offF W H f s x i k ≠ -1 ↔ codeF W H f (s.x + i * s.step + x.dx) (s.y + k * s.step + x.dy) = 0 := by
  unfold offF
  split
  · rename_i h; exact ⟨fun _ => h, fun _ => by omega⟩
  · rename_i h; exact ⟨fun q => absurd rfl q, fun q => absurd q h⟩
theorem on_iff (a : Nat) : ∀ n, onTo W H f (s.x + (pS s.far a).1 * s.step) (s.y + (pS s.far a).2 * s.step) l n = true ↔ ∀ i, i < n → cstF W H f s l i a ≠ -1
  | 0 => ⟨fun _ i hi => by omega, fun _ => rfl⟩
  | n + 1 => by
    have ih := on_iff a n
    rw [onTo, Bool.and_eq_true, ih, beq_iff_eq]
    have e : cstF W H f s l n a ≠ -1 ↔ _ := off_ne
    constructor
    · rintro ⟨h1, h2⟩ i hi
      rcases Nat.lt_or_ge i n with h | h
      · exact h1 i h
      · obtain rfl : i = n := by omega
        exact e.2 h2
    · intro h
      exact ⟨fun i hi => h i (by omega), e.1 (h n (by omega))⟩
theorem ap_get (X Y : Int) : ∀ n i, i < n → (apTo W H f X Y l n).getD i 0 = heightT W H f (X + (l.getD i default).dx) (Y + (l.getD i default).dy) - (l.getD i default).z
  | n + 1, i, h => by
    rw [apTo]
    rcases Nat.lt_or_ge i n with h1 | h1
    · rw [List.getD_eq_getElem?_getD, List.getElem?_append_left (by rw [apTo_len]; exact h1), ← List.getD_eq_getElem?_getD, ap_get X Y n i h1]
    · obtain rfl : i = n := by omega
      rw [List.getD_eq_getElem?_getD, List.getElem?_append_right (by rw [apTo_len]; exact Nat.le_refl _), apTo_len, Nat.sub_self]
      rfl
theorem cos_sum (a : Nat) (n : Nat) (S : Int) (L : Int) : ∀ k, k ≤ n → (∀ i, i < k → cstF W H f s l i a ≠ -1) → cosTo L S 0 (apTo W H f (s.x + (pS s.far a).1 * s.step) (s.y + (pS s.far a).2 * s.step) l n) k = sumC (cstF W H f s l) a k
  | 0, _, _ => rfl
  | k + 1, hk, h => by
    have ih := cos_sum a n S L k (by omega) (fun i hi => h i (by omega))
    have e := h k (by omega)
    have e2 := off_ne.1 (show offF W H f s (l.getD k default) (pS s.far a).1 (pS s.far a).2 ≠ -1 from e)
    rw [cosTo, sumC, ih, ap_get _ _ _ _ (by omega)]
    congr 1
    have ed : ∀ x, difX L S 0 x = x := fun x => if_neg (by decide)
    have et : ∀ x, terX 0 x = if x < 0 then -x else x := fun x => if_pos (.inl rfl)
    rw [ed, et]
    unfold cstF offF
    rw [if_pos e2]
    split <;> omega
/-- A place of a search, as match tells it: what staying there costs. -/
theorem gS_stay (hf : In16 f) (hl : ∀ j, j < l.length → SmpOk (l.getD j default)) (h64 : l.length ≤ 64) (a : Nat) :
    gS W H f s l 0 a = if ∀ i, i < l.length → cstF W H f s l i a ≠ -1 then some (sumC (cstF W H f s l) a l.length, 0) else none := by
  unfold gS plcF
  have h1 := on_iff (W := W) (H := H) (f := f) (s := s) (l := l) a l.length
  by_cases hon : onTo W H f (s.x + (pS s.far a).1 * s.step) (s.y + (pS s.far a).2 * s.step) l l.length = true
  · rw [if_pos hon, if_pos (h1.1 hon)]
    have hd := DifOk_ap (W := W) (H := H) (X := s.x + (pS s.far a).1 * s.step) (Y := s.y + (pS s.far a).2 * s.step) hf hl l.length (Nat.le_refl _)
    have hlen := apTo_len W H f (s.x + (pS s.far a).1 * s.step) (s.y + (pS s.far a).2 * s.step) l l.length
    have hc := cos_sum (W := W) (H := H) (f := f) (s := s) (l := l) a l.length (sumTo (apTo W H f (s.x + (pS s.far a).1 * s.step) (s.y + (pS s.far a).2 * s.step) l l.length) l.length) l.length l.length (Nat.le_refl _) (h1.1 hon)
    have hb : badTo (apTo W H f (s.x + (pS s.far a).1 * s.step) (s.y + (pS s.far a).2 * s.step) l l.length) l.length = false := badTo_no.2 fun j hj => by have := hd j hj; omega
    have hle : ∀ k, k ≤ l.length → sumC (cstF W H f s l) a k ≤ 8388608 * (k : Int) := by
      intro k
      induction k with
      | zero => intro _; simp [sumC]
      | succ k ih =>
        intro hk
        have := ih (by omega)
        have := (cst_ok hf s l hl (W := W) (H := H) k a).2
        rw [sumC]
        omega
    have hle1 := hle l.length (Nat.le_refl _)
    unfold costF
    rw [hlen, if_neg (by omega), hb, if_neg (by decide), hc, if_neg (by omega)]
  · rw [if_neg hon, if_neg (fun h => hon (h1.2 h))]
theorem all_ok {g : Nat → Option (Int × Int)} {p : Nat → Int × Int} (h : ∀ n, g n = none ∨ ∃ c, g n = some (c, 0)) : ∀ n, (allTo g p n).2 = false
  | 0 => rfl
  | n + 1 => by
    have ih := all_ok (p := p) h n
    rcases h n with hg | ⟨c, hg⟩
    · rw [all_none ih hg]; exact ih
    · rw [all_some ih hg]
theorem cb_min {l : List Stp} (h : ∀ i, i < l.length → 0 ≤ (l.getD i default).cost) : ∀ n, n ≤ l.length → (n = 0 ∧ cbTo l n = ⟨0, 0, -1⟩) ∨ ((∃ j, j < n ∧ cbTo l n = l.getD j default) ∧ ∀ j, j < n → (cbTo l n).cost ≤ (l.getD j default).cost)
  | 0, _ => .inl ⟨rfl, rfl⟩
  | n + 1, hn => by
    have hc := h n (by omega)
    refine .inr ?_
    rw [cbTo]
    rcases cb_min h n (by omega) with ⟨rfl, e⟩ | ⟨⟨j, hj, e⟩, hm⟩
    · rw [e, if_pos (.inl (by show (-1 : Int) < 0; decide))]
      exact ⟨⟨0, by omega, rfl⟩, fun j hj => by obtain rfl : j = 0 := by omega
                                                exact Int.le_refl _⟩
    · have hp := h j (by omega)
      rw [← e] at hp
      split
      · rename_i hlt
        refine ⟨⟨n, by omega, rfl⟩, fun i hi => ?_⟩
        rcases Nat.lt_or_ge i n with h1 | h1
        · have := hm i h1; omega
        · obtain rfl : i = n := by omega
          exact Int.le_refl _
      · rename_i hge
        refine ⟨⟨j, by omega, e⟩, fun i hi => ?_⟩
        rcases Nat.lt_or_ge i n with h1 | h1
        · exact hm i h1
        · obtain rfl : i = n := by omega
          omega
/-- Who stays: what the best place costs. -/
theorem best_stay (hf : In16 f) (hc : chk21 s l = 0) (hne : (allL W H f s l 0).length ≠ 0) :
    (∃ a, a < sideN s.far * sideN s.far ∧ (∀ i, i < l.length → cstF W H f s l i a ≠ -1) ∧ (cbTo (allL W H f s l 0) (allL W H f s l 0).length).cost = sumC (cstF W H f s l) a l.length) ∧
    ∀ a, a < sideN s.far * sideN s.far → (∀ i, i < l.length → cstF W H f s l i a ≠ -1) → (cbTo (allL W H f s l 0) (allL W H f s l 0).length).cost ≤ sumC (cstF W H f s l) a l.length := by
  obtain ⟨hs, ⟨l1, l2⟩, hl⟩ := chk21_ok hc
  have hin := fun i hi => allL_in (W := W) (H := H) (f := f) (s := s) (l := l) (m := 0) (i := i) hi
  have hg := fun a => gS_stay (W := W) (H := H) (s := s) hf hl l2 a
  have heq : allL W H f s l 0 = (allTo (gS W H f s l 0) (pS s.far) (sideN s.far * sideN s.far)).1 := by unfold allL allN; rw [if_pos hc]
  have hok := all_ok (g := gS W H f s l 0) (p := pS s.far) (fun n => by
    rw [hg n]
    split
    · exact .inr ⟨_, rfl⟩
    · exact .inl rfl)
  rcases cb_min (l := allL W H f s l 0) (fun i hi => (hin i hi).2.2.1.1) _ (Nat.le_refl _) with ⟨e, -⟩ | ⟨⟨j, hj, e⟩, hm⟩
  · exact absurd e hne
  constructor
  · have hx : (allL W H f s l 0).getD j default ∈ allL W H f s l 0 := by
      rw [List.getD_eq_getElem?_getD, List.getElem?_eq_getElem hj]
      exact List.getElem_mem ..
    rw [← e] at hx
    rw [heq] at hx ⊢
    obtain ⟨a, ha, -, -, h3⟩ := all_mem _ _ hx
    rw [hg a] at h3
    split at h3
    · rename_i hall
      injection h3 with h3
      injection h3 with h3 _
      exact ⟨a, ha, hall, h3.symm⟩
    · cases h3
  · intro a ha hall
    have hga := hg a
    rw [if_pos hall] at hga
    obtain ⟨h1, h2⟩ := all_at ha (hok a) hga
    rw [← heq] at h1 h2
    have := hm _ h2
    rw [h1] at this
    exact this
end
end Go.Proofs.Ytemmnpgebpffbaa
/- Layer 40's statements: who stays. -/
namespace Go.Proofs.Ytemmnpgebpffbaa
open Go.RowKit
theorem cb_in0 (W H : Nat) (f : List Int) (s : Sch) (l : List Smp) : -1 ≤ (cbTo (allL W H f s l 0) (allL W H f s l 0).length).cost ∧ (cbTo (allL W H f s l 0) (allL W H f s l 0).length).cost ≤ 4611686018427387904 := by
  have hall := fun i hi => allL_in (W := W) (H := H) (f := f) (s := s) (l := l) (m := 0) (i := i) hi
  rcases cb_min (l := allL W H f s l 0) (fun i hi => (hall i hi).2.2.1.1) _ (Nat.le_refl _) with ⟨-, e⟩ | ⟨⟨j, hj, e⟩, -⟩
  · rw [e]; decide
  · have := (hall j hj).2.2.1
    rw [e]; omega
attribute [local irreducible] OJ J HdJ Code.wpIn wpListIn Oper.wpIn bodyPost CallsIn Does
set_option maxRecDepth 4000
set_option maxHeartbeats 128000000 in
theorem still_law (a : Int) (ha : InR .u8 a) (b : Int) (hb : InR .u8 b) (A : Option Addr) (c : Nat) (z : List Int) {w : World} (hr : RoA w (blocks []) A z.length c 1 (ints .i16 z)) (hz : ∀ x ∈ z, InR .i16 x) (s : Sch) (_ : InR .i64 s.x) (_ : InR .i64 s.y) (_ : InR .i64 s.far) (_ : InR .i64 s.step) (Al : Option Addr) (cl : Nat) (l : List Smp) (hrl : RoA w (blocks []) Al l.length cl 3 (flat smpE l)) (_ : ∀ p ∈ l, p.ok) (turn : Int) (hturn : InR .i64 turn) :
    Does Try.prog 9 [.int .u8 a, .int .u8 b, .slice A z.length c, .agg (schE s).toArray, .slice Al l.length cl, .int .i64 turn] [] w (fun v _ => v = .bool true) := by
  have ha1 : 0 ≤ a ∧ a ≤ 255 := ha
  have hb1 : 0 ≤ b ∧ b ≤ 255 := hb
  obtain ⟨W, hW, hW1⟩ : ∃ x : Nat, 2 + a % 39 = (x : Int) ∧ 2 ≤ x ∧ x ≤ 40 := ⟨(2 + a % 39).toNat, by omega, by omega⟩
  obtain ⟨H, hH, hH1⟩ : ∃ x : Nat, 2 + b % 39 = (x : Int) ∧ 2 ≤ x ∧ x ≤ 40 := ⟨(2 + b % 39).toNat, by omega, by omega⟩
  have iW : CV Try.prog 24 [] (.bool true) True := ⟨fun _ w => works40 w⟩
  refine does_of Try.func9 rfl Try.ntmps9 rfl ⟨by simp, .nil⟩ (fun _ => ?_)
  simp only [slots]
  refine z_tas
  refine lfv rfl rfl rfl (fun w hw => small40_any s w) ?_
  generalize small40 s = s at *
  refine z_tas
  · exact j_out1 rfl rfl (.nil _) rfl
  · exact j_out1 rfl rfl (.nil _) rfl
  refine lfv rfl rfl rfl (fun w hw => rcheck40_any s Al cl l turn w ⟨hrl.h.go hw (Split.nil _)⟩ (by omega)) ?_
  generalize hck : chk40 s l turn = ck at *
  refine z_tas
  · exact j_out1 rfl rfl (.nil _) rfl
  have hck0 : ck = 0 := by omega
  subst hck0
  obtain ⟨hcz, hf8, ht0, ht1⟩ := chk40_ok hck
  obtain ⟨⟨⟨a1, a2⟩, ⟨a3, a4⟩, ⟨a5, a6⟩, a7, a8⟩, ⟨l1, l2⟩, hl⟩ := chk21_ok hcz
  refine lf rfl rfl rfl (S := []) (fun w hw ho => made_any a b ha hb W H hW hH A c z 30 (by decide) 0 0 w ⟨hr.h.go hw (Split.nil _)⟩ (by omega)) ?_
  rintro v S' ⟨Af, cf, rfl, rfl⟩
  have hfl := fieldF_len z (W * H)
  have hfi := field_in16 hz (W * H)
  generalize fieldF z (W * H) = f at *
  rw [show (1 + 30 % 1000 : Int) = ((31 : Nat) : Int) by decide]
  have hcb : 2 ≤ W ∧ W ≤ 256 ∧ 2 ≤ H ∧ H ≤ 256 ∧ 1 ≤ 31 ∧ 31 ≤ 1000 := by omega
  have hF := caF_of (ox := 0) (oy := 0) hcb hfl hfi (by omega : 1 ≤ 4 ∧ 4 ≤ 32)
  obtain ⟨-, h2, h3, -, -, -⟩ := chart_hdr (ox := 0) (oy := 0) (z := f) (W := W) (H := H) (cell := 31) (by omega)
  refine z_tas
  refine lf rfl rfl rfl (S := []) (fun w hw ho => open10 W H 31 Af cf f 0 0 4 w ⟨Ro.row hw (Split.nil _) (by refine z_hs)⟩ hcb hfl hfi (by decide) (by decide) (by omega)) ?_
  rintro v S' ⟨K, hys, hrm, rfl, rfl⟩
  rw [← hys, ← hrm] at hF
  rw [← hys] at h2 h3
  have k0 : CaOk K.ys f K.room (newV 4) 0 := by rw [hrm]; exact newV_ok (by omega)
  refine z_tas
  refine lf rfl rfl rfl (S := K.H (newV 4)) (fun w hw ho => find_t K (newV 4) f s Al cl l turn 0 w _ rfl ho hF k0 (by omega) ⟨hrl.h.go hw Split.au⟩ (by omega)) ?_
  rintro v S' ⟨s1, k1, h5⟩
  have hcst := cst_ok hfi s l hl (W := W) (H := H)
  rw [h2, h3, hck] at h5
  obtain ⟨cst, hcs⟩ : ∃ x, cstF W H f s l = x := ⟨_, rfl⟩
  have hcs1 : ∀ n a, -1 ≤ cst n a := fun n a => by rw [← hcs]; exact (hcst n a).1
  have hg1 : ∀ n a, -1 ≤ (tre turn s.far (sideN s.far * sideN s.far) cst n a).1 := fun n a => by rw [← hcs]; exact (tre_bnd ⟨ht0, ht1⟩ hcst n a).1
  have hu1 : ∀ n a, (tre turn s.far (sideN s.far * sideN s.far) cst n a).1 ≤ 10485760 * ((n : Int) + 1) := fun n a => by rw [← hcs]; exact (tre_bnd ⟨ht0, ht1⟩ hcst n a).2
  have hbest := best_stay (W := W) (H := H) (s := s) (l := l) hfi hcz
  have hcbi := cb_in0 W H f s l
  have hal := allL_len W H f s l 0
  rw [hcs] at h5 hbest
  obtain ⟨r, hr1⟩ : ∃ r, l.length = r + 1 := ⟨l.length - 1, by omega⟩
  rw [show l.length - 1 = r by omega] at h5
  generalize hN : sideN s.far * sideN s.far = N at *
  rcases h5 with ⟨h5, -⟩ | ⟨-, h5, rfl, rfl⟩ | ⟨b1, A1, c1, -, h5, rfl, rfl⟩
  · exact absurd rfl h5
  · refine z_tas
    refine lf rfl rfl rfl (S := K.H s1) (fun w hw ho => mbest_t K s1 f s Al cl l 0 0 _ w ho hF k1 (by omega) ⟨hrl.h.go hw Split.au⟩ (by omega)) ?_
    rintro v S' ⟨s2, k2, rfl, rfl⟩
    rw [h2, h3]
    generalize cbTo (allL W H f s l 0) (allL W H f s l 0).length = cb at *
    have hz0 : (allL W H f s l 0).length = 0 := by
      apply Classical.byContradiction
      intro hne
      obtain ⟨⟨a, ha, hall, -⟩, -⟩ := hbest hne
      exact best_none ht0 hcs1 hg1 h5 _ _ _ (List.length_replicate ..) (stay_way ha r (by rw [← hr1]; exact hall))
    rw [hz0]
    refine z_tas
    exact j_out1 rfl rfl (.nil _) rfl
  · refine z_tas
    refine lf rfl rfl rfl (S := K.H s1) (fun w hw ho => mbest_t K s1 f s Al cl l 0 0 _ w ho hF k1 (by omega) ⟨hrl.h.go hw Split.au⟩ (by omega)) ?_
    rintro v S' ⟨s2, k2, rfl, rfl⟩
    rw [h2, h3]
    obtain ⟨cc1, u1, w1, e1, m1⟩ := best_some ht0 hcs1 hg1 h5
    have hps := w1.pos hcs1
    have hwl := bakL_len (tre turn s.far N cst) r b1
    have hv1 := hu1 r b1
    have hv0 := hg1 r b1
    have key : (allL W H f s l 0).length ≠ 0 → (tre turn s.far N cst r b1).1 ≤ (cbTo (allL W H f s l 0) (allL W H f s l 0).length).cost ∧ ((cbTo (allL W H f s l 0) (allL W H f s l 0).length).cost < turn → (tre turn s.far N cst r b1).1 = (cbTo (allL W H f s l 0) (allL W H f s l 0).length).cost ∧ stl ((bakL (tre turn s.far N cst) r b1).map (pS s.far)) l.length = true) := by
      intro hne
      obtain ⟨⟨a, ha, hall, e⟩, hmin⟩ := hbest hne
      have hm := m1 _ _ _ (List.length_replicate ..) (stay_way ha r (by rw [← hr1]; exact hall))
      rw [← hr1, ← e] at hm
      refine ⟨by omega, fun hlt => ?_⟩
      have hu0 : u1 = 0 := by
        rcases Int.lt_or_le 0 u1 with h | h
        · have := Int.mul_le_mul_of_nonneg_right (show (1 : Int) ≤ u1 by omega) ht0
          omega
        · omega
      obtain ⟨x, hx, ex⟩ := way_still hcs1 w1 hu0
      rw [hwl] at ex
      rw [ex] at w1 ⊢
      have hst := stay_cst w1
      have hw2 := stay_way (far := s.far) hx r hst
      obtain ⟨ec, -⟩ := way_det w1 hw2
      have hm2 := hmin x hx (by rw [hr1]; exact hst)
      rw [hr1, ← ec] at hm2
      refine ⟨by subst hu0; omega, ?_⟩
      rw [List.map_replicate, hr1]
      exact stl_rep _ _ _ (Nat.le_refl _)
    have hml : ((bakL (tre turn s.far N cst) r b1).map (pS s.far)).length = l.length := by rw [List.length_map, hwl, hr1]
    generalize (bakL (tre turn s.far N cst) r b1).map (pS s.far) = wl at *
    generalize (tre turn s.far N cst r b1).1 = v at *
    generalize cbTo (allL W H f s l 0) (allL W H f s l 0).length = cb at *
    generalize (allL W H f s l 0).length = many at *
    obtain ⟨ci, ck, cz⟩ := cb
    dsimp only at key hcbi
    dsimp only [stpE]
    by_cases hm0 : many = 0
    · subst hm0
      refine z_tas
      exact j_out1 rfl rfl (.nil _) rfl
    · obtain ⟨key1, key2⟩ := key hm0
      by_cases hlt : cz < turn
      · obtain ⟨e1, e2⟩ := key2 hlt
        refine z_tas
        rw [← hml] at e2 ⊢
        refine lfv rfl rfl rfl (fun w hw => still_any A1 c1 wl w ⟨Ro.row hw (Split.nil _) (by refine z_hs)⟩ (by omega)) ?_
        rw [e2]
        refine z_tas
        exact j_out1 rfl rfl (.nil _) rfl
      · refine z_tas
        exact j_out1 rfl rfl (.nil _) rfl
end Go.Proofs.Ytemmnpgebpffbaa
namespace Go.Proofs.Ytemmnpgebpffbaa
open Go.ChangeShapes Go.WideShapes Go.ChangeAt Go.RowKit Go.Deep Go.Joins
set_option maxRecDepth 100000 in
theorem lifted (os : Os) (started : os.Started) (H : Type) (enc : TypeId × Value → H) :
    ReturnsInHanded {} Try.checked os 9 .any (Rows.driftStillSpec.pre6 enc Try.prog Try.f9 Rows.driftStillRow.domain false) (Rows.driftStillSpec.post enc Try.prog Try.f9 false true false false) := by
  refine returnsInHanded_of_change (C := Try.checked) own started (by kernel_rfl) Try.func9
    (ChangeSpec.witness6 (enc := enc) (C := Try.checked) false ⟨#[], #[.int .u8 0, .int .u8 0, .slice none 0 0, .agg #[.int .i64 0, .int .i64 0, .int .i64 0, .int .i64 0], .slice none 0 0, .int .i64 0], []⟩ 8 (by kernel_rfl) (by kernel_rfl) (by kernel_rfl) (by kernel_rfl)) ?_
  intro W base args ds gs before hval0 hW hcnd _
  have hval : ∀ (j : Nat) t v, Try.f9.params[j]? = some t → args[j]? = some v → Value.okWide Try.prog W .any base t v := hval0
  have hW' := hW
  obtain ⟨p, q, hA0, hV, rfl, hfz, hnd⟩ := hW
  have hA : DataW.TrodAll enc Try.prog W 0 (fun _ => true) true Try.f9.params.toList args.toList ds p := hA0
  rw [Try.params9] at hA hval
  obtain ⟨v0, v1, v2, v3, v4, v5, d0, d1, d2, d3, d4, d5, p0, p1, p2, p3, p4, p5, rfl, rfl, rfl, h0, h1, h2, h3, h4, h5⟩ := trodAll_six hA
  clear hA0 hval0
  obtain ⟨w, rfl, r0⟩ := gate_int Try.underlying5 (hval 0 _ _ rfl rfl) h0
  obtain ⟨h, rfl, r1⟩ := gate_int Try.underlying5 (hval 1 _ _ rfl rfl) h1
  obtain ⟨A2, c2, z, rfl, q2, r2⟩ := gate_ints Try.underlying28 Try.underlying53 (by kernel_rfl) (hval 2 _ _ rfl rfl) h2
  obtain ⟨_, rfl, sx, _, rfl, rx3, sy, _, rfl, ry3, sf, _, rfl, rf3, ss, _, rfl, rs3, rfl⟩ := gate_row Try.underlying33 cells_sch (hval 3 _ _ rfl rfl) h3
  obtain ⟨A4, c4, l, rfl, q4, r4⟩ := gate_rows (en := smpE) Try.underlying31 cells_smp rfl un_smp (hval 4 _ _ rfl rfl) h4
  obtain ⟨turn, rfl, r5⟩ := gate_int Try.underlying2 (hval 5 _ _ rfl rfl) h5
  refine (below_of (still_law w r0 h r1 A2 c2 z q2 r2 ⟨sx, sy, sf, ss⟩ rx3 ry3 rf3 rs3 A4 c4 l q4 r4 turn r5 (w := W))).mono fun e W' ⟨he, hb⟩ => ?_
  subst he
  exact ⟨_, rfl, gate_post (tb := 4) laidOut Try.underlying4 hW' rfl rfl (fun es h => by
    have h' : es.length = 6 := h
    match es, h' with
    | [_, _, _, _, _, _], _ => rfl) (of_decide_eq_true (by kernel_rfl)) hb⟩
theorem holds : Rows.DriftStillSaid :=
  OpenClaim.holds_of_wide 9 Try.f9 rfl rfl rfl rfl rfl rfl rfl ⟨rfl, rfl, rfl, rfl, rfl⟩ rfl rfl rfl rfl rfl (by kernel_rfl) Try.func9 (by kernel_rfl)
    (of_decide_eq_true (by kernel_rfl)) (by unfold Func.isWrapper; first | (rw [if_pos (by decide +kernel)]; kernel_rfl) | (rw [if_neg (by decide +kernel)]; exact ⟨rfl, rfl⟩))
    (fun os started H enc _ => lifted os started H enc)

#print axioms holds
end Go.Proofs.Ytemmnpgebpffbaa
