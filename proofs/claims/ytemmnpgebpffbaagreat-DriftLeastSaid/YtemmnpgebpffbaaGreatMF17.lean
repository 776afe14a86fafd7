import Derived.OpenShut
import Derived.Test.YtemmnpgebpffbaaGreatMF16
set_option linter.unusedVariables false
set_option linter.unusedSimpArgs false
/- Layer 40: what the statements' own check reckons. -/
namespace Go.Proofs.YtemmnpgebpffbaaGreat
open Go.RowKit
attribute [local irreducible] OJ J HdJ Code.wpIn wpListIn Oper.wpIn bodyPost CallsIn Does
set_option maxRecDepth 4000
set_option maxHeartbeats 64000000 in
theorem works40 (w : World) : Does Tryz.prog 17 [] [] w (fun v S' => v = .bool true ∧ S' = []) := by
  have hlz : f40.length = 8 := rfl
  have hcb : 2 ≤ 4 ∧ 4 ≤ 256 ∧ 2 ≤ 2 ∧ 2 ≤ 256 ∧ 1 ≤ 30 ∧ 30 ≤ 1000 := by omega
  refine does_ofM Tryz.func17 rfl Tryz.ntmps17 rfl ⟨by simp, .nil⟩ (fun n => ?_)
  simp only [slots]
  refine z_tas
  rename_i bf b1
  refine j_perm (H' := [.blk b1 31 [.int .i64 4, .int .i64 2, .slice (some ⟨bf, 0, none⟩) 8 8], .row (.slice (some ⟨bf, 0, none⟩) f40.length 8) 92 1 f40.length (ints .i16 f40)]) (by show Sub [.blk b1 31 [.int .i64 4, .int .i64 2, .slice (some ⟨bf, 0, none⟩) 8 8], .row (.slice (some ⟨bf, 0, none⟩) 8 8) 92 1 8 [.int .i16 0, .int .i16 10, .int .i16 20, .int .i16 40, .int .i16 0, .int .i16 10, .int .i16 20, .int .i16 40]] _; exact Sub.au) ?_
  refine lf rfl rfl rfl (S := []) (fun w hw ho => open10 4 2 30 (some ⟨bf, 0, none⟩) 8 f40 0 0 4 w ⟨Ro.row hw (Split.nil _) (by refine z_hs)⟩ hcb hlz f40_in (by decide) (by decide) (by omega)) ?_
  rintro v S' ⟨K, hys, hrm, rfl, rfl⟩
  have hF : CaF K.ys f40 K.room := by rw [hys, hrm]; exact caF_of hcb hlz f40_in (by omega)
  have hh : wY K.ys = 4 ∧ hY K.ys = 2 := by rw [hys]; decide +kernel
  have k0 : CaOk K.ys f40 K.room (newV 4) 0 := by rw [hrm]; exact newV_ok (by omega)
  clear hlz
  have h9 : sideN s40.far * sideN s40.far = 9 := by decide
  have p1 := w40_row
  have p2 := w40_b5
  have p3 := w40_v5
  have p4 := w40_w5
  have p5 := w40_b1
  have p6 := w40_v1
  have p7 := w40_w1
  generalize f40 = f at *
  refine z_tas
  rename_i b3 bl
  refine j_perm (H' := K.HC (newV 4) [.blk b3 26 (schE s40), .row (.slice (some ⟨bl, 0, none⟩) l40.length 3) 73 3 l40.length (flat smpE l40)]) (by show Sub (K.HC (newV 4) [.blk b3 26 [.int .i64 256, .int .i64 0, .int .i64 1, .int .i64 256], .row (.slice (some ⟨bl, 0, none⟩) 3 3) 73 3 3 [.int .i64 0, .int .i64 0, .int .i64 160, .int .i64 0, .int .i64 0, .int .i64 320, .int .i64 0, .int .i64 0, .int .i64 640]]) _; exact Sub.au) ?_
  refine lf rfl rfl rfl (S := K.H (newV 4)) (fun w hw ho => dcosts_t K (newV 4) f s40 (some ⟨bl, 0, none⟩) 3 l40 0 0 w ho hF k0 (by omega) ⟨Ro.row hw Split.au (by refine z_hs)⟩ w40_chk (by decide) (by decide)) ?_
  rintro v S' ⟨s1, Ad, cd, k1, rfl, rfl⟩
  rw [hh.1, hh.2, h9, p1]
  refine z_tas
  refine lf rfl rfl rfl (S := K.H s1) (fun w hw ho => find_t K s1 f s40 (some ⟨bl, 0, none⟩) 3 l40 5 _ w 9 h9.symm ho hF k1 (by omega) ⟨Ro.row hw Split.au (by refine z_hs)⟩ (by decide)) ?_
  rintro v S' ⟨s2, k2, h2⟩
  rw [w40_c5, hh.1, hh.2] at h2
  rcases h2 with ⟨h2, -⟩ | ⟨-, h2, -⟩ | ⟨a, A5, c5, -, h2, rfl, rfl⟩
  · exact absurd rfl h2
  · rw [show s40.far = 1 from rfl, show l40.length - 1 = 2 from rfl, p2] at h2; cases h2
  rw [show s40.far = 1 from rfl, show l40.length - 1 = 2 from rfl, p2] at h2
  obtain rfl : 5 = a := by injection h2
  rw [show s40.far = 1 from rfl, show l40.length - 1 = 2 from rfl, p3, p4]
  rw [show l40.length = 3 from rfl]
  refine z_tas
  refine lf rfl rfl rfl (S := K.H s2) (fun w hw ho => find_t K s2 f s40 (some ⟨bl, 0, none⟩) 3 l40 1000 _ w 9 h9.symm ho hF k2 (by omega) ⟨Ro.row hw Split.au (by refine z_hs)⟩ (by decide)) ?_
  rintro v S' ⟨s3, k3, h3⟩
  rw [w40_c1, hh.1, hh.2] at h3
  rcases h3 with ⟨h3, -⟩ | ⟨-, h3, -⟩ | ⟨a, A1, c1, -, h3, rfl, rfl⟩
  · exact absurd rfl h3
  · rw [show s40.far = 1 from rfl, show l40.length - 1 = 2 from rfl, p5] at h3; cases h3
  rw [show s40.far = 1 from rfl, show l40.length - 1 = 2 from rfl, p5] at h3
  obtain rfl : 5 = a := by injection h3
  rw [show s40.far = 1 from rfl, show l40.length - 1 = 2 from rfl, p6, p7]
  rw [show l40.length = 3 from rfl]
  refine z_tas
  refine lf rfl rfl rfl (S := K.H s3) (fun w hw ho => find_t K s3 f s40 none 0 [] 0 _ w 9 h9.symm ho hF k3 (by omega) ⟨Ro.nil _ _ _⟩ (by decide)) ?_
  rintro v S' ⟨s4, k4, h4⟩
  rw [w40_ce] at h4
  rcases h4 with ⟨-, rfl, rfl⟩ | ⟨h4, -⟩ | ⟨a, A4, c4, h4, -⟩
  rotate_left
  · cases h4
  · cases h4
  refine z_tas
  refine lf rfl rfl rfl (S := K.H s4) (fun w hw ho => find_t K s4 f s40 (some ⟨bl, 0, none⟩) 3 l40 (-1) _ w 9 h9.symm ho hF k4 (by omega) ⟨Ro.row hw Split.au (by refine z_hs)⟩ (by decide)) ?_
  rintro v S' ⟨s5, k5, h5⟩
  rw [w40_cn] at h5
  rcases h5 with ⟨-, rfl, rfl⟩ | ⟨h5, -⟩ | ⟨a, A6, c6, h5, -⟩
  rotate_left
  · cases h5
  · cases h5
  refine j_app ?_
  refine j_opn (A := Ad) (m := ([-1, -1, -1, 160, 0, 160, 160, 0, 160] : List Int).length) (cc := cd) (by decide) (fun gd hgd => ?_)
  subst hgd
  rw [show ([-1, -1, -1, 160, 0, 160, 160, 0, 160] : List Int).length = 9 from rfl, show ints .i64 [-1, -1, -1, 160, 0, 160, 160, 0, 160] = [.int .i64 (-1), .int .i64 (-1), .int .i64 (-1), .int .i64 160, .int .i64 0, .int .i64 160, .int .i64 160, .int .i64 0, .int .i64 160] from rfl]
  rw [show flat dE [(0, 0), (1, 0), (1, 0)] = [.int .i64 0, .int .i64 0, .int .i64 1, .int .i64 0, .int .i64 1, .int .i64 0] from rfl, show flat dE [(1, 0), (1, 0), (1, 0)] = [.int .i64 1, .int .i64 0, .int .i64 1, .int .i64 0, .int .i64 1, .int .i64 0] from rfl]
  refine j_opn (A := A5) (m := 3) (cc := c5) (by decide) (fun g5 hg5 => ?_)
  subst hg5
  refine z_tas
  refine lfv rfl rfl rfl (fun w hw => still_any A1 c1 [(1, 0), (1, 0), (1, 0)] w ⟨Ro.row hw (Split.nil _) (by refine z_hs)⟩ (by decide)) ?_
  rw [show [((1 : Int), (0 : Int)), (1, 0), (1, 0)].length = 3 from rfl, w40_s1]
  refine z_tas
  refine lfv rfl rfl rfl (fun w hw => still_any (some ⟨g5, 0, none⟩) c5 [(0, 0), (1, 0), (1, 0)] w ⟨Ro.row hw (Split.nil _) (by refine z_hs)⟩ (by decide)) ?_
  rw [show [((0 : Int), (0 : Int)), (1, 0), (1, 0)].length = 3 from rfl, w40_s5]
  refine z_tas
  refine lfv rfl rfl rfl (fun w hw => dcheck_any ⟨0, 0, 9, 1⟩ (some ⟨bl, 0, none⟩) 3 l40 0 w ⟨Ro.row hw (Split.nil _) (by refine z_hs)⟩ (by decide)) ?_
  rw [w40_c9]
  refine z_tas
  refine j_outMK (Ds := []) (S' := []) (.nil _) ?_
  refine z_rk
  exact ⟨rfl, rfl⟩
end Go.Proofs.YtemmnpgebpffbaaGreat
/- Drifting, the plain part: ways, and the least of them. -/
namespace Go.Proofs.YtemmnpgebpffbaaGreat
def nearP (far : Int) (a b : Nat) : Prop := absD (pS far a).1 (pS far b).1 ≤ 1 ∧ absD (pS far a).2 (pS far b).2 ≤ 1
def dstP (far : Int) (a b : Nat) : Int := absD (pS far a).1 (pS far b).1 + absD (pS far a).2 (pS far b).2
theorem dstP_pos (far : Int) (a b : Nat) : 0 ≤ dstP far a b := by unfold dstP absD; omega
theorem trn_eq (t far : Int) (a b : Nat) : (trnF t (pS far a) (pS far b)).1 = dstP far a b * t := rfl
theorem trn_near (t far : Int) (a b : Nat) : (trnF t (pS far a) (pS far b)).2 = true ↔ nearP far a b := by unfold trnF nearP; simp
/-- A way from a height on: what it costs to be there, and how much it turns. -/
inductive Way (far : Int) (N : Nat) (cst : Nat → Nat → Int) : Nat → List Nat → Int → Int → Prop
  | one {n a : Nat} : a < N → cst n a ≠ -1 → Way far N cst n [a] (cst n a) 0
  | cons {n a b : Nat} {r : List Nat} {c u : Int} : a < N → cst n a ≠ -1 → nearP far a b → Way far N cst (n + 1) (b :: r) c u → Way far N cst n (a :: b :: r) (cst n a + c) (dstP far a b + u)
section
variable {far : Int} {N : Nat} {cst : Nat → Nat → Int}
theorem Way.pos (hc : ∀ n a, -1 ≤ cst n a) {n : Nat} {l : List Nat} {c u : Int} (h : Way far N cst n l c u) : 0 ≤ c ∧ 0 ≤ u := by
  induction h with
  | one h1 h2 => rename_i n a; have := hc n a; omega
  | cons h1 h2 h3 h4 ih => rename_i n a b r c u; have := hc n a; have := dstP_pos far a b; omega
theorem Way.snoc : ∀ {l : List Nat} {n a b : Nat} {c u : Int}, Way far N cst n (l ++ [a]) c u → b < N → cst (n + l.length + 1) b ≠ -1 → nearP far a b → Way far N cst n (l ++ [a, b]) (c + cst (n + l.length + 1) b) (u + dstP far a b)
  | [], n, a, b, c, u, h, hb, hc, hn => by
    cases h with
    | one h1 h2 =>
      rw [Int.zero_add]
      have := Way.cons (n := n) h1 h2 hn (.one hb hc)
      rwa [Int.add_zero] at this
  | [x], n, a, b, c, u, h, hb, hc, hn => by
    cases h with
    | cons h1 h2 h3 h4 =>
      have := Way.snoc (l := []) h4 hb (by rw [show n + 1 + ([] : List Nat).length + 1 = n + [x].length + 1 by simp]; exact hc) hn
      have h5 := Way.cons h1 h2 h3 this
      rw [show n + 1 + ([] : List Nat).length + 1 = n + [x].length + 1 by simp] at h5
      rw [Int.add_assoc, Int.add_assoc]
      exact h5
  | x :: y :: l, n, a, b, c, u, h, hb, hc, hn => by
    cases h with
    | cons h1 h2 h3 h4 =>
      have := Way.snoc (l := y :: l) h4 hb (by rw [show n + 1 + (y :: l).length + 1 = n + (x :: y :: l).length + 1 by simp only [List.length_cons]; omega]; exact hc) hn
      have h5 := Way.cons h1 h2 h3 this
      rw [show n + 1 + (y :: l).length + 1 = n + (x :: y :: l).length + 1 by simp only [List.length_cons]; omega] at h5
      rw [Int.add_assoc, Int.add_assoc]
      exact h5
theorem Way.unsnoc : ∀ {l : List Nat} {n a b : Nat} {c u : Int}, Way far N cst n (l ++ [a, b]) c u → ∃ c' u', Way far N cst n (l ++ [a]) c' u' ∧ b < N ∧ cst (n + l.length + 1) b ≠ -1 ∧ nearP far a b ∧ c = c' + cst (n + l.length + 1) b ∧ u = u' + dstP far a b
  | [], n, a, b, c, u, h => by
    cases h with
    | cons h1 h2 h3 h4 =>
      cases h4 with
      | one h5 h6 => exact ⟨_, _, .one h1 h2, h5, h6, h3, rfl, by omega⟩
  | [x], n, a, b, c, u, h => by
    cases h with
    | cons h1 h2 h3 h4 =>
      obtain ⟨c', u', w, h5, h6, h7, e1, e2⟩ := Way.unsnoc (l := []) h4
      rw [show n + 1 + ([] : List Nat).length + 1 = n + [x].length + 1 by simp] at h6 e1
      exact ⟨_, _, .cons h1 h2 h3 w, h5, h6, h7, by rw [e1, Int.add_assoc], by rw [e2, Int.add_assoc]⟩
  | x :: y :: l, n, a, b, c, u, h => by
    cases h with
    | cons h1 h2 h3 h4 =>
      obtain ⟨c', u', w, h5, h6, h7, e1, e2⟩ := Way.unsnoc (l := y :: l) h4
      rw [show n + 1 + (y :: l).length + 1 = n + (x :: y :: l).length + 1 by simp only [List.length_cons]; omega] at h6 e1
      exact ⟨_, _, .cons h1 h2 h3 w, h5, h6, h7, by rw [e1, Int.add_assoc], by rw [e2, Int.add_assoc]⟩
theorem Way.mem {n : Nat} {l : List Nat} {c u : Int} (h : Way far N cst n l c u) : ∀ a ∈ l, a < N := by
  induction h with
  | one h1 h2 => intro x hx; simp at hx; subst hx; exact h1
  | cons h1 h2 h3 h4 ih =>
    intro x hx
    rcases List.mem_cons.1 hx with rfl | hx
    · exact h1
    · exact ih x hx
theorem last_of {α : Type} {l : List α} (h : l ≠ []) : ∃ l' a, l = l' ++ [a] := by
  rcases List.eq_nil_or_concat l with h1 | ⟨L, b, h1⟩
  · exact absurd h1 h
  · exact ⟨L, b, by simpa using h1⟩
theorem Way.ne {n : Nat} {l : List Nat} {c u : Int} (h : Way far N cst n l c u) : l ≠ [] := by cases h <;> simp
end
theorem grow_le {t far : Int} {last : Nat → Int} {c : Int} {a : Nat} (ht : 0 ≤ t) (hl : ∀ k, -1 ≤ last k) (hc : 0 ≤ c) : ∀ n k, k < n → nearP far k a → last k ≠ -1 → (growTo t far last c a n).1 ≠ -1 ∧ (growTo t far last c a n).1 ≤ last k + dstP far k a * t + c
  | n + 1, k, hk, hn, hlk => by
    have cand : ∀ j, last j ≠ -1 → 0 ≤ last j + dstP far j a * t + c := fun j hj => by
      have := hl j
      have := Int.mul_nonneg (dstP_pos far j a) ht
      omega
    rw [growTo]
    rcases Nat.lt_or_ge k n with h | h
    · obtain ⟨h1, h2⟩ := grow_le (far := far) (a := a) ht hl hc n k h hn hlk
      split
      · exact ⟨h1, h2⟩
      · rename_i hb
        have hj : last n ≠ -1 := fun e => hb (.inr e)
        have hcd := cand n hj
        split
        · rename_i hlt
          rw [trn_eq] at hlt ⊢
          dsimp only
          refine ⟨by omega, ?_⟩
          rcases hlt with h3 | h3
          · exact absurd h3 h1
          · omega
        · exact ⟨h1, h2⟩
    · obtain rfl : k = n := by omega
      have hnn : ¬ ((trnF t (pS far k) (pS far a)).2 = false ∨ last k = -1) := by
        rintro (h1 | h1)
        · have := (trn_near t far k a).2 hn
          rw [this] at h1; cases h1
        · exact hlk h1
      rw [if_neg hnn]
      have hcd := cand k hlk
      split
      · rw [trn_eq]
        dsimp only
        omega
      · rename_i hlt
        rw [trn_eq] at hlt
        omega
section
variable {t far : Int} {N : Nat} {cst : Nat → Nat → Int}
theorem bakL_last (G : Nat → Nat → Int × Int) : ∀ n b, ∃ l, bakL G n b = l ++ [b] ∧ l.length = n
  | 0, b => ⟨[], rfl, rfl⟩
  | n + 1, b => ⟨_, rfl, bakL_len G n _⟩
/-- What the trellis tells is the cost of the way back. -/
theorem tre_way : ∀ n a, a < N → (tre t far N cst n a).1 ≠ -1 → ∃ c u, Way far N cst 0 (bakL (tre t far N cst) n a) c u ∧ (tre t far N cst n a).1 = c + u * t
  | 0, a, ha, h => by
    by_cases hc : cst 0 a = -1
    · exact absurd (by rw [tre_none t far N cst 0 a hc]) h
    · refine ⟨_, _, .one ha hc, ?_⟩
      rw [tre_first t far N cst a hc]
      omega
  | n + 1, a, ha, h => by
    obtain ⟨k, k1, k2, k3, k4, k5, k6⟩ := tre_back h
    obtain ⟨c, u, w, e⟩ := tre_way n k k1 k3
    obtain ⟨l, hl, hn⟩ := bakL_last (tre t far N cst) n k
    rw [hl] at w
    have hw := w.snoc ha (by rw [Nat.zero_add, hn]; exact k6) ((trn_near t far k a).1 k4)
    rw [Nat.zero_add, hn] at hw
    refine ⟨c + cst (n + 1) a, u + dstP far k a, ?_, ?_⟩
    · rw [bakL, k2, Int.toNat_natCast, hl, List.append_assoc]
      exact hw
    · rw [k5, e, trn_eq, Int.add_mul]
      omega
/-- No way costs less. -/
theorem tre_le (ht : 0 ≤ t) (hc : ∀ n a, -1 ≤ cst n a) (hg : ∀ n a, -1 ≤ (tre t far N cst n a).1) : ∀ n (l : List Nat) a c u, l.length = n → Way far N cst 0 (l ++ [a]) c u → (tre t far N cst n a).1 ≠ -1 ∧ (tre t far N cst n a).1 ≤ c + u * t
  | 0, l, a, c, u, hl, h => by
    obtain rfl : l = [] := List.eq_nil_of_length_eq_zero hl
    cases h with
    | one h1 h2 =>
      rw [tre_first t far N cst a h2]
      dsimp only
      omega
  | n + 1, l, a, c, u, hl, h => by
    obtain ⟨l', b, rfl⟩ : ∃ l' b, l = l' ++ [b] := last_of (by rintro rfl; cases hl)
    have hl' : l'.length = n := by simpa using hl
    rw [List.append_assoc] at h
    obtain ⟨c', u', w, h1, h2, h3, rfl, rfl⟩ := Way.unsnoc h
    rw [Nat.zero_add, hl'] at h2
    obtain ⟨g1, g2⟩ := tre_le ht hc hg n l' b c' u' hl' w
    have hb : b < N := w.mem b (by simp)
    have hcn := hc (n + 1) a
    obtain ⟨e1, e2⟩ := grow_le (far := far) (last := fun k => (tre t far N cst n k).1) (c := cst (n + 1) a) (a := a) ht (fun k => hg n k) (by omega) N b hb h3 g1
    rw [tre_next t far N cst n a h2]
    refine ⟨e1, ?_⟩
    have e2' : (growTo t far (fun k => (tre t far N cst n k).1) (cst (n + 1) a) a N).1 ≤ (tre t far N cst n b).1 + dstP far b a * t + cst (n + 1) a := e2
    rw [Nat.zero_add, hl', Int.add_mul]
    omega
theorem bstG_le {g : Nat → Int} : ∀ {n b : Nat}, bstG g n = some b → ∀ a, a < n → g a ≠ -1 → g b ≤ g a
  | 0, b, h => by simp [bstG] at h
  | n + 1, b, h => by
    intro a ha hga
    rw [bstG] at h
    split at h
    · rename_i h1
      rcases Nat.lt_or_ge a n with h2 | h2
      · exact bstG_le h a h2 hga
      · obtain rfl : a = n := by omega
        exact absurd h1 hga
    · split at h
      · rename_i h3
        injection h with h; subst h
        rcases Nat.lt_or_ge a n with h2 | h2
        · exact absurd (bstG_no h3 a h2) hga
        · obtain rfl : a = n := by omega
          exact Int.le_refl _
      · rename_i c hc
        split at h
        · rename_i hlt
          injection h with h; subst h
          rcases Nat.lt_or_ge a n with h2 | h2
          · have := bstG_le hc a h2 hga; omega
          · obtain rfl : a = n := by omega
            exact Int.le_refl _
        · rename_i hge
          injection h with h; subst h
          rcases Nat.lt_or_ge a n with h2 | h2
          · exact bstG_le hc a h2 hga
          · obtain rfl : a = n := by omega
            omega
where
  bstG_no {g : Nat → Int} : ∀ {n : Nat}, bstG g n = none → ∀ a, a < n → g a = -1
  | n + 1, h, a, ha => by
    rw [bstG] at h
    split at h
    · rename_i h1
      rcases Nat.lt_or_ge a n with h2 | h2
      · exact bstG_no h a h2
      · obtain rfl : a = n := by omega
        exact h1
    · split at h
      · cases h
      · split at h <;> cases h
theorem best_some (ht : 0 ≤ t) (hc : ∀ n a, -1 ≤ cst n a) (hg : ∀ n a, -1 ≤ (tre t far N cst n a).1) {n b : Nat} (h : bstG (fun a => (tre t far N cst n a).1) N = some b) :
    ∃ c u, Way far N cst 0 (bakL (tre t far N cst) n b) c u ∧ (tre t far N cst n b).1 = c + u * t ∧ ∀ (l : List Nat) c' u', l.length = n + 1 → Way far N cst 0 l c' u' → (tre t far N cst n b).1 ≤ c' + u' * t := by
  obtain ⟨h1, h2⟩ := bstG_lt h
  obtain ⟨c, u, w, e⟩ := tre_way n b h1 h2
  refine ⟨c, u, w, e, fun l c' u' hl hw => ?_⟩
  obtain ⟨l', a, rfl⟩ : ∃ l' a, l = l' ++ [a] := last_of hw.ne
  have hl' : l'.length = n := by simpa using hl
  obtain ⟨g1, g2⟩ := tre_le ht hc hg n l' a c' u' hl' hw
  have ha : a < N := hw.mem a (by simp)
  have hle : (tre t far N cst n b).1 ≤ (tre t far N cst n a).1 := bstG_le h a ha g1
  omega
theorem best_none (ht : 0 ≤ t) (hc : ∀ n a, -1 ≤ cst n a) (hg : ∀ n a, -1 ≤ (tre t far N cst n a).1) {n : Nat} (h : bstG (fun a => (tre t far N cst n a).1) N = none) (l : List Nat) (c u : Int) (hl : l.length = n + 1) : ¬ Way far N cst 0 l c u := by
  intro hw
  obtain ⟨l', a, rfl⟩ : ∃ l' a, l = l' ++ [a] := last_of hw.ne
  have hl' : l'.length = n := by simpa using hl
  obtain ⟨g1, -⟩ := tre_le ht hc hg n l' a c u hl' hw
  have ha : a < N := hw.mem a (by simp)
  exact g1 (bstG_le.bstG_no h a ha)
end
end Go.Proofs.YtemmnpgebpffbaaGreat
/- Layer 40's statements: the cheaper a step. -/
namespace Go.Proofs.YtemmnpgebpffbaaGreat
open Go.RowKit
def sqD (p q : Int × Int) : Int := (q.1 - p.1) * (q.1 - p.1) + (q.2 - p.2) * (q.2 - p.2)
def uTo (l : List (Int × Int)) : Nat → Int
  | 0 => 0
  | i + 1 => uTo l i + sqD (l.getD i default) (l.getD (i + 1) default)
theorem uTo_cons (p : Int × Int) (l : List (Int × Int)) : ∀ i, uTo (p :: l) (i + 1) = sqD p (l.getD 0 default) + uTo l i
  | 0 => by simp [uTo]
  | i + 1 => by
    rw [uTo, uTo_cons p l i, uTo]
    simp only [List.getD_cons_succ]
    omega
theorem sq_abs {x : Int} (h : max (-x) x ≤ 1) : x * x = max (-x) x := by
  have : x = -1 ∨ x = 0 ∨ x = 1 := by omega
  rcases this with rfl | rfl | rfl <;> rfl
theorem sqD_near {far : Int} {a b : Nat} (h : nearP far a b) : sqD (pS far a) (pS far b) = dstP far a b := by
  obtain ⟨h1, h2⟩ := h
  unfold sqD dstP
  unfold absD at *
  rw [sq_abs (by omega), sq_abs (by omega)]
  omega
theorem way_u {far : Int} {N : Nat} {cst : Nat → Nat → Int} {n : Nat} {l : List Nat} {c u : Int} (h : Way far N cst n l c u) : uTo (l.map (pS far)) (l.length - 1) = u := by
  induction h with
  | one => rfl
  | cons h1 h2 h3 h4 ih =>
    rename_i n a b r c u
    simp only [List.map_cons, List.length_cons, Nat.add_sub_cancel] at ih ⊢
    rw [uTo_cons, List.getD_cons_zero, sqD_near h3, ih]
theorem uTo_bnd {l : List (Int × Int)} (hl : ∀ j, j < l.length → (-8 ≤ (l.getD j default).1 ∧ (l.getD j default).1 ≤ 8) ∧ (-8 ≤ (l.getD j default).2 ∧ (l.getD j default).2 ≤ 8)) : ∀ i, i < l.length → 0 ≤ uTo l i ∧ uTo l i ≤ 512 * i
  | 0, _ => by simp [uTo]
  | i + 1, h => by
    have ih := uTo_bnd hl i (by omega)
    have h1 := hl i (by omega)
    have h2 := hl (i + 1) h
    rw [uTo]
    unfold sqD
    have e1 := mulB 16 16 (a := (l.getD (i + 1) default).1 - (l.getD i default).1) (b := (l.getD (i + 1) default).1 - (l.getD i default).1) (by omega) (by omega)
    have e2 := mulB 16 16 (a := (l.getD (i + 1) default).2 - (l.getD i default).2) (b := (l.getD (i + 1) default).2 - (l.getD i default).2) (by omega) (by omega)
    have e3 := sq_pos ((l.getD (i + 1) default).1 - (l.getD i default).1)
    have e4 := sq_pos ((l.getD (i + 1) default).2 - (l.getD i default).2)
    omega
where sq_pos (x : Int) : 0 ≤ x * x := by
        rcases Int.le_total 0 x with h | h
        · exact Int.mul_nonneg h h
        · exact Int.mul_nonneg_of_nonpos_of_nonpos h h
theorem chk40_ok {s : Sch} {l : List Smp} {t : Int} (h : chk40 s l t = 0) : chk21 s l = 0 ∧ s.far ≤ 8 ∧ 0 ≤ t ∧ t ≤ 1048576 := by
  unfold chk40 at h
  split at h
  · rename_i h1; exact absurd h h1
  · rename_i h1
    split at h
    · cases h
    · split at h
      · cases h
      · exact ⟨Classical.not_not.1 h1, by omega, by omega, by omega⟩
theorem chk40_of {s : Sch} {l : List Smp} {t : Int} (h1 : chk21 s l = 0) (h2 : s.far ≤ 8) (h3 : 0 ≤ t ∧ t ≤ 1048576) : chk40 s l t = 0 := by
  unfold chk40
  rw [if_neg (by rw [h1]; simp), if_neg (by omega), if_neg (by omega)]
attribute [local irreducible] OJ J HdJ Code.wpIn wpListIn Oper.wpIn bodyPost CallsIn Does
set_option maxRecDepth 4000
end Go.Proofs.YtemmnpgebpffbaaGreat
/- The gate of layer 40's laws: ways. -/
namespace Go.Proofs.YtemmnpgebpffbaaGreat
open Go.RowKit
theorem cells_two {P : Program} {t e : TypeId} {k : IntKind} (ht : P.underlying t = some (.array 2 e)) (he : P.underlying e = some (.int k)) (hc : P.cellsOf e = 1) (hc2 : P.cellsOf t = 2) : CellsT P t [k, k] := ⟨hc2, fun {H enc w base spare held fuel cs x} h => by
  obtain ⟨xs, m, -, -, hl, hxl, hat⟩ := DataW.trod_array ht h
  rw [hc2] at hl
  obtain ⟨a, b, rfl⟩ : ∃ a b, cs = [a, b] := by
    match cs, hl with
    | [a, b], _ => exact ⟨a, b, rfl⟩
  have h0 := hat 0 (by omega)
  have h1 := hat 1 (by omega)
  rw [hc] at h0 h1
  rw [List.getElem?_eq_getElem (by omega : 0 < xs.length)] at h0
  rw [List.getElem?_eq_getElem (by omega : 1 < xs.length)] at h1
  obtain ⟨n0, e0, -, w0⟩ := DataW.trod_int he h0
  obtain ⟨n1, e1, -, w1⟩ := DataW.trod_int he h1
  simp at e0 e1
  subst e0 e1
  exact ⟨n0, _, rfl, wf_in w0, n1, [], rfl, wf_in w1, rfl⟩⟩
theorem cells_dstep : CellsT Tryz.prog 94 [.i64, .i64] := cells_two Tryz.underlying94 Tryz.underlying3 (by kernel_rfl) (by kernel_rfl)
theorem un_dstep : ∀ cs, IsRow [.i64, .i64] cs → ∃ a : Int × Int, (InR .i64 a.1 ∧ InR .i64 a.2) ∧ dE a = cs := by
  rintro _ ⟨x0, _, rfl, h0, x1, _, rfl, h1, rfl⟩
  exact ⟨(x0, x1), ⟨h0, h1⟩, rfl⟩
end Go.Proofs.YtemmnpgebpffbaaGreat
/- Who stays: the plain part. -/
namespace Go.Proofs.YtemmnpgebpffbaaGreat
/-- What it costs to stay. -/
def sumC (cst : Nat → Nat → Int) (a : Nat) : Nat → Int
  | 0 => 0
  | i + 1 => sumC cst a i + cst i a
theorem dstP_self (far : Int) (a : Nat) : dstP far a a = 0 := by unfold dstP absD; omega
theorem nearP_self (far : Int) (a : Nat) : nearP far a a := by unfold nearP absD; omega
section
variable {far : Int} {N : Nat} {cst : Nat → Nat → Int}
theorem stay_way {a : Nat} (ha : a < N) : ∀ k, (∀ i, i < k + 1 → cst i a ≠ -1) → Way far N cst 0 (List.replicate (k + 1) a) (sumC cst a (k + 1)) 0
  | 0, h => by
    have := Way.one (far := far) (cst := cst) ha (h 0 (by omega))
    simpa [sumC] using this
  | k + 1, h => by
    have ih := stay_way ha k (fun i hi => h i (by omega))
    rw [List.replicate_succ'] at ih
    have := ih.snoc ha (by rw [List.length_replicate, Nat.zero_add]; exact h _ (by omega)) (nearP_self far a)
    rw [List.length_replicate, Nat.zero_add, dstP_self] at this
    rw [List.replicate_succ', List.replicate_succ', List.append_assoc]
    exact this
theorem way_det : ∀ {n : Nat} {l : List Nat} {c u : Int}, Way far N cst n l c u → ∀ {c' u' : Int}, Way far N cst n l c' u' → c = c' ∧ u = u' := by
  intro n l c u h
  induction h with
  | one => intro c' u' h'; cases h' with | one => exact ⟨rfl, rfl⟩
  | cons h1 h2 h3 h4 ih =>
    intro c' u' h'
    cases h' with
    | cons k1 k2 k3 k4 =>
      obtain ⟨e1, e2⟩ := ih k4
      rw [e1, e2]
      exact ⟨rfl, rfl⟩
theorem dst_zero {a b : Nat} (h : dstP far a b = 0) : a = b := by
  unfold dstP absD pS at h
  dsimp only at h
  have e1 : a % sideN far = b % sideN far := by omega
  have e2 : a / sideN far = b / sideN far := by omega
  have h1 := Nat.div_add_mod a (sideN far)
  have h2 := Nat.div_add_mod b (sideN far)
  rw [← h1, ← h2, e1, e2]
theorem way_still (hc : ∀ n a, -1 ≤ cst n a) {n : Nat} {l : List Nat} {c u : Int} (h : Way far N cst n l c u) : u = 0 → ∃ a, a < N ∧ l = List.replicate l.length a := by
  induction h with
  | one h1 h2 => exact fun _ => ⟨_, h1, rfl⟩
  | cons h1 h2 h3 h4 ih =>
    rename_i n a b r c u
    intro hu
    have e1 := dstP_pos far a b
    have e2 := (h4.pos hc).2
    obtain ⟨x, hx, e⟩ := ih (by omega)
    have hab := dst_zero (show dstP far a b = 0 by omega)
    subst hab
    have hxa : a = x := by
      rw [List.length_cons, List.replicate_succ] at e
      injection e
    subst hxa
    refine ⟨a, hx, ?_⟩
    rw [List.length_cons, List.replicate_succ, ← e]
theorem stay_cst : ∀ {k a : Nat} {c u : Int}, Way far N cst 0 (List.replicate (k + 1) a) c u → ∀ i, i < k + 1 → cst i a ≠ -1
  | 0, a, c, u, h, i, hi => by
    obtain rfl : i = 0 := by omega
    cases h with
    | one h1 h2 => exact h2
  | k + 1, a, c, u, h, i, hi => by
    rw [List.replicate_succ', List.replicate_succ', List.append_assoc] at h
    obtain ⟨c', u', w, h1, h2, -⟩ := Way.unsnoc h
    rw [List.length_replicate, Nat.zero_add] at h2
    rcases Nat.lt_or_ge i (k + 1) with h3 | h3
    · rw [← List.replicate_succ'] at w
      exact stay_cst w i h3
    · obtain rfl : i = k + 1 := by omega
      exact h2
theorem stl_rep (p : Int × Int) (n : Nat) : ∀ i, i ≤ n → stl (List.replicate n p) i = true
  | 0, _ => rfl
  | i + 1, h => by
    have g : ∀ j, j < n → (List.replicate n p).getD j default = p := fun j hj => by rw [List.getD_eq_getElem?_getD, List.getElem?_replicate, if_pos hj]; rfl
    rw [stl, stl_rep p n i (by omega), g i (by omega), g 0 (by omega)]
    simp
end
section
variable {W H : Nat} {f : List Int} {s : Sch} {l : List Smp}
theorem off_ne {x : Smp} {i k : Int} : offF W H f s x i k ≠ -1 ↔ codeF W H f (s.x + i * s.step + x.dx) (s.y + k * s.step + x.dy) = 0 := by
  unfold offF
  split
  · rename_i h; exact ⟨fun _ => h, fun _ => by omega⟩
  · rename_i h; exact ⟨fun q => absurd rfl q, fun q => absurd q h⟩
theorem on_iff (a : Nat) : ∀ n, onTo W H f (s.x + (pS s.far a).1 * s.step) (s.y + (pS s.far a).2 * s.step) l n = true ↔ ∀ i, i < n → cstF W H f s l i a ≠ -1
  | 0 => ⟨fun _ i hi => by omega, fun _ => rfl⟩
  | n + 1 => by
    have ih := on_iff a n
    rw [onTo, Bool.and_eq_true, ih, beq_iff_eq]
    have e : cstF W H f s l n a ≠ -1 ↔ _ := off_ne
    constructor
    · rintro ⟨h1, h2⟩ i hi
      rcases Nat.lt_or_ge i n with h | h
      · exact h1 i h
      · obtain rfl : i = n := by omega
        exact e.2 h2
    · intro h
      exact ⟨fun i hi => h i (by omega), e.1 (h n (by omega))⟩
theorem ap_get (X Y : Int) : ∀ n i, i < n → (apTo W H f X Y l n).getD i 0 = heightT W H f (X + (l.getD i default).dx) (Y + (l.getD i default).dy) - (l.getD i default).z
  | n + 1, i, h => by
    rw [apTo]
    rcases Nat.lt_or_ge i n with h1 | h1
    · rw [List.getD_eq_getElem?_getD, List.getElem?_append_left (by rw [apTo_len]; exact h1), ← List.getD_eq_getElem?_getD, ap_get X Y n i h1]
    · obtain rfl : i = n := by omega
      rw [List.getD_eq_getElem?_getD, List.getElem?_append_right (by rw [apTo_len]; exact Nat.le_refl _), apTo_len, Nat.sub_self]
      rfl
theorem cos_sum (a : Nat) (n : Nat) (S : Int) (L : Int) : ∀ k, k ≤ n → (∀ i, i < k → cstF W H f s l i a ≠ -1) → cosTo L S 0 (apTo W H f (s.x + (pS s.far a).1 * s.step) (s.y + (pS s.far a).2 * s.step) l n) k = sumC (cstF W H f s l) a k
  | 0, _, _ => rfl
  | k + 1, hk, h => by
    have ih := cos_sum a n S L k (by omega) (fun i hi => h i (by omega))
    have e := h k (by omega)
    have e2 := off_ne.1 (show offF W H f s (l.getD k default) (pS s.far a).1 (pS s.far a).2 ≠ -1 from e)
    rw [cosTo, sumC, ih, ap_get _ _ _ _ (by omega)]
    congr 1
    have ed : ∀ x, difX L S 0 x = x := fun x => if_neg (by decide)
    have et : ∀ x, terX 0 x = if x < 0 then -x else x := fun x => if_pos (.inl rfl)
    rw [ed, et]
    unfold cstF offF
    rw [if_pos e2]
    split <;> omega
/-- A place of a search, as match tells it: what staying there costs. -/
theorem gS_stay (hf : In16 f) (hl : ∀ j, j < l.length → SmpOk (l.getD j default)) (h64 : l.length ≤ 64) (a : Nat) :
    gS W H f s l 0 a = if ∀ i, i < l.length → cstF W H f s l i a ≠ -1 then some (sumC (cstF W H f s l) a l.length, 0) else none := by
  unfold gS plcF
  have h1 := on_iff (W := W) (H := H) (f := f) (s := s) (l := l) a l.length
  by_cases hon : onTo W H f (s.x + (pS s.far a).1 * s.step) (s.y + (pS s.far a).2 * s.step) l l.length = true
  · rw [if_pos hon, if_pos (h1.1 hon)]
    have hd := DifOk_ap (W := W) (H := H) (X := s.x + (pS s.far a).1 * s.step) (Y := s.y + (pS s.far a).2 * s.step) hf hl l.length (Nat.le_refl _)
    have hlen := apTo_len W H f (s.x + (pS s.far a).1 * s.step) (s.y + (pS s.far a).2 * s.step) l l.length
    have hc := cos_sum (W := W) (H := H) (f := f) (s := s) (l := l) a l.length (sumTo (apTo W H f (s.x + (pS s.far a).1 * s.step) (s.y + (pS s.far a).2 * s.step) l l.length) l.length) l.length l.length (Nat.le_refl _) (h1.1 hon)
    have hb : badTo (apTo W H f (s.x + (pS s.far a).1 * s.step) (s.y + (pS s.far a).2 * s.step) l l.length) l.length = false := badTo_no.2 fun j hj => by have := hd j hj; omega
    have hle : ∀ k, k ≤ l.length → sumC (cstF W H f s l) a k ≤ 8388608 * (k : Int) := by
      intro k
      induction k with
      | zero => intro _; simp [sumC]
      | succ k ih =>
        intro hk
        have := ih (by omega)
        have := (cst_ok hf s l hl (W := W) (H := H) k a).2
        rw [sumC]
        omega
    have hle1 := hle l.length (Nat.le_refl _)
    unfold costF
    rw [hlen, if_neg (by omega), hb, if_neg (by decide), hc, if_neg (by omega)]
  · rw [if_neg hon, if_neg (fun h => hon (h1.2 h))]
theorem all_ok {g : Nat → Option (Int × Int)} {p : Nat → Int × Int} (h : ∀ n, g n = none ∨ ∃ c, g n = some (c, 0)) : ∀ n, (allTo g p n).2 = false
  | 0 => rfl
  | n + 1 => by
    have ih := all_ok (p := p) h n
    rcases h n with hg | ⟨c, hg⟩
    · rw [all_none ih hg]; exact ih
    · rw [all_some ih hg]
theorem cb_min {l : List Stp} (h : ∀ i, i < l.length → 0 ≤ (l.getD i default).cost) : ∀ n, n ≤ l.length → (n = 0 ∧ cbTo l n = ⟨0, 0, -1⟩) ∨ ((∃ j, j < n ∧ cbTo l n = l.getD j default) ∧ ∀ j, j < n → (cbTo l n).cost ≤ (l.getD j default).cost)
  | 0, _ => .inl ⟨rfl, rfl⟩
  | n + 1, hn => by
    have hc := h n (by omega)
    refine .inr ?_
    rw [cbTo]
    rcases cb_min h n (by omega) with ⟨rfl, e⟩ | ⟨⟨j, hj, e⟩, hm⟩
    · rw [e, if_pos (.inl (by show (-1 : Int) < 0; decide))]
      exact ⟨⟨0, by omega, rfl⟩, fun j hj => by obtain rfl : j = 0 := by omega
                                                exact Int.le_refl _⟩
    · have hp := h j (by omega)
      rw [← e] at hp
      split
      · rename_i hlt
        refine ⟨⟨n, by omega, rfl⟩, fun i hi => ?_⟩
        rcases Nat.lt_or_ge i n with h1 | h1
        · have := hm i h1; omega
        · obtain rfl : i = n := by omega
          exact Int.le_refl _
      · rename_i hge
        refine ⟨⟨j, by omega, e⟩, fun i hi => ?_⟩
        rcases Nat.lt_or_ge i n with h1 | h1
        · exact hm i h1
        · obtain rfl : i = n := by omega
          omega
/-- Who stays: what the best place costs. -/
theorem best_stay (hf : In16 f) (hc : chk21 s l = 0) (hne : (allL W H f s l 0).length ≠ 0) :
    (∃ a, a < sideN s.far * sideN s.far ∧ (∀ i, i < l.length → cstF W H f s l i a ≠ -1) ∧ (cbTo (allL W H f s l 0) (allL W H f s l 0).length).cost = sumC (cstF W H f s l) a l.length) ∧
    ∀ a, a < sideN s.far * sideN s.far → (∀ i, i < l.length → cstF W H f s l i a ≠ -1) → (cbTo (allL W H f s l 0) (allL W H f s l 0).length).cost ≤ sumC (cstF W H f s l) a l.length := by
  obtain ⟨hs, ⟨l1, l2⟩, hl⟩ := chk21_ok hc
  have hin := fun i hi => allL_in (W := W) (H := H) (f := f) (s := s) (l := l) (m := 0) (i := i) hi
  have hg := fun a => gS_stay (W := W) (H := H) (s := s) hf hl l2 a
  have heq : allL W H f s l 0 = (allTo (gS W H f s l 0) (pS s.far) (sideN s.far * sideN s.far)).1 := by unfold allL allN; rw [if_pos hc]
  have hok := all_ok (g := gS W H f s l 0) (p := pS s.far) (fun n => by
    rw [hg n]
    split
    · exact .inr ⟨_, rfl⟩
    · exact .inl rfl)
  rcases cb_min (l := allL W H f s l 0) (fun i hi => (hin i hi).2.2.1.1) _ (Nat.le_refl _) with ⟨e, -⟩ | ⟨⟨j, hj, e⟩, hm⟩
  · exact absurd e hne
  constructor
  · have hx : (allL W H f s l 0).getD j default ∈ allL W H f s l 0 := by
      rw [List.getD_eq_getElem?_getD, List.getElem?_eq_getElem hj]
      exact List.getElem_mem ..
    rw [← e] at hx
    rw [heq] at hx ⊢
    obtain ⟨a, ha, -, -, h3⟩ := all_mem _ _ hx
    rw [hg a] at h3
    split at h3
    · rename_i hall
      injection h3 with h3
      injection h3 with h3 _
      exact ⟨a, ha, hall, h3.symm⟩
    · cases h3
  · intro a ha hall
    have hga := hg a
    rw [if_pos hall] at hga
    obtain ⟨h1, h2⟩ := all_at ha (hok a) hga
    rw [← heq] at h1 h2
    have := hm _ h2
    rw [h1] at this
    exact this
end
end Go.Proofs.YtemmnpgebpffbaaGreat
