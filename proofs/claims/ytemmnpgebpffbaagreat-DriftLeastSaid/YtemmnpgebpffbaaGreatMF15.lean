
import Derived.Test.YtemmnpgebpffbaaGreatMF14
set_option linter.unusedVariables false
set_option linter.unusedSimpArgs false
/- Package drift: where the best way ends. -/
namespace Go.Proofs.YtemmnpgebpffbaaGreat
open Go.RowKit
instance : RowE dE 2 := ⟨fun _ => rfl, by decide⟩
instance : OneE dE := ⟨fun a u hu => by simp [dE] at hu; rcases hu with rfl | rfl <;> rfl⟩
instance (a b : Int) : UnE dE [.int .i64 a, .int .i64 b] (a, b) := ⟨rfl⟩
theorem flat_zero (m : Nat) : flat dE (List.replicate m ((0, 0) : Int × Int)) = ints .i64 (List.replicate (m * 2) 0) := by
  induction m with
  | zero => rfl
  | succ m ih =>
    rw [List.replicate_succ, show (((0, 0) : Int × Int) :: List.replicate m (0, 0)) = [(0, 0)] ++ List.replicate m (0, 0) from rfl, flat_app, ih, show (m + 1) * 2 = m * 2 + 1 + 1 by omega, List.replicate_succ, List.replicate_succ]
    rfl
theorem made_two (m : Nat) : (madeCells (Value.agg #[.int .i64 0, .int .i64 0]).cells (m * 2)).toList = ints .i64 (List.replicate (m * 2) 0) := by
  simp only [madeCells, ints, Value.cells, Array.toList_map, Array.toList_range, List.map_replicate]
  apply List.ext_getElem (by simp)
  intro i h1 h2
  have : i % 2 = 0 ∨ i % 2 = 1 := by omega
  rcases this with h | h <;> simp [h]
section
variable {P : Program} {w0 : World} {W : Nat → Prop} {H : List HE}
theorem r_make2 {F : Fence} {n N : Nat} {ds : List Deferred} {σ : List (Nat × Value)} {d : Nat} {ty : TypeId} {pos : String} {aft : Array Edge} {gd : Option (Nat × Bool)} {K : Act → World → Prop} {Q : Exit → Act → World → Prop} [Wide F] {t e bs : Nat} {kl kc : IntKind} {x y : Operand} {m : Nat} [Und P t (.slice e)] [hI : Inf P e 2 bs (.agg #[.int .i64 0, .int .i64 0])]
    (hc : bs * m ≤ 281474976710656 ∧ m ≤ 4611686018427387904) (hv : vals σ [x, y] = some [.int kl (m : Int), .int kc (m : Int)]) (hdN : Nat.blt d N = true)
    (h : ∀ b, J N ds w0 W ((d, .slice (some ⟨b, 0, none⟩) m m) :: σ) (.row (.slice (some ⟨b, 0, none⟩) m m) e 2 m (flat dE (List.replicate m (0, 0))) :: H) K) : OJ F n P N ds w0 W σ H ⟨some d, .makeSlice t x y, ty, pos, aft, gd⟩ K Q :=
  o_new (by simp) rfl hdN (fun b => .slice (some ⟨b, 0, none⟩) m m) (flat dE (List.replicate m (0, 0))) e (fun a w ha _ => by
    obtain ⟨p, q⟩ := vals2 hv
    obtain ⟨i, e1, e2, e3, e4⟩ := hI.h
    have hrun := run_make (P := P) w t e i _ Und.h e1 e2 kl kc (m : Int) (m : Int) (by omega) (by omega) (by rw [e4]; have := hc.1; push_cast; omega) (by have := hc.2; omega)
    rw [Int.toNat_natCast, e3] at hrun
    have em : madeCells (Value.agg #[.int .i64 0, .int .i64 0]).cells (m * 2) = (flat dE (List.replicate m (0, 0))).toArray := by
      apply Array.ext'
      rw [made_two, flat_zero]
    rw [em] at hrun
    simp only [execOp, ha.eval p, ha.eval q, Sem.run_bind, hrun, Result.andThen_ok, Sem.run_pure]) (fun b => j_rowed (by simp [flat_len]) (by have := hc.2; simp only [maxLen]; omega) (h b))
instance (t e bs : Nat) (kl kc : IntKind) (x y : Operand) (m : Nat) [Und P t (.slice e)] [Inf P e 2 bs (.agg #[.int .i64 0, .int .i64 0])] : NS P w0 W H (.makeSlice t x y) [.int kl (m : Int), .int kc (m : Int)] (fun b => .slice (some ⟨b, 0, none⟩) m m) (fun b => .row (.slice (some ⟨b, 0, none⟩) m m) e 2 m (flat dE (List.replicate m (0, 0))) :: H) (bs * m ≤ 281474976710656 ∧ m ≤ 4611686018427387904) :=
  ⟨fun hc _ _ _ _ _ _ _ _ _ _ _ _ _ k1 k2 k3 => r_make2 hc k1 k2 k3⟩
end
/-- The first of the least of those that are. -/
def bstG (g : Nat → Int) : Nat → Option Nat
  | 0 => none
  | i + 1 => if g i = -1 then bstG g i else
    match bstG g i with
    | none => some i
    | some b => if g i < g b then some i else some b
def bstI40 (g : Nat → Int) (N : Nat) : Int := match bstG g N with
  | none => -1
  | some b => b
theorem bstG_lt {g : Nat → Int} : ∀ {n b : Nat}, bstG g n = some b → b < n ∧ g b ≠ -1
  | 0, b, h => by simp [bstG] at h
  | n + 1, b, h => by
    rw [bstG] at h
    split at h
    · have := bstG_lt h; exact ⟨by omega, this.2⟩
    · rename_i h1
      split at h
      · injection h with h; subst h; exact ⟨by omega, h1⟩
      · rename_i c hc
        have := bstG_lt hc
        split at h
        · injection h with h; subst h; exact ⟨by omega, h1⟩
        · injection h with h; subst h; exact ⟨by omega, this.2⟩
theorem bstG_skip {g : Nat → Int} {i : Nat} (h : g i = -1) : bstI40 g (i + 1) = bstI40 g i := by unfold bstI40; rw [bstG, if_pos h]
theorem bstG_new {g : Nat → Int} {i : Nat} (h : g i ≠ -1) (hb : bstG g i = none) : bstI40 g (i + 1) = i := by unfold bstI40; rw [bstG, if_neg h, hb]
theorem bstG_lss {g : Nat → Int} {i b : Nat} (h : g i ≠ -1) (hb : bstG g i = some b) (hl : g i < g b) : bstI40 g (i + 1) = i := by unfold bstI40; rw [bstG, if_neg h, hb]; simp only [if_pos hl]
theorem bstG_geq {g : Nat → Int} {i b : Nat} (h : g i ≠ -1) (hb : bstG g i = some b) (hl : ¬ g i < g b) : bstI40 g (i + 1) = b := by unfold bstI40; rw [bstG, if_neg h, hb]; simp only [if_neg hl]
theorem tab_elem (g : Nat → Int) {N i : Nat} (h : i < N) : Elem (ints .i64 (tab g N)) i (.int .i64 (g i)) True := ⟨fun _ => by
  have hk : i < (tab g N).length := by rw [tab_len]; exact h
  have hv := tab_get g h
  rw [List.getD_eq_getElem?_getD, List.getElem?_eq_getElem hk, Option.getD_some] at hv
  simp only [ints, List.getElem?_map, List.getElem?_eq_getElem hk, Option.map_some, hv]⟩
theorem bstI_none {g : Nat → Int} {n : Nat} (h : bstG g n = none) : bstI40 g n = -1 := by unfold bstI40; rw [h]
theorem bstI_some {g : Nat → Int} {n b : Nat} (h : bstG g n = some b) : bstI40 g n = b := by unfold bstI40; rw [h]
attribute [local irreducible] OJ J HdJ Code.wpIn wpListIn Oper.wpIn bodyPost CallsIn Does
set_option maxRecDepth 4000
set_option maxHeartbeats 128000000 in
theorem best40_t (tb : Nat) (s : Sch) (t : Int) (Ac : Option Addr) (kc : Nat) (Ab : Option Addr) (kb : Nat) (G : Nat → Nat → Int × Int) (p : Nat × Nat) (r : List (Nat × Nat)) (w : World) (N : Nat) (hN : N ≤ 289) (h64 : r.length < 64) (hown : Own (TrH tb s t Ac kc Ab kb G N (p :: r)) w) :
    Does Tryz.prog 50 [.pointer (some ⟨tb, 0, none⟩)] (TrH tb s t Ac kc Ab kb G N (p :: r)) w
      (fun v S' => v = .int .i64 (bstI40 (fun a => (G r.length a).1) N) ∧ S' = TrH tb s t Ac kc Ab kb G N (p :: r)) := by
  refine does_of Tryz.func50 rfl Tryz.ntmps50 rfl hown (fun _ => ?_)
  simp only [slots, TrH, rowsT, List.length_cons]
  refine j_opn (A := Ac) (m := r.length + 1) (cc := kc) (by omega) (fun ga hga => ?_)
  subst hga
  have iLast := slE_last N (·.1) p r
  have htl := tab_len (fun a => (G r.length a).1) N
  refine z_tas
  refine c_loop (X := Nat) (fun i => i ≤ N) (fun i => [(3, .int .i64 (bstI40 (fun a => (G r.length a).1) i)), (4, .slice (some ⟨p.1, 0, none⟩) N N), (19, .slice (some ⟨p.1, 0, none⟩) N N), (20, .int .i64 N), (21, .int .i64 i)])
    (fun i => TrH tb s t (some ⟨ga, 0, none⟩) kc Ab kb G N (p :: r)) (fun i => N - i) 0 (by omega) ⟨rfl, rfl, rfl, rfl, rfl, trivial⟩ (by simp only [TrH, rowsT, List.length_cons]; exact Sub.au) ?_
  intro i hi
  simp only [TrH, rowsT, List.length_cons]
  generalize hg : (fun a => (G r.length a).1) = g at *
  rcases Nat.lt_or_ge i N with h | h
  · have iE := tab_elem g h
    cases hb : bstG g i with
    | none =>
      have e1 := fun q : g i ≠ -1 => bstG_new q hb
      have e2 := fun q : g i = -1 => (bstG_skip q).trans (bstI_none hb)
      generalize hgi : g i = gi at *
      rw [bstI_none hb]
      refine z_tas
      all_goals try (refine c_dv (0 :: 1 :: 2 :: 3 :: 4 :: 5 :: 6 :: 7 :: 8 :: 9 :: 10 :: 11 :: 12 :: 13 :: []) ?_; intro _)
      all_goals try (refine z_govG)
      all_goals first
        | exact c_round (i + 1) h (by show N - (i + 1) < N - i; omega) ⟨by rw [e1 (by omega)]; first | done | rfl, rfl, rfl, rfl, by simp [look], trivial⟩ (by first | exact Sub.au | (simp only [TrH, rowsT, List.length_cons, hg]; exact Sub.au))
        | exact c_round (i + 1) h (by show N - (i + 1) < N - i; omega) ⟨by rw [e2 (by omega)]; first | done | rfl, rfl, rfl, rfl, by simp [look], trivial⟩ (by first | exact Sub.au | (simp only [TrH, rowsT, List.length_cons, hg]; exact Sub.au))
        | (exfalso; omega)
    | some b =>
      have hlt := bstG_lt hb
      have iB := tab_elem g (show b < N by omega)
      have e1 := fun (q : g i ≠ -1) (q2 : g i < g b) => bstG_lss q hb q2
      have e2 := fun (q : g i ≠ -1) (q2 : ¬ g i < g b) => bstG_geq q hb q2
      have e3 := fun q : g i = -1 => (bstG_skip q).trans (bstI_some hb)
      generalize hgi : g i = gi at *
      generalize hgb : g b = gb at *
      rw [bstI_some hb]
      refine z_tas
      all_goals try (refine c_dv (0 :: 1 :: 2 :: 3 :: 4 :: 5 :: 6 :: 7 :: 8 :: 9 :: 10 :: 11 :: 12 :: 13 :: []) ?_; intro _)
      all_goals try (refine z_govG)
      all_goals first
        | exact c_round (i + 1) h (by show N - (i + 1) < N - i; omega) ⟨by rw [e1 (by omega) (by omega)]; first | done | rfl, rfl, rfl, rfl, by simp [look], trivial⟩ (by first | exact Sub.au | (simp only [TrH, rowsT, List.length_cons, hg]; exact Sub.au))
        | exact c_round (i + 1) h (by show N - (i + 1) < N - i; omega) ⟨by rw [e2 (by omega) (by omega)]; first | done | rfl, rfl, rfl, rfl, by simp [look], trivial⟩ (by first | exact Sub.au | (simp only [TrH, rowsT, List.length_cons, hg]; exact Sub.au))
        | exact c_round (i + 1) h (by show N - (i + 1) < N - i; omega) ⟨by rw [e3 (by omega)]; first | done | rfl, rfl, rfl, rfl, by simp [look], trivial⟩ (by first | exact Sub.au | (simp only [TrH, rowsT, List.length_cons, hg]; exact Sub.au))
        | (exfalso; omega)
  · obtain rfl : i = N := by omega
    refine z_tas
    exact j_out1 (S' := TrH tb s t (some ⟨ga, 0, none⟩) kc Ab kb G i (p :: r)) rfl rfl (by first | exact Sub.au | (simp only [TrH, rowsT, List.length_cons, hg]; exact Sub.au)) ⟨rfl, by simp only [TrH, rowsT, List.length_cons, hg]⟩
end Go.Proofs.YtemmnpgebpffbaaGreat
