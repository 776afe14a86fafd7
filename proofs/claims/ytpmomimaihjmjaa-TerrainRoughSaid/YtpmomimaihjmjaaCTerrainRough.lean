/- IT DOES NOT ASK HOW HIGH THEY ARE: for every map, every cell, every reach and every lift of the ground the law TerrainRough of the given program returns true, and leaves its arguments as they were. No condition. No condition. -/
import Derived.Carry
import Derived.Test.YtpmomimaihjmjaaMB11
set_option linter.unusedVariables false
set_option linter.unusedSimpArgs false
/- How rough the ground is does not ask how high it is. -/
namespace Go.Proofs.Ytpmomimaihjmjaa
open Go.RowKit
theorem hAt_out {W H : Nat} {f : List Int} {x y : Int} (h : x < -1000 ∨ 1000 < x ∨ y < -1000 ∨ 1000 < y) (dx dy : Int) : hAt W H f x y dx dy = [] := by
  unfold hAt
  refine if_neg ?_
  have e : wiF x dx = -1 ∨ wiF y dy = -1 := by
    rcases h with h | h | h | h
    · exact .inl (if_pos (.inl h))
    · exact .inl (if_pos (.inr h))
    · exact .inr (if_pos (.inl h))
    · exact .inr (if_pos (.inr h))
  unfold heightF
  rw [if_pos (by omega)]
  decide
theorem rowH_out {W H : Nat} {f : List Int} {x y : Int} (h : x < -1000 ∨ 1000 < x ∨ y < -1000 ∨ 1000 < y) (far : Nat) (dy : Int) : ∀ j, rowH W H f x y far dy j = []
  | 0 => rfl
  | j + 1 => by rw [rowH, rowH_out h far dy j, hAt_out h]; rfl
theorem allH_out {W H : Nat} {f : List Int} {x y : Int} (h : x < -1000 ∨ 1000 < x ∨ y < -1000 ∨ 1000 < y) (far : Nat) : ∀ i, allH W H f x y far i = []
  | 0 => rfl
  | i + 1 => by rw [allH, allH_out h far i, rowH_out h]; rfl
theorem roughR_Q (W H : Nat) (f : List Int) (x y far : Int) : roughR (sqH W H f x y far) = roughQ W H f x y far := by
  unfold roughQ
  split
  · rename_i h
    unfold sqH
    rw [allH_out h]
    rfl
  · rfl
/-- Heights that are all one higher. -/
structure Shift (W H : Nat) (f g : List Int) (u : Int) : Prop where
  lf : f.length = W * H
  lg : g.length = W * H
  inf : ∀ j, j < W * H → -32000 ≤ f.getD j 0 ∧ f.getD j 0 ≤ 32000
  eq : ∀ j, j < W * H → g.getD j 0 = f.getD j 0 + u
  u : -128 ≤ u ∧ u ≤ 127
theorem cellIn {W H : Nat} {x y : Int} (hx : 0 ≤ x ∧ x < W) (hy : 0 ≤ y ∧ y < H) : (y * W + x).toNat < W * H := by
  have h1 : (y + 1) * W ≤ (H : Int) * W := Int.mul_le_mul_of_nonneg_right (by omega) (by omega)
  have h2 : (y + 1) * (W : Int) = y * W + W := by rw [Int.add_mul, Int.one_mul]
  have h3 : 0 ≤ y * (W : Int) := Int.mul_nonneg hy.1 (by omega)
  have h4 : (H : Int) * W = ((W * H : Nat) : Int) := by rw [Int.natCast_mul, Int.mul_comm]
  omega
theorem hAt_shift {W H : Nat} {f g : List Int} {u : Int} (h : Shift W H f g u) (x y dx dy : Int) : hAt W H g x y dx dy = (hAt W H f x y dx dy).map (· + u) := by
  unfold hAt
  generalize wiF x dx = a
  generalize wiF y dy = b
  have hu := h.u
  by_cases hab : a < 0 ∨ b < 0 ∨ (W : Int) ≤ a ∨ (H : Int) ≤ b
  · have e1 : heightF W H g a b = (0, 9) := if_pos hab
    have e2 : heightF W H f a b = (0, 9) := if_pos hab
    rw [e1, e2]
    rfl
  · have hc := cellIn (W := W) (H := H) (x := a) (y := b) (by omega) (by omega)
    have h1 := h.inf _ hc
    have h2 := h.eq _ hc
    have e1 : heightF W H g a b = (g.getD (b * W + a).toNat 0, 0) := by unfold heightF; rw [if_neg hab, if_neg (by omega)]
    have e2 : heightF W H f a b = (f.getD (b * W + a).toNat 0, 0) := by unfold heightF; rw [if_neg hab, if_neg (by omega)]
    rw [e1, e2, h2]
    rfl
theorem rowH_shift {W H : Nat} {f g : List Int} {u : Int} (h : Shift W H f g u) (x y : Int) (far : Nat) (dy : Int) : ∀ j, rowH W H g x y far dy j = (rowH W H f x y far dy j).map (· + u)
  | 0 => rfl
  | j + 1 => by rw [rowH, rowH, rowH_shift h x y far dy j, hAt_shift h, List.map_append]
theorem allH_shift {W H : Nat} {f g : List Int} {u : Int} (h : Shift W H f g u) (x y : Int) (far : Nat) : ∀ i, allH W H g x y far i = (allH W H f x y far i).map (· + u)
  | 0 => rfl
  | i + 1 => by rw [allH, allH, allH_shift h x y far i, rowH_shift h, List.map_append]
theorem sumZ_map (u : Int) : ∀ L : List Int, sumZ (L.map (· + u)) = sumZ L + u * (L.length : Nat)
  | [] => by simp [sumZ]
  | x :: r => by
    rw [List.map_cons, sumZ, sumZ, sumZ_map u r, List.length_cons, Int.natCast_add, Int.mul_add]
    omega
theorem sqZ_map (u : Int) : ∀ L : List Int, sqZ (L.map (· + u)) = sqZ L + 2 * (u * sumZ L) + u * u * (L.length : Nat)
  | [] => by simp [sqZ, sumZ]
  | x :: r => by
    have e : (x + u) * (x + u) = x * x + 2 * (u * x) + u * u := by
      rw [Int.add_mul, Int.mul_add, Int.mul_add, Int.mul_comm x u]; omega
    rw [List.map_cons, sqZ, sqZ, sumZ, sqZ_map u r, List.length_cons, Int.natCast_add, e]
    simp only [Int.mul_add]
    omega
theorem roughE_map (u : Int) (L : List Int) : roughE (L.map (· + u)) = roughE L := by
  unfold roughE
  rw [sumZ_map, sqZ_map, List.length_map]
  generalize sumZ L = s
  generalize sqZ L = q
  generalize ((L.length : Nat) : Int) = n
  congr 2
  have e1 : (q + 2 * (u * s) + u * u * n) * n = q * n + 2 * (u * s * n) + u * u * n * n := by
    rw [Int.add_mul, Int.add_mul, Int.mul_assoc 2]
  have e2 : (s + u * n) * (s + u * n) = s * s + 2 * (u * s * n) + u * u * n * n := by
    rw [Int.add_mul, Int.mul_add, Int.mul_add, show s * (u * n) = u * s * n by rw [← Int.mul_assoc, Int.mul_comm s u], show u * n * s = u * s * n by rw [Int.mul_assoc, Int.mul_comm n s, ← Int.mul_assoc], show u * n * (u * n) = u * u * n * n by rw [Int.mul_assoc u n, ← Int.mul_assoc n u n, Int.mul_comm n u, ← Int.mul_assoc, ← Int.mul_assoc]]
    omega
  omega
theorem roughR_shift {W H : Nat} {f g : List Int} {u : Int} (h : Shift W H f g u) (x y far : Int) : roughR (sqH W H g x y far) = roughR (sqH W H f x y far) := by
  unfold sqH
  rw [allH_shift h]
  generalize allH W H f x y _ _ = L
  unfold roughR roughX
  rw [roughE_map, List.length_map]
end Go.Proofs.Ytpmomimaihjmjaa
/- Layer 11's statements: the walk of TerrainRough. -/
namespace Go.Proofs.Ytpmomimaihjmjaa
open Go.RowKit
/-- What is in order when the first i heights were made. -/
structure Mid (n : Nat) (u : Int) (i : Nat) (f g : List Int) : Prop where
  lf : f.length = n
  lg : g.length = n
  inf : In16 f
  ing : In16 g
  bf : ∀ j, j < i → -32000 ≤ f.getD j 0 ∧ f.getD j 0 ≤ 32000
  eq : ∀ j, j < i → g.getD j 0 = f.getD j 0 + u
theorem getD_set_eq {l : List Int} {i : Nat} {x : Int} (h : i < l.length) : (l.set i x).getD i 0 = x := by simp [List.getD_eq_getElem?_getD, h]
theorem getD_set_ne {l : List Int} {i j : Nat} {x : Int} (h : i ≠ j) : (l.set i x).getD j 0 = l.getD j 0 := by rw [List.getD_eq_getElem?_getD, List.getElem?_set_ne h, List.getD_eq_getElem?_getD]
theorem in16_set {l : List Int} (h : In16 l) (i : Nat) {x : Int} (hx : -32768 ≤ x ∧ x ≤ 32767) : In16 (l.set i x) := fun j => by
  by_cases e : i = j
  · subst e
    rcases Nat.lt_or_ge i l.length with hi | hi
    · rw [getD_set_eq hi]; exact hx
    · rw [List.set_eq_of_length_le hi]; exact h i
  · rw [getD_set_ne e]; exact h j
theorem Mid.keep {n i : Nat} {u : Int} {f g : List Int} (h : Mid n u i f g) (hi : i < n) (hu : -128 ≤ u ∧ u ≤ 127) (hv : -32000 ≤ f.getD i 0 ∧ f.getD i 0 ≤ 32000) : Mid n u (i + 1) f (g.set i (f.getD i 0 + u)) := by
  refine ⟨h.lf, by rw [List.length_set]; exact h.lg, h.inf, in16_set h.ing i (by omega), fun j hj => ?_, fun j hj => ?_⟩
  · by_cases e : j = i
    · subst e; exact hv
    · exact h.bf j (by omega)
  · by_cases e : j = i
    · subst e; rw [getD_set_eq (by rw [h.lg]; exact hi)]
    · rw [getD_set_ne (fun x => e x.symm)]; exact h.eq j (by omega)
theorem Mid.turn {n i : Nat} {u : Int} {f g : List Int} (h : Mid n u i f g) (hi : i < n) : Mid n u i (f.set i 0) g := by
  refine ⟨by rw [List.length_set]; exact h.lf, h.lg, in16_set h.inf i (by omega), h.ing, fun j hj => ?_, fun j hj => ?_⟩
  · rw [getD_set_ne (by omega)]; exact h.bf j hj
  · rw [getD_set_ne (by omega)]; exact h.eq j hj
theorem Mid.shift {W H : Nat} {u : Int} {f g : List Int} (h : Mid (W * H) u (W * H) f g) (hu : -128 ≤ u ∧ u ≤ 127) : Shift W H f g u := ⟨h.lf, h.lg, h.bf, h.eq, hu⟩
theorem open10n (W H cell : Nat) (Af : Option Addr) (cf : Nat) (f : List Int) (ox oy : Int) (R m : Nat) (w : World) (hm : f.length = m) (hr : RoA w (blocks []) Af m cf 1 (ints .i16 f)) (hW : 2 ≤ W ∧ W ≤ 256 ∧ 2 ≤ H ∧ H ≤ 256 ∧ 1 ≤ cell ∧ cell ≤ 1000) (hz : f.length = W * H) (hi : In16 f) (hox : InR .i32 ox) (hoy : InR .i32 oy) (hR : 4 ≤ R ∧ R ≤ 32) :
    Does Try.prog 16 [.agg #[.int .i64 W, .int .i64 H, .slice Af m cf, .int .i64 cell, .int .i32 ox, .int .i32 oy], .int .i64 R] [] w (fun v S' => ∃ K : CaT, K.ys = chartB W H cell ox oy f ∧ K.room = R ∧ v = .pointer (some ⟨K.g, 0, none⟩) ∧ S' = K.H (newV R)) := by
  subst hm
  exact open10 W H cell Af cf f ox oy R w hr hW hz hi hox hoy hR
/-- What a function leaves need not be kept. -/
theorem does_drop {P : Program} {f : FuncId} {args : List Value} {S : List HE} {w : World} {x : Value} (h : Does P f args S w fun v _ => v = x) : Does P f args S w (fun v S' => v = x ∧ S' = []) := fun n =>
  (h n).mono fun _ _ ⟨v, _, e, h1, h2⟩ => ⟨v, [], e, ⟨h1, rfl⟩, h2.sub (.nil _)⟩
theorem rrough_n (W H : Nat) (A : Option Addr) (c m : Nat) (f : List Int) (x y far : Int) (w : World) (hm : f.length = m) (hr : RoA w (blocks []) A m c 1 (ints .i16 f)) (hW : 1 ≤ W ∧ W ≤ 256 ∧ 1 ≤ H ∧ H ≤ 256) (hz : f.length = W * H) (hf : In16 f) :
    Does Try.prog 50 [.agg #[.int .i64 W, .int .i64 H, .slice A m c], .int .i64 x, .int .i64 y, .int .i64 far] [] w (fun v S' => v = .tuple #[.int .i64 (roughQ W H f x y far).1, .int .i64 (roughQ W H f x y far).2] ∧ S' = []) := by
  subst hm
  exact does_drop (rrough_any W H A c f x y far w hr hW hz hf)
attribute [local irreducible] OJ J HdJ Code.wpIn wpListIn Oper.wpIn bodyPost CallsIn Does
set_option maxRecDepth 4000
set_option maxHeartbeats 64000000 in
theorem rough_law (a : Int) (ha : InR .u8 a) (b : Int) (hb : InR .u8 b) (A : Option Addr) (c : Nat) (z : List Int) {w : World} (hr : RoA w (blocks []) A z.length c 1 (ints .i16 z)) (hz : ∀ x ∈ z, InR .i16 x) (x : Int) (hx : InR .i64 x) (y : Int) (hy : InR .i64 y) (far : Int) (hfar : InR .i64 far) (up : Int) (hup : InR .i8 up) :
    Does Try.prog 11 [.int .u8 a, .int .u8 b, .slice A z.length c, .int .i64 x, .int .i64 y, .int .i64 far, .int .i8 up] [] w (fun v _ => v = .bool true) := by
  have ha1 : 0 ≤ a ∧ a ≤ 255 := ha
  have hb1 : 0 ≤ b ∧ b ≤ 255 := hb
  have hu1 : -128 ≤ up ∧ up ≤ 127 := hup
  obtain ⟨W, hW, hW1⟩ : ∃ x : Nat, 2 + a % 39 = (x : Int) ∧ 2 ≤ x ∧ x ≤ 40 := ⟨(2 + a % 39).toNat, by omega, by omega⟩
  obtain ⟨H, hH, hH1⟩ : ∃ x : Nat, 2 + b % 39 = (x : Int) ∧ 2 ≤ x ∧ x ≤ 40 := ⟨(2 + b % 39).toNat, by omega, by omega⟩
  have hn0 : 4 ≤ W * H ∧ W * H ≤ 1600 := ⟨Nat.mul_le_mul hW1.1 hH1.1, Nat.mul_le_mul hW1.2 hH1.2⟩
  have iW : CV Try.prog 40 [] (.bool true) True := ⟨fun _ w => works_any11 w⟩
  refine does_of Try.func11 rfl Try.ntmps11 rfl ⟨by simp, .nil⟩ (fun n => ?_)
  simp only [slots]
  refine z_tas
  · exact j_out1 rfl rfl (.nil _) rfl
  refine lf rfl rfl rfl (S := []) (fun w hw ho => made_any a b ha hb W H hW hH A c z 30 (by decide) 0 0 w ⟨hr.h.go hw (Split.nil _)⟩ (by omega)) ?_
  rintro v S' ⟨Af, cf, rfl, rfl⟩
  have hfl := fieldF_len z (W * H)
  have hfi := field_in16 hz (W * H)
  generalize fieldF z (W * H) = f0 at *
  rw [show (1 + 30 % 1000 : Int) = ((31 : Nat) : Int) by decide]
  have hcb : 2 ≤ W ∧ W ≤ 256 ∧ 2 ≤ H ∧ H ≤ 256 ∧ 1 ≤ 31 ∧ 31 ≤ 1000 := by omega
  refine z_tas
  rename_i b15
  refine lf rfl rfl rfl (S := []) (fun w hw ho => made_any a b ha hb W H hW hH none 0 [] 30 (by decide) 0 0 w ⟨Ro.nil _ _ _⟩ (by decide)) ?_
  rintro v S' ⟨Ag, cg, rfl, rfl⟩
  have hgl := fieldF_len [] (W * H)
  have hgi := field_in16 (z := []) (fun _ h => absurd h (by simp)) (W * H)
  generalize fieldF [] (W * H) = g0 at *
  rw [show (1 + 30 % 1000 : Int) = ((31 : Nat) : Int) by decide]
  have hm0 : Mid (W * H) up 0 f0 g0 := ⟨hfl, hgl, hfi, hgi, fun j hj => by omega, fun j hj => by omega⟩
  refine z_tas
  rename_i b16
  generalize hnn : W * H = nn at *
  rw [hfl, hgl]
  refine j_opn (A := Af) (m := nn) (cc := cf) (by omega) (fun gf hg => ?_)
  subst hg
  refine j_opn (A := Ag) (m := nn) (cc := cg) (by omega) (fun gg hg => ?_)
  subst hg
  refine c_loop (X := Nat × List Int × List Int) (fun q => q.1 ≤ nn ∧ Mid nn up q.1 q.2.1 q.2.2) (fun q => [(3, .int .i64 x), (4, .int .i64 y), (5, .int .i64 far), (6, .int .i8 up), (15, .pointer (some ⟨b15, 0, none⟩)), (16, .pointer (some ⟨b16, 0, none⟩)), (17, .int .i64 q.1)])
    (fun q => [.blk b15 28 [.int .i64 W, .int .i64 H, .slice (some ⟨gf, 0, none⟩) nn cf, .int .i64 (31 : Nat), .int .i32 0, .int .i32 0], .row (.slice (some ⟨gf, 0, none⟩) nn cf) 34 1 nn (ints .i16 q.2.1), .blk b16 28 [.int .i64 W, .int .i64 H, .slice (some ⟨gg, 0, none⟩) nn cg, .int .i64 (31 : Nat), .int .i32 0, .int .i32 0], .row (.slice (some ⟨gg, 0, none⟩) nn cg) 34 1 nn (ints .i16 q.2.2)]) (fun q => nn - q.1) (0, f0, g0) ⟨by omega, hm0⟩ ⟨rfl, rfl, rfl, rfl, rfl, rfl, rfl, trivial⟩ Sub.au ?_
  rintro ⟨i, f, g⟩ ⟨hi, hM⟩
  dsimp only at hi hM ⊢
  rcases Nat.lt_or_ge i nn with h | h
  · have hlf := hM.lf
    have hlg := hM.lg
    have hv := hM.inf i
    have hv0 : (f.set i 0).getD i 0 = 0 := getD_set_eq (by omega)
    have hls : (f.set i 0).length = nn := by rw [List.length_set]; exact hlf
    refine z_tas
    all_goals (refine z_gob)
    all_goals first
      | exact c_round (i + 1, f, g.set i (f.getD i 0 + up)) ⟨by omega, hM.keep h hu1 (by omega)⟩ (by show nn - (i + 1) < nn - i; omega) ⟨rfl, rfl, rfl, rfl, rfl, rfl, by simp [look], trivial⟩ Sub.au
      | exact c_round (i + 1, f.set i 0, g.set i ((f.set i 0).getD i 0 + up)) ⟨by omega, (hM.turn h).keep h hu1 (by omega)⟩ (by show nn - (i + 1) < nn - i; omega) ⟨rfl, rfl, rfl, rfl, rfl, rfl, by simp [look], trivial⟩ Sub.au
  · obtain rfl : i = nn := by omega
    have hlf := hM.lf
    have hlg := hM.lg
    subst hnn
    have hsh := hM.shift hu1
    have eR := roughR_Q W H f x y far
    have eS := roughR_shift hsh x y far
    obtain ⟨-, h2, h3, -, -, -⟩ := chart_hdr (ox := 0) (oy := 0) (z := f) (W := W) (H := H) (cell := 31) (by omega)
    obtain ⟨-, g2, g3, -, -, -⟩ := chart_hdr (ox := 0) (oy := 0) (z := g) (W := W) (H := H) (cell := 31) (by omega)
    refine z_tas
    refine c_dv (0 :: 1 :: 2 :: 3 :: 4 :: 5 :: []) ?_; intro _
    refine z_govG
    refine lf rfl rfl rfl (S := []) (fun w hw ho => open10n W H 31 (some ⟨gf, 0, none⟩) cf f 0 0 9 (W * H) w hlf ⟨Ro.row hw (Split.nil _) (by refine z_hs)⟩ hcb hlf hM.inf (by decide) (by decide) (by omega)) ?_
    rintro v S' ⟨K1, hys1, hrm1, rfl, rfl⟩
    have hF1 : CaF K1.ys f K1.room := by rw [hys1, hrm1]; exact caF_of hcb hlf hM.inf (by omega)
    have k1 : CaOk K1.ys f K1.room (newV 9) 0 := by rw [hrm1]; exact newV_ok (by omega)
    refine z_govG
    refine lf rfl rfl rfl (S := []) (fun w hw ho => open10n W H 31 (some ⟨gg, 0, none⟩) cg g 0 0 9 (W * H) w hlg ⟨Ro.row hw (Split.nil _) (by refine z_hs)⟩ hcb hlg hM.ing (by decide) (by decide) (by omega)) ?_
    rintro v S' ⟨K2, hys2, hrm2, rfl, rfl⟩
    have hF2 : CaF K2.ys g K2.room := by rw [hys2, hrm2]; exact caF_of hcb hlg hM.ing (by omega)
    have k2 : CaOk K2.ys g K2.room (newV 9) 0 := by rw [hrm2]; exact newV_ok (by omega)
    rw [← hys1] at h2 h3
    rw [← hys2] at g2 g3
    refine z_govG
    refine z_tas
    refine lf rfl rfl rfl (S := K1.H (newV 9)) (fun w hw ho => rough_t K1 (newV 9) f x y far 0 w ho hF1 k1 (by omega)) ?_
    rintro v S' ⟨s1, rfl, -, rfl⟩
    rw [h2, h3, eR]
    refine z_tas
    refine lfv rfl rfl rfl (fun w hw => (rrough_n W H (some ⟨gf, 0, none⟩) cf (W * H) f x y far w hlf ⟨Ro.row hw (Split.nil _) (by refine z_hs)⟩ (by omega) hlf hM.inf)) ?_
    refine z_tas
    refine lf rfl rfl rfl (S := K2.H (newV 9)) (fun w hw ho => rough_t K2 (newV 9) g x y far 0 w ho hF2 k2 (by omega)) ?_
    rintro v S' ⟨s2, rfl, -, rfl⟩
    rw [g2, g3, eS, eR]
    generalize roughQ W H f x y far = q at *
    refine z_tas
    exact j_out1 rfl rfl (.nil _) rfl
end Go.Proofs.Ytpmomimaihjmjaa
namespace Go.Proofs.Ytpmomimaihjmjaa
open Go.ChangeShapes Go.WideShapes Go.ChangeAt Go.RowKit Go.Deep Go.Joins
set_option maxRecDepth 100000 in
theorem lifted (os : Os) (started : os.Started) (H : Type) (enc : TypeId × Value → H) :
    ReturnsInHanded {} Try.checked os 11 .any (Rows.terrainRoughSpec.pre6 enc Try.prog Try.f11 Rows.terrainRoughRow.domain false) (Rows.terrainRoughSpec.post enc Try.prog Try.f11 false true false false) := by
  refine returnsInHanded_of_change (C := Try.checked) own started (by kernel_rfl) Try.func11
    (ChangeSpec.witness6 (enc := enc) (C := Try.checked) false ⟨#[], #[.int .u8 0, .int .u8 0, .slice none 0 0, .int .i64 0, .int .i64 0, .int .i64 0, .int .i8 0], []⟩ 8 (by kernel_rfl) (by kernel_rfl) (by kernel_rfl) (by kernel_rfl)) ?_
  intro W base args ds gs before hval0 hW hcnd _
  have hval : ∀ (j : Nat) t v, Try.f11.params[j]? = some t → args[j]? = some v → Value.okWide Try.prog W .any base t v := hval0
  have hW' := hW
  obtain ⟨p, q, hA0, hV, rfl, hfz, hnd⟩ := hW
  have hA : DataW.TrodAll enc Try.prog W 0 (fun _ => true) true Try.f11.params.toList args.toList ds p := hA0
  rw [Try.params11] at hA hval
  obtain ⟨v0, v1, v2, v3, v4, v5, v6, d0, d1, d2, d3, d4, d5, d6, p0, p1, p2, p3, p4, p5, p6, rfl, rfl, rfl, h0, h1, h2, h3, h4, h5, h6⟩ := trodAll_seven hA
  clear hA0 hval0
  obtain ⟨a, rfl, r0⟩ := gate_int Try.underlying5 (hval 0 _ _ rfl rfl) h0
  obtain ⟨b, rfl, r1⟩ := gate_int Try.underlying5 (hval 1 _ _ rfl rfl) h1
  obtain ⟨A2, c2, z, rfl, q2, r2⟩ := gate_ints Try.underlying22 Try.underlying34 (by kernel_rfl) (hval 2 _ _ rfl rfl) h2
  obtain ⟨x, rfl, r3⟩ := gate_int Try.underlying3 (hval 3 _ _ rfl rfl) h3
  obtain ⟨y, rfl, r4⟩ := gate_int Try.underlying3 (hval 4 _ _ rfl rfl) h4
  obtain ⟨far, rfl, r5⟩ := gate_int Try.underlying3 (hval 5 _ _ rfl rfl) h5
  obtain ⟨up, rfl, r6⟩ := gate_int Try.underlying104 (hval 6 _ _ rfl rfl) h6
  refine (below_of (rough_law a r0 b r1 A2 c2 z q2 r2 x r3 y r4 far r5 up r6 (w := W))).mono fun e W' ⟨he, hb⟩ => ?_
  subst he
  exact ⟨_, rfl, gate_post (tb := 4) laidOut Try.underlying4 hW' rfl rfl (fun es h => by
    have h' : es.length = 7 := h
    match es, h' with
    | [_, _, _, _, _, _, _], _ => rfl) (of_decide_eq_true (by kernel_rfl)) hb⟩
theorem holds : Rows.TerrainRoughSaid :=
  OpenClaim.holds_of_wide 11 Try.f11 rfl rfl rfl rfl rfl rfl rfl ⟨rfl, rfl, rfl, rfl, rfl⟩ rfl rfl rfl rfl rfl (by kernel_rfl) Try.func11 (by kernel_rfl)
    (of_decide_eq_true (by kernel_rfl)) (by unfold Func.isWrapper; first | (rw [if_pos (by decide +kernel)]; kernel_rfl) | (rw [if_neg (by decide +kernel)]; exact ⟨rfl, rfl⟩))
    (fun os started H enc _ => lifted os started H enc)

#print axioms holds
end Go.Proofs.Ytpmomimaihjmjaa
