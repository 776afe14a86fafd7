/- WHAT EACH STEP COSTS: for every map, every search and every profile the law DriftCosts of the given program returns true, and leaves its arguments as they were. No condition. No condition. -/
import Derived.Carry
import Derived.Test.YtemmnpgebpffbaaMD15
set_option linter.unusedVariables false
set_option linter.unusedSimpArgs false
/- Layer 40's statements: what each step costs. -/
namespace Go.Proofs.Ytemmnpgebpffbaa
open Go.RowKit
attribute [local irreducible] OJ J HdJ Code.wpIn wpListIn Oper.wpIn bodyPost CallsIn Does
set_option maxRecDepth 4000
set_option maxHeartbeats 128000000 in
theorem dcosts_law (a : Int) (ha : InR .u8 a) (b : Int) (hb : InR .u8 b) (A : Option Addr) (c : Nat) (z : List Int) {w : World} (hr : RoA w (blocks []) A z.length c 1 (ints .i16 z)) (hz : ∀ x ∈ z, InR .i16 x) (s : Sch) (_ : InR .i64 s.x) (_ : InR .i64 s.y) (_ : InR .i64 s.far) (_ : InR .i64 s.step) (Al : Option Addr) (cl : Nat) (l : List Smp) (hrl : RoA w (blocks []) Al l.length cl 3 (flat smpE l)) (_ : ∀ p ∈ l, p.ok) (turn : Int) (hturn : InR .i64 turn) (n : Int) (hn : InR .i64 n) :
    Does Try.prog 7 [.int .u8 a, .int .u8 b, .slice A z.length c, .agg (schE s).toArray, .slice Al l.length cl, .int .i64 turn, .int .i64 n] [] w (fun v _ => v = .bool true) := by
  have ha1 : 0 ≤ a ∧ a ≤ 255 := ha
  have hb1 : 0 ≤ b ∧ b ≤ 255 := hb
  obtain ⟨W, hW, hW1⟩ : ∃ x : Nat, 2 + a % 39 = (x : Int) ∧ 2 ≤ x ∧ x ≤ 40 := ⟨(2 + a % 39).toNat, by omega, by omega⟩
  obtain ⟨H, hH, hH1⟩ : ∃ x : Nat, 2 + b % 39 = (x : Int) ∧ 2 ≤ x ∧ x ≤ 40 := ⟨(2 + b % 39).toNat, by omega, by omega⟩
  have iW : CV Try.prog 24 [] (.bool true) True := ⟨fun _ w => works40 w⟩
  refine does_of Try.func7 rfl Try.ntmps7 rfl ⟨by simp, .nil⟩ (fun _ => ?_)
  simp only [slots]
  refine z_tas
  · exact j_out1 rfl rfl (.nil _) rfl
  · exact j_out1 rfl rfl (.nil _) rfl
  refine lf rfl rfl rfl (S := []) (fun w hw ho => made_any a b ha hb W H hW hH A c z 30 (by decide) 0 0 w ⟨hr.h.go hw (Split.nil _)⟩ (by omega)) ?_
  rintro v S' ⟨Af, cf, rfl, rfl⟩
  have hfl := fieldF_len z (W * H)
  have hfi := field_in16 hz (W * H)
  generalize fieldF z (W * H) = f at *
  rw [show (1 + 30 % 1000 : Int) = ((31 : Nat) : Int) by decide]
  have hcb : 2 ≤ W ∧ W ≤ 256 ∧ 2 ≤ H ∧ H ≤ 256 ∧ 1 ≤ 31 ∧ 31 ≤ 1000 := by omega
  have hF := caF_of (ox := 0) (oy := 0) hcb hfl hfi (by omega : 1 ≤ 4 ∧ 4 ≤ 32)
  obtain ⟨-, h2, h3, -, -, -⟩ := chart_hdr (ox := 0) (oy := 0) (z := f) (W := W) (H := H) (cell := 31) (by omega)
  refine z_tas
  rename_i b10 _ _ b15
  refine lf rfl rfl rfl (S := []) (fun w hw ho => open10 W H 31 Af cf f 0 0 4 w ⟨Ro.row hw (Split.nil _) (by refine z_hs)⟩ hcb hfl hfi (by decide) (by decide) (by omega)) ?_
  rintro v S' ⟨K, hys, hrm, rfl, rfl⟩
  rw [← hys, ← hrm] at hF
  rw [← hys] at h2 h3
  have k0 : CaOk K.ys f K.room (newV 4) 0 := by rw [hrm]; exact newV_ok (by omega)
  refine z_tas
  refine lfv rfl rfl rfl (fun w hw => dcheck_any s Al cl l turn w ⟨hrl.h.go hw (Split.nil _)⟩ (by omega)) ?_
  refine z_tas
  refine lfv rfl rfl rfl (fun w hw => rcheck40_any s Al cl l turn w ⟨hrl.h.go hw (Split.nil _)⟩ (by omega)) ?_
  have hc0 : chk40 s l 0 ≠ 0 ↔ (chk21 s l ≠ 0 ∨ 8 < s.far) := by
    unfold chk40
    split
    · rename_i h; exact ⟨fun _ => .inl h, fun _ => h⟩
    · rename_i h
      split
      · rename_i h8; exact ⟨fun _ => .inr h8, fun _ => by decide⟩
      · rename_i h8
        rw [if_neg (by omega)]
        exact ⟨fun h => absurd rfl h, fun h0 => absurd h0 (by rintro (h1 | h1); exact h h1; exact h8 h1)⟩
  generalize chk40 s l turn = ck at *
  refine z_tas
  by_cases hbad : chk21 s l ≠ 0 ∨ 8 < s.far ∨ n < 0 ∨ l.length ≤ n
  · refine lf rfl rfl rfl (S := K.H (newV 4)) (fun w hw ho => dcosts_bad K (newV 4) s Al cl l n w ho ⟨hrl.h.go hw Split.au⟩ (by omega) hbad) ?_
    rintro v S' ⟨rfl, rfl⟩
    refine z_tas
    refine lfv rfl rfl rfl (fun w hw => rcheck40_any s Al cl l 0 w ⟨hrl.h.go hw (Split.nil _)⟩ (by omega)) ?_
    generalize chk40 s l 0 = c0 at *
    generalize chk21 s l = c21 at *
    refine z_tas
    all_goals first
      | exact j_out1 rfl rfl (.nil _) rfl
      | (exfalso; omega)
  · have hcz : chk21 s l = 0 := Classical.not_not.1 fun h => hbad (.inl h)
    obtain ⟨m, rfl⟩ : ∃ m : Nat, n = (m : Int) := ⟨n.toNat, by omega⟩
    have hf8 : s.far ≤ 8 := by omega
    have hml : m < l.length := by omega
    have hc0' : chk40 s l 0 = 0 := Classical.not_not.1 fun h => by rcases hc0.1 h with h | h; exact h hcz; omega
    obtain ⟨⟨⟨a1, a2⟩, ⟨a3, a4⟩, ⟨a5, a6⟩, a7, a8⟩, ⟨l1, l2⟩, hl⟩ := chk21_ok hcz
    refine lf rfl rfl rfl (S := K.H (newV 4)) (fun w hw ho => dcosts_t K (newV 4) f s Al cl l m 0 w ho hF k0 (by omega) ⟨hrl.h.go hw Split.au⟩ hcz hf8 hml) ?_
    rintro v S' ⟨s1, Ad, cd, k1, rfl, rfl⟩
    rw [h2, h3, tab_len]
    refine z_tas
    refine lfv rfl rfl rfl (fun w hw => rcheck40_any s Al cl l 0 w ⟨hrl.h.go hw (Split.nil _)⟩ (by omega)) ?_
    rw [hc0']
    have hsd1 : 2 * s.far + 1 = (sideN s.far : Int) := by unfold sideN; omega
    have hsd2 : (2 * s.far + 1) * (2 * s.far + 1) = ((sideN s.far * sideN s.far : Nat) : Int) := by rw [hsd1]; push_cast; rfl
    have hss : sideN s.far * sideN s.far ≤ 289 := Nat.mul_le_mul (show sideN s.far ≤ 17 by unfold sideN; omega) (show sideN s.far ≤ 17 by unfold sideN; omega)
    refine z_tas
    have hcst := cst_ok hfi s l hl (W := W) (H := H)
    have htl := tab_len (cstF W H f s l m) (sideN s.far * sideN s.far)
    refine c_loop (X := Nat) (fun i => i ≤ sideN s.far * sideN s.far) (fun i => [(4, .slice Al l.length cl), (6, .int .i64 m), (10, .pointer (some ⟨b10, 0, none⟩)), (15, .pointer (some ⟨b15, 0, none⟩)), (18, .slice Ad (sideN s.far * sideN s.far) cd), (19, .int .i64 (sideN s.far)), (20, .int .i64 i)])
      (fun i => [.row (.slice Ad (sideN s.far * sideN s.far) cd) 2 1 (sideN s.far * sideN s.far) (ints .i64 (tab (cstF W H f s l m) (sideN s.far * sideN s.far))), .blk b15 37 [.int .i64 W, .int .i64 H, .slice Af f.length cf, .int .i64 31, .int .i32 0, .int .i32 0], .row (.slice Af f.length cf) 53 1 f.length (ints .i16 f), .blk b10 33 (schE s)])
      (fun i => sideN s.far * sideN s.far - i) 0 (by omega) ⟨rfl, rfl, rfl, rfl, rfl, by rw [← hsd1]; rfl, rfl, trivial⟩ Sub.au ?_
    intro i hi
    rcases Nat.lt_or_ge i (sideN s.far * sideN s.far) with h | h
    · have iE := tab_elem (cstF W H f s l m) h
      have ec : cstF W H f s l m i = offF W H f s (l.getD m default) (pS s.far i).1 (pS s.far i).2 := rfl
      have hci := hcst m i
      have hp := pS_in a1 h
      have hpe : pS s.far i = (((i % sideN s.far : Nat) : Int) - s.far, ((i / sideN s.far : Nat) : Int) - s.far) := rfl
      have hsx := hl m hml
      have hsp : 0 < sideN s.far := by unfold sideN; omega
      have hsq : sideN s.far ≤ 17 := by unfold sideN; omega
      have hmod : i % sideN s.far < sideN s.far := Nat.mod_lt _ hsp
      have hdiv : i / sideN s.far < sideN s.far := Nat.div_lt_of_lt_mul h
      have hdI : 0 ≤ (i : Int) / (sideN s.far : Int) ∧ (i : Int) / (sideN s.far : Int) < 17 := by
        have : (i : Int) / (sideN s.far : Int) = ((i / sideN s.far : Nat) : Int) := by push_cast; rfl
        rw [this]
        exact ⟨Int.natCast_nonneg _, by omega⟩
      have hmI : 0 ≤ (i : Int) % (sideN s.far : Int) ∧ (i : Int) % (sideN s.far : Int) < 17 := by
        have : (i : Int) % (sideN s.far : Int) = ((i % sideN s.far : Nat) : Int) := by push_cast; rfl
        rw [this]
        exact ⟨Int.natCast_nonneg _, by omega⟩
      generalize cstF W H f s l m i = cv at *
      refine j_opn (A := Ad) (m := sideN s.far * sideN s.far) (cc := cd) (by omega) (fun gd hgd => ?_)
      subst hgd
      generalize sideN s.far * sideN s.far = N at *
      refine z_tas
      refine c_dvL [.row (.slice (some ⟨gd, 0, none⟩) N cd) 2 1 N (ints .i64 (tab (cstF W H f s l m) N)), .blk b15 37 [.int .i64 W, .int .i64 H, .slice Af f.length cf, .int .i64 31, .int .i32 0, .int .i32 0], .row (.slice Af f.length cf) 53 1 f.length (ints .i16 f), .blk b10 33 (schE s)] (0 :: 1 :: 2 :: 3 :: 4 :: 5 :: 6 :: 7 :: 8 :: 9 :: 10 :: 11 :: 12 :: 13 :: 14 :: 15 :: 16 :: 17 :: 18 :: 19 :: 20 :: 21 :: 22 :: 23 :: 24 :: []) Sub.au ?_
      intro _
      refine z_govG
      all_goals
        refine lfv rfl rfl rfl (fun w hw => roff_any W H Af cf f s (l.getD m default) (i % sideN s.far - s.far) (i / sideN s.far - s.far) w ⟨Ro.row hw (Split.nil _) (by refine z_hs)⟩ (by omega) hfl hfi ⟨⟨a1, a2⟩, ⟨a3, a4⟩, ⟨a5, a6⟩, a7, a8⟩ hsx (by omega) (by omega)) ?_
        rw [show offF W H f s (l.getD m default) ((i : Int) % (sideN s.far : Int) - s.far) ((i : Int) / (sideN s.far : Int) - s.far) = cv from ec.symm]
        refine z_govG
      all_goals exact c_round (i + 1) h (by show N - (i + 1) < N - i; omega) ⟨rfl, rfl, rfl, rfl, rfl, rfl, by simp [look], trivial⟩ Sub.au
    · obtain rfl : i = sideN s.far * sideN s.far := by omega
      refine z_tas
      exact j_out1 rfl rfl (.nil _) rfl
end Go.Proofs.Ytemmnpgebpffbaa
namespace Go.Proofs.Ytemmnpgebpffbaa
open Go.ChangeShapes Go.WideShapes Go.ChangeAt Go.RowKit Go.Deep Go.Joins
set_option maxRecDepth 100000 in
theorem lifted (os : Os) (started : os.Started) (H : Type) (enc : TypeId × Value → H) :
    ReturnsInHanded {} Try.checked os 7 .any (Rows.driftCostsSpec.pre6 enc Try.prog Try.f7 Rows.driftCostsRow.domain false) (Rows.driftCostsSpec.post enc Try.prog Try.f7 false true false false) := by
  refine returnsInHanded_of_change (C := Try.checked) own started (by kernel_rfl) Try.func7
    (ChangeSpec.witness6 (enc := enc) (C := Try.checked) false ⟨#[], #[.int .u8 0, .int .u8 0, .slice none 0 0, .agg #[.int .i64 0, .int .i64 0, .int .i64 0, .int .i64 0], .slice none 0 0, .int .i64 0, .int .i64 0], []⟩ 8 (by kernel_rfl) (by kernel_rfl) (by kernel_rfl) (by kernel_rfl)) ?_
  intro W base args ds gs before hval0 hW hcnd _
  have hval : ∀ (j : Nat) t v, Try.f7.params[j]? = some t → args[j]? = some v → Value.okWide Try.prog W .any base t v := hval0
  have hW' := hW
  obtain ⟨p, q, hA0, hV, rfl, hfz, hnd⟩ := hW
  have hA : DataW.TrodAll enc Try.prog W 0 (fun _ => true) true Try.f7.params.toList args.toList ds p := hA0
  rw [Try.params7] at hA hval
  obtain ⟨v0, v1, v2, v3, v4, v5, v6, d0, d1, d2, d3, d4, d5, d6, p0, p1, p2, p3, p4, p5, p6, rfl, rfl, rfl, h0, h1, h2, h3, h4, h5, h6⟩ := trodAll_seven hA
  clear hA0 hval0
  obtain ⟨w, rfl, r0⟩ := gate_int Try.underlying5 (hval 0 _ _ rfl rfl) h0
  obtain ⟨h, rfl, r1⟩ := gate_int Try.underlying5 (hval 1 _ _ rfl rfl) h1
  obtain ⟨A2, c2, z, rfl, q2, r2⟩ := gate_ints Try.underlying28 Try.underlying53 (by kernel_rfl) (hval 2 _ _ rfl rfl) h2
  obtain ⟨_, rfl, sx, _, rfl, rx3, sy, _, rfl, ry3, sf, _, rfl, rf3, ss, _, rfl, rs3, rfl⟩ := gate_row Try.underlying33 cells_sch (hval 3 _ _ rfl rfl) h3
  obtain ⟨A4, c4, l, rfl, q4, r4⟩ := gate_rows (en := smpE) Try.underlying31 cells_smp rfl un_smp (hval 4 _ _ rfl rfl) h4
  obtain ⟨turn, rfl, r5⟩ := gate_int Try.underlying2 (hval 5 _ _ rfl rfl) h5
  obtain ⟨n, rfl, r6⟩ := gate_int Try.underlying3 (hval 6 _ _ rfl rfl) h6
  refine (below_of (dcosts_law w r0 h r1 A2 c2 z q2 r2 ⟨sx, sy, sf, ss⟩ rx3 ry3 rf3 rs3 A4 c4 l q4 r4 turn r5 n r6 (w := W))).mono fun e W' ⟨he, hb⟩ => ?_
  subst he
  exact ⟨_, rfl, gate_post (tb := 4) laidOut Try.underlying4 hW' rfl rfl (fun es h => by
    have h' : es.length = 7 := h
    match es, h' with
    | [_, _, _, _, _, _, _], _ => rfl) (of_decide_eq_true (by kernel_rfl)) hb⟩
theorem holds : Rows.DriftCostsSaid :=
  OpenClaim.holds_of_wide 7 Try.f7 rfl rfl rfl rfl rfl rfl rfl ⟨rfl, rfl, rfl, rfl, rfl⟩ rfl rfl rfl rfl rfl (by kernel_rfl) Try.func7 (by kernel_rfl)
    (of_decide_eq_true (by kernel_rfl)) (by unfold Func.isWrapper; first | (rw [if_pos (by decide +kernel)]; kernel_rfl) | (rw [if_neg (by decide +kernel)]; exact ⟨rfl, rfl⟩))
    (fun os started H enc _ => lifted os started H enc)

#print axioms holds
end Go.Proofs.Ytemmnpgebpffbaa
