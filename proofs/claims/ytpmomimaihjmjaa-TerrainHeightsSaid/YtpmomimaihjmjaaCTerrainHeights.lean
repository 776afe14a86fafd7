/- THE GROUND AT ANY PLACE: for every map, every cache and every list of places the law TerrainHeights of the given program returns true, and leaves its arguments as they were. No condition. -/
import Derived.Carry
import Derived.Test.YtpmomimaihjmjaaMB11
set_option linter.unusedVariables false
set_option linter.unusedSimpArgs false
/- Layer 11's statements: the walk of TerrainHeights. -/
namespace Go.Proofs.Ytpmomimaihjmjaa
open Go.RowKit
attribute [local irreducible] OJ J HdJ Code.wpIn wpListIn Oper.wpIn bodyPost CallsIn Does
set_option maxRecDepth 4000
set_option maxHeartbeats 64000000 in
theorem heights_law (a : Int) (ha : InR .u8 a) (b : Int) (hb : InR .u8 b) (A : Option Addr) (c : Nat) (z : List Int) {w : World} (hr : RoA w (blocks []) A z.length c 1 (ints .i16 z)) (hz : ∀ x ∈ z, InR .i16 x) (nn : Int) (hn : InR .u8 nn) (Al : Option Addr) (cl : Nat) (l : List (Int × Int)) (hrl : RoA w (blocks []) Al l.length cl 2 (flat spotE l)) (hl : ∀ p ∈ l, InR .i64 p.1 ∧ InR .i64 p.2) :
    Does Try.prog 8 [.int .u8 a, .int .u8 b, .slice A z.length c, .int .u8 nn, .slice Al l.length cl] [] w (fun v _ => v = .bool true) := by
  have ha1 : 0 ≤ a ∧ a ≤ 255 := ha
  have hb1 : 0 ≤ b ∧ b ≤ 255 := hb
  have hn1 : 0 ≤ nn ∧ nn ≤ 255 := hn
  obtain ⟨W, hW, hW1⟩ : ∃ x : Nat, 2 + a % 39 = (x : Int) ∧ 2 ≤ x ∧ x ≤ 40 := ⟨(2 + a % 39).toNat, by omega, by omega⟩
  obtain ⟨H, hH, hH1⟩ : ∃ x : Nat, 2 + b % 39 = (x : Int) ∧ 2 ≤ x ∧ x ≤ 40 := ⟨(2 + b % 39).toNat, by omega, by omega⟩
  obtain ⟨R, hR, hR1⟩ : ∃ x : Nat, 4 + nn % 29 = (x : Int) ∧ 4 ≤ x ∧ x ≤ 32 := ⟨(4 + nn % 29).toNat, by omega, by omega⟩
  have iW : CV Try.prog 40 [] (.bool true) True := ⟨fun _ w => works_any11 w⟩
  refine does_of Try.func8 rfl Try.ntmps8 rfl ⟨by simp, .nil⟩ (fun n => ?_)
  simp only [slots]
  refine z_tas
  · exact j_out1 rfl rfl (.nil _) rfl
  · exact j_out1 rfl rfl (.nil _) rfl
  refine lf rfl rfl rfl (S := []) (fun w hw ho => made_any a b ha hb W H hW hH A c z 30 (by decide) 0 0 w ⟨hr.h.go hw (Split.nil _)⟩ (by omega)) ?_
  rintro v S' ⟨Af, cf, rfl, rfl⟩
  have hfl := fieldF_len z (W * H)
  have hfi := field_in16 hz (W * H)
  generalize fieldF z (W * H) = f at *
  rw [show (1 + 30 % 1000 : Int) = ((31 : Nat) : Int) by decide]
  have hcb : 2 ≤ W ∧ W ≤ 256 ∧ 2 ≤ H ∧ H ≤ 256 ∧ 1 ≤ 31 ∧ 31 ≤ 1000 := by omega
  have hF := caF_of (ox := 0) (oy := 0) hcb hfl hfi (by omega : 1 ≤ R ∧ R ≤ 32)
  obtain ⟨-, h2, h3, -, -, -⟩ := chart_hdr (ox := 0) (oy := 0) (z := f) (W := W) (H := H) (cell := 31) (by omega)
  refine z_tas
  rename_i b11
  rw [hR]
  refine lf rfl rfl rfl (S := []) (fun w hw ho => open10 W H 31 Af cf f 0 0 R w ⟨Ro.row hw (Split.nil _) (by refine z_hs)⟩ hcb hfl hfi (by decide) (by decide) hR1) ?_
  rintro v S' ⟨K, hys, rfl, rfl, rfl⟩
  rw [← hys] at hF h2 h3
  refine z_tas
  refine c_loop (X := Nat × CaV) (fun q => q.1 ≤ l.length ∧ CaOk K.ys f K.room q.2 (4 * (q.1 : Int))) (fun q => [(4, .slice Al l.length cl), (11, .pointer (some ⟨b11, 0, none⟩)), (12, .pointer (some ⟨K.g, 0, none⟩)), (13, .int .i64 q.1)])
    (fun q => K.HC q.2 [.blk b11 28 [.int .i64 W, .int .i64 H, .slice Af f.length cf, .int .i64 (31 : Nat), .int .i32 0, .int .i32 0], .row (.slice Af f.length cf) 34 1 f.length (ints .i16 f)]) (fun q => l.length - q.1) (0, newV K.room) ⟨by omega, newV_ok (by omega)⟩ ⟨rfl, rfl, rfl, rfl, trivial⟩ Sub.au ?_
  rintro ⟨i, s⟩ ⟨hi, hs⟩
  dsimp only at hi hs ⊢
  rcases Nat.lt_or_ge i l.length with h | h
  · obtain ⟨bL, oL, rfl, hL⟩ := hrl.at_ (by omega : 0 < l.length)
    refine z_tas
    refine lf rfl rfl rfl (S := K.H s) (fun w hw ho => height_t K s f (l.getD i default).1 (l.getD i default).2 (4 * (i : Int)) w ho hF hs (by omega)) ?_
    rintro v S' ⟨s', rfl, k1, rfl⟩
    rw [show 4 * (i : Int) + 4 = 4 * ((i + 1 : Nat) : Int) by omega] at k1
    rw [h2, h3]
    refine z_tas
    refine c_dv (0 :: 1 :: 2 :: 3 :: 4 :: 5 :: 6 :: 7 :: 8 :: 9 :: 10 :: 11 :: 12 :: 13 :: 14 :: 15 :: 16 :: 17 :: []) ?_; intro _
    refine z_govG
    refine lfv rfl rfl rfl (fun w hw => rheight11_any W H Af cf f (l.getD i default).1 (l.getD i default).2 w ⟨Ro.row hw (Split.nil _) (by refine z_hs)⟩ (by omega) hfl hfi) ?_
    have iI : CV Try.prog 42 [.agg #[.int .i64 W, .int .i64 H, .slice Af f.length cf, .int .i64 (31 : Nat), .int .i32 0, .int .i32 0], .agg #[.int .i64 (l.getD i default).1, .int .i64 (l.getD i default).2]] (.bool (decide (InsP W H (l.getD i default).1 (l.getD i default).2))) True := ⟨fun _ w => inside_any W H Af f.length cf (31 : Nat) 0 0 (l.getD i default).1 (l.getD i default).2 w (by omega)⟩
    have iJ : CV Try.prog 43 [.agg #[.int .i64 W, .int .i64 H, .slice Af f.length cf], .int .i64 (l.getD i default).1, .int .i64 (l.getD i default).2] (.bool (decide (InsP W H (l.getD i default).1 (l.getD i default).2))) True := ⟨fun _ w => rinside_any W H Af f.length cf (l.getD i default).1 (l.getD i default).2 w (by omega)⟩
    generalize decide (InsP W H (l.getD i default).1 (l.getD i default).2) = ii at *
    generalize heightT W H f (l.getD i default).1 (l.getD i default).2 = hh at *
    generalize codeF W H f (l.getD i default).1 (l.getD i default).2 = cc' at *
    refine z_govG
    refine c_dv (0 :: 1 :: 2 :: 3 :: 4 :: 5 :: 6 :: 7 :: 8 :: 9 :: 10 :: 11 :: 12 :: 13 :: 14 :: 15 :: 16 :: 17 :: 18 :: 19 :: 20 :: 21 :: 22 :: 23 :: 24 :: 25 :: 26 :: 27 :: 28 :: 29 :: []) ?_; intro _
    refine z_govG
    all_goals first
      | exact c_round (i + 1, s') ⟨h, k1⟩ (by show l.length - (i + 1) < l.length - i; omega) ⟨rfl, rfl, rfl, by simp [look], trivial⟩ Sub.au
      | (rename_i hx; cases ii <;> exact absurd hx (by decide))
  · obtain rfl : i = l.length := by omega
    refine z_tas
    exact j_out1 rfl rfl (.nil _) rfl
end Go.Proofs.Ytpmomimaihjmjaa
namespace Go.Proofs.Ytpmomimaihjmjaa
open Go.ChangeShapes Go.WideShapes Go.ChangeAt Go.RowKit Go.Deep Go.Joins
set_option maxRecDepth 100000 in
theorem lifted (os : Os) (started : os.Started) (H : Type) (enc : TypeId × Value → H) :
    ReturnsInHanded {} Try.checked os 8 .any (Rows.terrainHeightsSpec.pre6 enc Try.prog Try.f8 Rows.terrainHeightsRow.domain false) (Rows.terrainHeightsSpec.post enc Try.prog Try.f8 false true false false) := by
  refine returnsInHanded_of_change (C := Try.checked) own started (by kernel_rfl) Try.func8
    (ChangeSpec.witness6 (enc := enc) (C := Try.checked) false ⟨#[], #[.int .u8 0, .int .u8 0, .slice none 0 0, .int .u8 0, .slice none 0 0], []⟩ 8 (by kernel_rfl) (by kernel_rfl) (by kernel_rfl) (by kernel_rfl)) ?_
  intro W base args ds gs before hval0 hW hcnd _
  have hval : ∀ (j : Nat) t v, Try.f8.params[j]? = some t → args[j]? = some v → Value.okWide Try.prog W .any base t v := hval0
  have hW' := hW
  obtain ⟨p, q, hA0, hV, rfl, hfz, hnd⟩ := hW
  have hA : DataW.TrodAll enc Try.prog W 0 (fun _ => true) true Try.f8.params.toList args.toList ds p := hA0
  rw [Try.params8] at hA hval
  obtain ⟨v0, v1, v2, v3, v4, d0, d1, d2, d3, d4, p0, p1, p2, p3, p4, rfl, rfl, rfl, h0, h1, h2, h3, h4⟩ := trodAll_five hA
  clear hA0 hval0
  obtain ⟨a, rfl, r0⟩ := gate_int Try.underlying5 (hval 0 _ _ rfl rfl) h0
  obtain ⟨b, rfl, r1⟩ := gate_int Try.underlying5 (hval 1 _ _ rfl rfl) h1
  obtain ⟨A2, c2, z, rfl, q2, r2⟩ := gate_ints Try.underlying22 Try.underlying34 (by kernel_rfl) (hval 2 _ _ rfl rfl) h2
  obtain ⟨n, rfl, r3⟩ := gate_int Try.underlying5 (hval 3 _ _ rfl rfl) h3
  obtain ⟨A4, c4, l, rfl, q4, r4⟩ := gate_rows (en := spotE) Try.underlying91 cells_spot rfl un_spot (hval 4 _ _ rfl rfl) h4
  refine (below_of (heights_law a r0 b r1 A2 c2 z q2 r2 n r3 A4 c4 l q4 r4 (w := W))).mono fun e W' ⟨he, hb⟩ => ?_
  subst he
  exact ⟨_, rfl, gate_post (tb := 4) laidOut Try.underlying4 hW' rfl rfl (fun es h => by
    have h' : es.length = 5 := h
    match es, h' with
    | [_, _, _, _, _], _ => rfl) (of_decide_eq_true (by kernel_rfl)) hb⟩
theorem holds : Rows.TerrainHeightsSaid :=
  OpenClaim.holds_of_wide 8 Try.f8 rfl rfl rfl rfl rfl rfl rfl ⟨rfl, rfl, rfl, rfl, rfl⟩ rfl rfl rfl rfl rfl (by kernel_rfl) Try.func8 (by kernel_rfl)
    (of_decide_eq_true (by kernel_rfl)) (by unfold Func.isWrapper; first | (rw [if_pos (by decide +kernel)]; kernel_rfl) | (rw [if_neg (by decide +kernel)]; exact ⟨rfl, rfl⟩))
    (fun os started H enc _ => lifted os started H enc)

#print axioms holds
end Go.Proofs.Ytpmomimaihjmjaa
