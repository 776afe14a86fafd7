/- HOW STEEP THE GROUND IS: for every map and every list of places the law TerrainSlopes of the given program returns true, and leaves its arguments as they were. No condition. -/
import Derived.Carry
import Derived.Test.YtpmomimaihjmjaaMB11
set_option linter.unusedVariables false
set_option linter.unusedSimpArgs false
/- Layer 11's statements: the walk of TerrainSlopes. -/
namespace Go.Proofs.Ytpmomimaihjmjaa
open Go.RowKit
attribute [local irreducible] OJ J HdJ Code.wpIn wpListIn Oper.wpIn bodyPost CallsIn Does
set_option maxRecDepth 4000
set_option maxHeartbeats 64000000 in
theorem slopes_law (a : Int) (ha : InR .u8 a) (b : Int) (hb : InR .u8 b) (A : Option Addr) (c : Nat) (z : List Int) {w : World} (hr : RoA w (blocks []) A z.length c 1 (ints .i16 z)) (hz : ∀ x ∈ z, InR .i16 x) (Al : Option Addr) (cl : Nat) (l : List (Int × Int)) (hrl : RoA w (blocks []) Al l.length cl 2 (flat spotE l)) (hl : ∀ p ∈ l, InR .i64 p.1 ∧ InR .i64 p.2) :
    Does Try.prog 10 [.int .u8 a, .int .u8 b, .slice A z.length c, .slice Al l.length cl] [] w (fun v _ => v = .bool true) := by
  have ha1 : 0 ≤ a ∧ a ≤ 255 := ha
  have hb1 : 0 ≤ b ∧ b ≤ 255 := hb
  obtain ⟨W, hW, hW1⟩ : ∃ x : Nat, 2 + a % 39 = (x : Int) ∧ 2 ≤ x ∧ x ≤ 40 := ⟨(2 + a % 39).toNat, by omega, by omega⟩
  obtain ⟨H, hH, hH1⟩ : ∃ x : Nat, 2 + b % 39 = (x : Int) ∧ 2 ≤ x ∧ x ≤ 40 := ⟨(2 + b % 39).toNat, by omega, by omega⟩
  have iW : CV Try.prog 40 [] (.bool true) True := ⟨fun _ w => works_any11 w⟩
  refine does_of Try.func10 rfl Try.ntmps10 rfl ⟨by simp, .nil⟩ (fun n => ?_)
  simp only [slots]
  refine z_tas
  · exact j_out1 rfl rfl (.nil _) rfl
  · exact j_out1 rfl rfl (.nil _) rfl
  refine lf rfl rfl rfl (S := []) (fun w hw ho => made_any a b ha hb W H hW hH A c z 30 (by decide) 0 0 w ⟨hr.h.go hw (Split.nil _)⟩ (by omega)) ?_
  rintro v S' ⟨Af, cf, rfl, rfl⟩
  have hfl := fieldF_len z (W * H)
  have hfi := field_in16 hz (W * H)
  generalize fieldF z (W * H) = f at *
  rw [show (1 + 30 % 1000 : Int) = ((31 : Nat) : Int) by decide]
  have hcb : 2 ≤ W ∧ W ≤ 256 ∧ 2 ≤ H ∧ H ≤ 256 ∧ 1 ≤ 31 ∧ 31 ≤ 1000 := by omega
  obtain ⟨-, h2, h3, -, -, -⟩ := chart_hdr (ox := 0) (oy := 0) (z := f) (W := W) (H := H) (cell := 31) (by omega)
  refine z_tas
  rename_i b9
  refine lf rfl rfl rfl (S := []) (fun w hw ho => open10 W H 31 Af cf f 0 0 5 w ⟨Ro.row hw (Split.nil _) (by refine z_hs)⟩ hcb hfl hfi (by decide) (by decide) (by omega)) ?_
  rintro v S' ⟨K, hys, hrm, rfl, rfl⟩
  have hF : CaF K.ys f K.room := by rw [hys, hrm]; exact caF_of hcb hfl hfi (by omega)
  rw [← hys] at h2 h3
  refine z_tas
  refine c_loop (X := Nat × CaV) (fun q => q.1 ≤ l.length ∧ CaOk K.ys f K.room q.2 (4 * (q.1 : Int))) (fun q => [(3, .slice Al l.length cl), (9, .pointer (some ⟨b9, 0, none⟩)), (10, .pointer (some ⟨K.g, 0, none⟩)), (11, .int .i64 q.1)])
    (fun q => K.HC q.2 [.blk b9 28 [.int .i64 W, .int .i64 H, .slice Af f.length cf, .int .i64 (31 : Nat), .int .i32 0, .int .i32 0], .row (.slice Af f.length cf) 34 1 f.length (ints .i16 f)]) (fun q => l.length - q.1) (0, newV 5) ⟨by omega, by rw [hrm]; exact newV_ok (by omega)⟩ ⟨rfl, rfl, rfl, rfl, trivial⟩ Sub.au ?_
  rintro ⟨i, s⟩ ⟨hi, hs⟩
  dsimp only at hi hs ⊢
  rcases Nat.lt_or_ge i l.length with h | h
  · obtain ⟨bL, oL, rfl, hL⟩ := hrl.at_ (by omega : 0 < l.length)
    refine z_tas
    refine lf rfl rfl rfl (S := K.H s) (fun w hw ho => slope_t K s f (l.getD i default).1 (l.getD i default).2 (4 * (i : Int)) w ho hF hs (by omega)) ?_
    rintro v S' ⟨s', rfl, k1, rfl⟩
    rw [show 4 * (i : Int) + 4 = 4 * ((i + 1 : Nat) : Int) by omega] at k1
    rw [h2, h3]
    refine z_tas
    refine c_dv (0 :: 1 :: 2 :: 3 :: 4 :: 5 :: 6 :: 7 :: 8 :: 9 :: 10 :: 11 :: 12 :: 13 :: 14 :: 15 :: 16 :: 17 :: 18 :: 19 :: []) ?_; intro _
    refine z_govG
    refine lfv rfl rfl rfl (fun w hw => rslope_any W H Af cf f (l.getD i default).1 (l.getD i default).2 w ⟨Ro.row hw (Split.nil _) (by refine z_hs)⟩ (by omega) hfl hfi) ?_
    generalize (slopeT W H f (l.getD i default).1 (l.getD i default).2).1 = hh at *
    generalize (slopeT W H f (l.getD i default).1 (l.getD i default).2).2 = gg at *
    generalize codeF W H f (l.getD i default).1 (l.getD i default).2 = cc' at *
    refine z_govG
    exact c_round (i + 1, s') ⟨h, k1⟩ (by show l.length - (i + 1) < l.length - i; omega) ⟨rfl, rfl, rfl, by simp [look], trivial⟩ Sub.au
  · obtain rfl : i = l.length := by omega
    refine z_tas
    exact j_out1 rfl rfl (.nil _) rfl
end Go.Proofs.Ytpmomimaihjmjaa
namespace Go.Proofs.Ytpmomimaihjmjaa
open Go.ChangeShapes Go.WideShapes Go.ChangeAt Go.RowKit Go.Deep Go.Joins
set_option maxRecDepth 100000 in
theorem lifted (os : Os) (started : os.Started) (H : Type) (enc : TypeId × Value → H) :
    ReturnsInHanded {} Try.checked os 10 .any (Rows.terrainSlopesSpec.pre6 enc Try.prog Try.f10 Rows.terrainSlopesRow.domain false) (Rows.terrainSlopesSpec.post enc Try.prog Try.f10 false true false false) := by
  refine returnsInHanded_of_change (C := Try.checked) own started (by kernel_rfl) Try.func10
    (ChangeSpec.witness6 (enc := enc) (C := Try.checked) false ⟨#[], #[.int .u8 0, .int .u8 0, .slice none 0 0, .slice none 0 0], []⟩ 8 (by kernel_rfl) (by kernel_rfl) (by kernel_rfl) (by kernel_rfl)) ?_
  intro W base args ds gs before hval0 hW hcnd _
  have hval : ∀ (j : Nat) t v, Try.f10.params[j]? = some t → args[j]? = some v → Value.okWide Try.prog W .any base t v := hval0
  have hW' := hW
  obtain ⟨p, q, hA0, hV, rfl, hfz, hnd⟩ := hW
  have hA : DataW.TrodAll enc Try.prog W 0 (fun _ => true) true Try.f10.params.toList args.toList ds p := hA0
  rw [Try.params10] at hA hval
  obtain ⟨v0, v1, v2, v3, d0, d1, d2, d3, p0, p1, p2, p3, rfl, rfl, rfl, h0, h1, h2, h3⟩ := trodAll_four hA
  clear hA0 hval0
  obtain ⟨a, rfl, r0⟩ := gate_int Try.underlying5 (hval 0 _ _ rfl rfl) h0
  obtain ⟨b, rfl, r1⟩ := gate_int Try.underlying5 (hval 1 _ _ rfl rfl) h1
  obtain ⟨A2, c2, z, rfl, q2, r2⟩ := gate_ints Try.underlying22 Try.underlying34 (by kernel_rfl) (hval 2 _ _ rfl rfl) h2
  obtain ⟨A3, c3, l, rfl, q3, r3⟩ := gate_rows (en := spotE) Try.underlying91 cells_spot rfl un_spot (hval 3 _ _ rfl rfl) h3
  refine (below_of (slopes_law a r0 b r1 A2 c2 z q2 r2 A3 c3 l q3 r3 (w := W))).mono fun e W' ⟨he, hb⟩ => ?_
  subst he
  exact ⟨_, rfl, gate_post (tb := 4) laidOut Try.underlying4 hW' rfl rfl (fun es h => by
    have h' : es.length = 4 := h
    match es, h' with
    | [_, _, _, _], _ => rfl) (of_decide_eq_true (by kernel_rfl)) hb⟩
theorem holds : Rows.TerrainSlopesSaid :=
  OpenClaim.holds_of_wide 10 Try.f10 rfl rfl rfl rfl rfl rfl rfl ⟨rfl, rfl, rfl, rfl, rfl⟩ rfl rfl rfl rfl rfl (by kernel_rfl) Try.func10 (by kernel_rfl)
    (of_decide_eq_true (by kernel_rfl)) (by unfold Func.isWrapper; first | (rw [if_pos (by decide +kernel)]; kernel_rfl) | (rw [if_neg (by decide +kernel)]; exact ⟨rfl, rfl⟩))
    (fun os started H enc _ => lifted os started H enc)

#print axioms holds
end Go.Proofs.Ytpmomimaihjmjaa
