/- NO MORE THAN HALF A UNIT AWAY: for every map and every place the law TerrainNear of the given program returns true, and leaves its arguments as they were. No condition. -/
import Derived.Carry
import Derived.Test.YtpmomimaihjmjaaMB11
set_option linter.unusedVariables false
set_option linter.unusedSimpArgs false
/- Layer 11's statements: the walk of TerrainNear. -/
namespace Go.Proofs.Ytpmomimaihjmjaa
open Go.RowKit
def loN (W H : Nat) (f : List Int) (X Y : Int) : Nat → Int
  | 0 => 1048576
  | i + 1 => min (loN W H f X Y i) (corR W H f X Y (i % 2) (i / 2)).1
def hiN (W H : Nat) (f : List Int) (X Y : Int) : Nat → Int
  | 0 => -1048576
  | i + 1 => max (hiN W H f X Y i) (corR W H f X Y (i % 2) (i / 2)).1
theorem lin_lo {p q t m : Int} (ht : 0 ≤ t ∧ t ≤ 256) (hp : m ≤ p) (hq : m ≤ q) : 256 * m ≤ p * (256 - t) + q * t := by
  have h1 := Int.mul_le_mul_of_nonneg_right hp (show 0 ≤ 256 - t by omega)
  have h2 := Int.mul_le_mul_of_nonneg_right hq ht.1
  have h3 : m * (256 - t) + m * t = 256 * m := by rw [← Int.mul_add, show 256 - t + t = 256 by omega, Int.mul_comm]
  omega
theorem lin_hi {p q t m : Int} (ht : 0 ≤ t ∧ t ≤ 256) (hp : p ≤ m) (hq : q ≤ m) : p * (256 - t) + q * t ≤ 256 * m := by
  have h1 := Int.mul_le_mul_of_nonneg_right hp (show 0 ≤ 256 - t by omega)
  have h2 := Int.mul_le_mul_of_nonneg_right hq ht.1
  have h3 : m * (256 - t) + m * t = 256 * m := by rw [← Int.mul_add, show 256 - t + t = 256 by omega, Int.mul_comm]
  omega
theorem near_law {W H : Nat} {f : List Int} {X Y : Int} (hc : codeF W H f X Y = 0) :
    (-2048 ≤ heightT W H f X Y * 4096 - exT W H f X Y 4 ∧ heightT W H f X Y * 4096 - exT W H f X Y 4 ≤ 2048) ∧ 16 * loN W H f X Y 4 ≤ heightT W H f X Y ∧ heightT W H f X Y ≤ 16 * hiN W H f X Y 4 := by
  have hI : InsP W H X Y := by
    unfold codeF at hc
    split at hc
    · assumption
    · exact absurd hc (by decide)
  have e4 : fourF W H f X Y = [(corR W H f X Y 0 0).1, (corR W H f X Y 1 0).1, (corR W H f X Y 0 1).1, (corR W H f X Y 1 1).1] := by
    unfold fourF
    rw [if_pos hc]
    have k0 := corR_in hI (f := f) 0
    have k1 := corR_in hI (f := f) 1
    have k2 := corR_in hI (f := f) 2
    have k3 := corR_in hI (f := f) 3
    rw [show corR W H f X Y 0 0 = _ from k0, show corR W H f X Y 1 0 = _ from k1, show corR W H f X Y 0 1 = _ from k2, show corR W H f X Y 1 1 = _ from k3]
    rfl
  have el : loN W H f X Y 4 = min (min (min (min 1048576 (corR W H f X Y 0 0).1) (corR W H f X Y 1 0).1) (corR W H f X Y 0 1).1) (corR W H f X Y 1 1).1 := rfl
  have eh : hiN W H f X Y 4 = max (max (max (max (-1048576) (corR W H f X Y 0 0).1) (corR W H f X Y 1 0).1) (corR W H f X Y 0 1).1) (corR W H f X Y 1 1).1 := rfl
  have eE := exT_eq hc
  unfold heightT
  rw [if_pos hc, eE, e4, el, eh]
  simp only [exL, exF]
  generalize (corR W H f X Y 0 0).1 = a
  generalize (corR W H f X Y 1 0).1 = b
  generalize (corR W H f X Y 0 1).1 = c
  generalize (corR W H f X Y 1 1).1 = d
  generalize hlo : min (min (min (min 1048576 a) b) c) d = lo
  generalize hhi : max (max (max (max (-1048576) a) b) c) d = hi
  have hx : 0 ≤ X % 256 ∧ X % 256 ≤ 256 := by omega
  have hy : 0 ≤ Y % 256 ∧ Y % 256 ≤ 256 := by omega
  have l1 := lin_lo hx (show lo ≤ a by omega) (show lo ≤ b by omega)
  have l2 := lin_lo hx (show lo ≤ c by omega) (show lo ≤ d by omega)
  have l3 := lin_lo hy l1 l2
  have g1 := lin_hi hx (show a ≤ hi by omega) (show b ≤ hi by omega)
  have g2 := lin_hi hx (show c ≤ hi by omega) (show d ≤ hi by omega)
  have g3 := lin_hi hy g1 g2
  generalize (a * (256 - X % 256) + b * (X % 256)) * (256 - Y % 256) + (c * (256 - X % 256) + d * (X % 256)) * (Y % 256) = E at *
  clear l1 l2 g1 g2
  omega
attribute [local irreducible] OJ J HdJ Code.wpIn wpListIn Oper.wpIn bodyPost CallsIn Does
set_option maxRecDepth 4000
set_option maxHeartbeats 64000000 in
theorem nears_law (a : Int) (ha : InR .u8 a) (b : Int) (hb : InR .u8 b) (A : Option Addr) (c : Nat) (z : List Int) {w : World} (hr : RoA w (blocks []) A z.length c 1 (ints .i16 z)) (hz : ∀ x ∈ z, InR .i16 x) (sx : Int) (hsx : InR .i64 sx) (sy : Int) (hsy : InR .i64 sy) :
    Does Try.prog 9 [.int .u8 a, .int .u8 b, .slice A z.length c, .agg #[.int .i64 sx, .int .i64 sy]] [] w (fun v _ => v = .bool true) := by
  have ha1 : 0 ≤ a ∧ a ≤ 255 := ha
  have hb1 : 0 ≤ b ∧ b ≤ 255 := hb
  obtain ⟨W, hW, hW1⟩ : ∃ x : Nat, 2 + a % 39 = (x : Int) ∧ 2 ≤ x ∧ x ≤ 40 := ⟨(2 + a % 39).toNat, by omega, by omega⟩
  obtain ⟨H, hH, hH1⟩ : ∃ x : Nat, 2 + b % 39 = (x : Int) ∧ 2 ≤ x ∧ x ≤ 40 := ⟨(2 + b % 39).toNat, by omega, by omega⟩
  have iW : CV Try.prog 40 [] (.bool true) True := ⟨fun _ w => works_any11 w⟩
  refine does_of Try.func9 rfl Try.ntmps9 rfl ⟨by simp, .nil⟩ (fun n => ?_)
  simp only [slots]
  refine z_tas
  · exact j_out1 rfl rfl (.nil _) rfl
  rename_i b7 _
  refine lf rfl rfl rfl (S := []) (fun w hw ho => made_any a b ha hb W H hW hH A c z 30 (by decide) 0 0 w ⟨hr.h.go hw (Split.nil _)⟩ (by omega)) ?_
  rintro v S' ⟨Af, cf, rfl, rfl⟩
  have hfl := fieldF_len z (W * H)
  have hfi := field_in16 hz (W * H)
  generalize fieldF z (W * H) = f at *
  rw [show (1 + 30 % 1000 : Int) = ((31 : Nat) : Int) by decide]
  have hcb : 2 ≤ W ∧ W ≤ 256 ∧ 2 ≤ H ∧ H ≤ 256 ∧ 1 ≤ 31 ∧ 31 ≤ 1000 := by omega
  obtain ⟨-, h2, h3, -, -, -⟩ := chart_hdr (ox := 0) (oy := 0) (z := f) (W := W) (H := H) (cell := 31) (by omega)
  refine z_tas
  rename_i b9
  refine lf rfl rfl rfl (S := []) (fun w hw ho => open10 W H 31 Af cf f 0 0 4 w ⟨Ro.row hw (Split.nil _) (by refine z_hs)⟩ hcb hfl hfi (by decide) (by decide) (by omega)) ?_
  rintro v S' ⟨K, hys, hrm, rfl, rfl⟩
  have hF : CaF K.ys f K.room := by rw [hys, hrm]; exact caF_of hcb hfl hfi (by omega)
  rw [← hys] at h2 h3
  refine z_tas
  refine lf rfl rfl rfl (S := K.H (newV 4)) (fun w hw ho => height_t K (newV 4) f sx sy 0 w ho hF (by rw [hrm]; exact newV_ok (by omega)) (by omega)) ?_
  rintro v S' ⟨s', rfl, k1, rfl⟩
  rw [h2, h3]
  by_cases hc : codeF W H f sx sy = 0
  · rw [hc]
    have hnl := near_law hc
    have hex := exT_in hfi (W := W) (H := H) sx sy 4
    have hI : InsP W H sx sy := by
      unfold codeF at hc
      split at hc
      · assumption
      · exact absurd hc (by decide)
    unfold InsP at hI
    have hhb : -4194304 ≤ heightT W H f sx sy ∧ heightT W H f sx sy ≤ 4194304 := by omega
    refine z_tas
    refine lfv rfl rfl rfl (fun w hw => rexact_any W H Af cf f sx sy w ⟨Ro.row hw (Split.nil _) (by refine z_hs)⟩ (by omega) hfl hfi (by omega)) ?_
    refine z_tas
    refine c_loop (X := Nat) (fun i => i ≤ 4) (fun i => [(7, .pointer (some ⟨b7, 0, none⟩)), (9, .pointer (some ⟨b9, 0, none⟩)), (11, .int .i64 (heightT W H f sx sy)), (13, .int .i64 (heightT W H f sx sy * 4096 - exT W H f sx sy 4)), (14, .int .i64 (loN W H f sx sy i)), (15, .int .i64 (hiN W H f sx sy i)), (16, .int .i64 i)])
      (fun _ => [.blk b7 61 [.int .i64 sx, .int .i64 sy], .blk b9 28 [.int .i64 W, .int .i64 H, .slice Af f.length cf, .int .i64 (31 : Nat), .int .i32 0, .int .i32 0], .row (.slice Af f.length cf) 34 1 f.length (ints .i16 f)]) (fun i => 4 - i) 0 (by omega) ⟨rfl, rfl, rfl, rfl, rfl, rfl, rfl, trivial⟩ Sub.au ?_
    intro i hi
    have hlb : ∀ i : Nat, -1048576 ≤ loN W H f sx sy i ∧ loN W H f sx sy i ≤ 1048576 ∧ -1048576 ≤ hiN W H f sx sy i ∧ hiN W H f sx sy i ≤ 1048576 := by
      intro i
      induction i with
      | zero => simp only [loN, hiN]; omega
      | succ i ih =>
        have := corR_bd hfi (W := W) (H := H) sx sy (i % 2) (i / 2)
        simp only [loN, hiN]
        omega
    rcases Nat.lt_or_ge i 4 with h | h
    · have e1 : ((i : Int) % 2) = ((i % 2 : Nat) : Int) := by omega
      have e2 : ((i : Int) / 2) = ((i / 2 : Nat) : Int) := by omega
      refine z_tas
      rw [e1, e2]
      refine lfv rfl rfl rfl (fun w hw => rcorner_any W H Af cf f sx sy (i % 2) (i / 2) w ⟨Ro.row hw (Split.nil _) (by refine z_hs)⟩ (by omega) hfl hfi (by omega)) ?_
      refine z_tas
      exact c_round (i + 1) (by show i + 1 ≤ 4; omega) (by show 4 - (i + 1) < 4 - i; omega) ⟨rfl, rfl, rfl, rfl, rfl, rfl, by simp [look], trivial⟩ Sub.au
    · obtain rfl : i = 4 := by omega
      have := hlb 4
      refine z_tas
      all_goals first
        | exact j_out1 rfl rfl (.nil _) rfl
        | (exfalso; omega)
  · rw [show heightT W H f sx sy = 0 from if_neg hc]
    refine z_tas
    refine lfv rfl rfl rfl (fun w hw => rcode_any W H Af cf f sx sy w ⟨Ro.row hw (Split.nil _) (by refine z_hs)⟩ (by omega) hfl hfi) ?_
    generalize codeF W H f sx sy = cd at *
    refine z_tas
    exact j_out1 rfl rfl (.nil _) rfl
end Go.Proofs.Ytpmomimaihjmjaa
namespace Go.Proofs.Ytpmomimaihjmjaa
open Go.ChangeShapes Go.WideShapes Go.ChangeAt Go.RowKit Go.Deep Go.Joins
set_option maxRecDepth 100000 in
theorem lifted (os : Os) (started : os.Started) (H : Type) (enc : TypeId × Value → H) :
    ReturnsInHanded {} Try.checked os 9 .any (Rows.terrainNearSpec.pre6 enc Try.prog Try.f9 Rows.terrainNearRow.domain false) (Rows.terrainNearSpec.post enc Try.prog Try.f9 false true false false) := by
  refine returnsInHanded_of_change (C := Try.checked) own started (by kernel_rfl) Try.func9
    (ChangeSpec.witness6 (enc := enc) (C := Try.checked) false ⟨#[], #[.int .u8 0, .int .u8 0, .slice none 0 0, .agg #[.int .i64 0, .int .i64 0]], []⟩ 8 (by kernel_rfl) (by kernel_rfl) (by kernel_rfl) (by kernel_rfl)) ?_
  intro W base args ds gs before hval0 hW hcnd _
  have hval : ∀ (j : Nat) t v, Try.f9.params[j]? = some t → args[j]? = some v → Value.okWide Try.prog W .any base t v := hval0
  have hW' := hW
  obtain ⟨p, q, hA0, hV, rfl, hfz, hnd⟩ := hW
  have hA : DataW.TrodAll enc Try.prog W 0 (fun _ => true) true Try.f9.params.toList args.toList ds p := hA0
  rw [Try.params9] at hA hval
  obtain ⟨v0, v1, v2, v3, d0, d1, d2, d3, p0, p1, p2, p3, rfl, rfl, rfl, h0, h1, h2, h3⟩ := trodAll_four hA
  clear hA0 hval0
  obtain ⟨a, rfl, r0⟩ := gate_int Try.underlying5 (hval 0 _ _ rfl rfl) h0
  obtain ⟨b, rfl, r1⟩ := gate_int Try.underlying5 (hval 1 _ _ rfl rfl) h1
  obtain ⟨A2, c2, z, rfl, q2, r2⟩ := gate_ints Try.underlying22 Try.underlying34 (by kernel_rfl) (hval 2 _ _ rfl rfl) h2
  obtain ⟨_, rfl, sx, _, rfl, rx3, sy, _, rfl, ry3, rfl⟩ := gate_row Try.underlying61 cells_spot (hval 3 _ _ rfl rfl) h3
  refine (below_of (nears_law a r0 b r1 A2 c2 z q2 r2 sx rx3 sy ry3 (w := W))).mono fun e W' ⟨he, hb⟩ => ?_
  subst he
  exact ⟨_, rfl, gate_post (tb := 4) laidOut Try.underlying4 hW' rfl rfl (fun es h => by
    have h' : es.length = 4 := h
    match es, h' with
    | [_, _, _, _], _ => rfl) (of_decide_eq_true (by kernel_rfl)) hb⟩
theorem holds : Rows.TerrainNearSaid :=
  OpenClaim.holds_of_wide 9 Try.f9 rfl rfl rfl rfl rfl rfl rfl ⟨rfl, rfl, rfl, rfl, rfl⟩ rfl rfl rfl rfl rfl (by kernel_rfl) Try.func9 (by kernel_rfl)
    (of_decide_eq_true (by kernel_rfl)) (by unfold Func.isWrapper; first | (rw [if_pos (by decide +kernel)]; kernel_rfl) | (rw [if_neg (by decide +kernel)]; exact ⟨rfl, rfl⟩))
    (fun os started H enc _ => lifted os started H enc)

#print axioms holds
end Go.Proofs.Ytpmomimaihjmjaa
