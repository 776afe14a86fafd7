/- THERE IS A CACHE JUST OF BYTES THAT ARE A MAP: for all bytes, every room and every turned byte the law CacheNone of the given program returns true, and leaves its arguments as they were. No condition. -/
import Derived.Carry
import Derived.Test.YtpmomimaihjmjaaMA09
set_option linter.unusedVariables false
set_option linter.unusedSimpArgs false
/- Layer 10's statements: the walk of CacheNone. -/
namespace Go.Proofs.Ytpmomimaihjmjaa
open Go.RowKit
theorem bits_u8 (op : BinOp) (a b : Int) : 0 ≤ bits op .u8 a b ∧ bits op .u8 a b < 256 := by
  have h : ∀ n : Int, 0 ≤ IntKind.u8.wrap n ∧ IntKind.u8.wrap n < 256 := fun n => by
    have : IntKind.u8.wrap n = n % 256 := by simp [IntKind.wrap, IntKind.bits, IntKind.signed]
    omega
  exact h _
attribute [local irreducible] OJ J HdJ Code.wpIn wpListIn Oper.wpIn bodyPost CallsIn Does
set_option maxRecDepth 4000
set_option maxHeartbeats 64000000 in
theorem cachenone_law (a : Int) (ha : InR .u8 a) (b : Int) (hb : InR .u8 b) (A : Option Addr) (c : Nat) (z : List Int) {w : World} (hr : RoA w (blocks []) A z.length c 1 (ints .i16 z)) (hz : ∀ x ∈ z, InR .i16 x) (nn : Int) (hn : InR .i64 nn) (at' : Int) (hat : InR .u16 at') (mk : Int) (hmk : InR .u8 mk) (Al : Option Addr) (cl : Nat) (l : List (Int × Int)) (hrl : RoA w (blocks []) Al l.length cl 2 (flat spotE l)) (hl : ∀ p ∈ l, InR .i64 p.1 ∧ InR .i64 p.2) :
    Does Try.prog 5 [.int .u8 a, .int .u8 b, .slice A z.length c, .int .i64 nn, .int .u16 at', .int .u8 mk, .slice Al l.length cl] [] w (fun v _ => v = .bool true) := by
  have ha1 : 0 ≤ a ∧ a ≤ 255 := ha
  have hb1 : 0 ≤ b ∧ b ≤ 255 := hb
  have ht1 : 0 ≤ at' ∧ at' ≤ 65535 := hat
  obtain ⟨q, rfl⟩ : ∃ q : Nat, at' = q := ⟨at'.toNat, by omega⟩
  obtain ⟨W, hW, hW1⟩ : ∃ x : Nat, 2 + a % 39 = (x : Int) ∧ 2 ≤ x ∧ x ≤ 40 := ⟨(2 + a % 39).toNat, by omega, by omega⟩
  obtain ⟨H, hH, hH1⟩ : ∃ x : Nat, 2 + b % 39 = (x : Int) ∧ 2 ≤ x ∧ x ≤ 40 := ⟨(2 + b % 39).toNat, by omega, by omega⟩
  have iW : CV Try.prog 14 [] (.bool true) True := ⟨fun _ w => works_any10 w⟩
  refine does_of Try.func5 rfl Try.ntmps5 rfl ⟨by simp, .nil⟩ (fun n => ?_)
  simp only [slots]
  refine z_tas
  · exact j_out1 rfl rfl (.nil _) rfl
  · exact j_out1 rfl rfl (.nil _) rfl
  refine lf rfl rfl rfl (S := []) (fun w hw ho => field_any a b ha hb W H hW hH A c z w ⟨hr.h.go hw (Split.nil _)⟩ (by omega)) ?_
  rintro v S' ⟨Af, cf, rfl, rfl⟩
  have hfl := fieldF_len z (W * H)
  have hfi := field_in16 hz (W * H)
  generalize fieldF z (W * H) = f at *
  have hcb : 2 ≤ W ∧ W ≤ 256 ∧ 2 ≤ H ∧ H ≤ 256 ∧ 1 ≤ 5 ∧ 5 ≤ 1000 := by omega
  have hO := chart_opens (ox := 0) (oy := 0) hcb hfl
  have hget := chart_get (ox := 0) (oy := 0) hcb hfl hfi
  have hF := fun (R : Nat) (h : 1 ≤ R ∧ R ≤ 32) => caF_of (ox := 0) (oy := 0) hcb hfl hfi h
  have hbl := chart_big (cell := 5) (ox := 0) (oy := 0) (W := W) (H := H) (z := f) (by omega) hfl
  have hu := chartB_u8 W H 5 0 0 f
  obtain ⟨-, h2, h3, -, -, -⟩ := chart_hdr (ox := 0) (oy := 0) (z := f) (W := W) (H := H) (cell := 5) (by omega)
  refine z_tas
  rename_i b15
  refine lf rfl rfl rfl (S := []) (fun w hw ho => cput_ok W H 5 Af cf f 0 0 w ⟨Ro.row hw (Split.nil _) (by refine z_hs)⟩ hcb hfl hfi (by decide) (by decide)) ?_
  rintro v S' ⟨Ab, cb, rfl, rfl⟩
  generalize chartB W H 5 0 0 f = bb at *
  have hb18 := hO.len
  refine z_tas
  refine lf rfl rfl rfl (S := []) (fun w hw ho => new_c Ab cb bb nn w ⟨Ro.row hw (Split.nil _) (by refine z_hs)⟩ hu (by omega) hn) ?_
  rintro v S' (⟨code, hne, rfl, rfl, ⟨h, rfl⟩ | ⟨-, h⟩⟩ | ⟨ho, -, K, hys, hrm, rfl, rfl⟩)
  · refine z_tas
    all_goals first
      | exact j_out1 rfl rfl (.nil _) rfl
      | (exfalso; omega)
  · exact absurd (h.one hget) hne
  have hFK := hF K.room (by omega)
  rw [← hys] at hFK h2 h3
  refine z_tas
  rename_i gb
  obtain ⟨kk, hkk, hkl⟩ : ∃ kk : Nat, (q : Int) % (bb.length : Int) = kk ∧ kk < bb.length := ⟨q % bb.length, by rw [Int.natCast_emod], Nat.mod_lt _ (by omega)⟩
  simp only [hkk]
  refine z_tas
  obtain ⟨cs, hcs⟩ : ∃ cs, bb.set kk (bits .xor .u8 (bb.getD kk 0) mk) = cs := ⟨_, rfl⟩
  rw [hcs]
  refine c_loop (X := Nat × CaV) (fun q => q.1 ≤ l.length ∧ CaOk K.ys f K.room q.2 q.1) (fun q => [(3, .int .i64 nn), (6, .slice Al l.length cl), (15, .pointer (some ⟨b15, 0, none⟩)), (16, .slice (some ⟨gb, 0, none⟩) bb.length cb), (18, .pointer (some ⟨K.g, 0, none⟩)), (21, .int .i64 q.1)])
    (fun q => K.HC q.2 [.blk b15 28 [.int .i64 W, .int .i64 H, .slice Af f.length cf, .int .i64 5, .int .i32 0, .int .i32 0], .row (.slice Af f.length cf) 34 1 f.length (ints .i16 f), .row (.slice (some ⟨gb, 0, none⟩) bb.length cb) 5 1 bb.length (ints .u8 cs)]) (fun q => l.length - q.1) (0, newV K.room) ⟨by omega, newV_ok (by omega)⟩ ⟨rfl, rfl, rfl, rfl, rfl, rfl, trivial⟩ Sub.au ?_
  rintro ⟨i, s⟩ ⟨hi, hs⟩
  dsimp only at hi hs ⊢
  rcases Nat.lt_or_ge i l.length with h | h
  · obtain ⟨bL, oL, rfl, hL⟩ := hrl.at_ (by omega : 0 < l.length)
    refine z_tas
    refine c_dvL [] (0 :: 1 :: 2 :: 3 :: 4 :: 5 :: 6 :: 7 :: 8 :: 9 :: 10 :: 11 :: 12 :: 13 :: 14 :: 15 :: 16 :: []) (.nil _) ?_; intro _
    refine z_govG
    refine lf rfl rfl rfl (S := K.H s) (fun w hw ho => height_c K s f (l.getD i default).1 (l.getD i default).2 i w ho hFK hs (by omega)) ?_
    rintro v S' ⟨s', rfl, g1, rfl⟩
    have k1 := g1.ok hFK hs
    refine z_govG
    rw [h2, h3]
    refine c_dv (0 :: 1 :: 2 :: 3 :: 4 :: 5 :: 6 :: 7 :: 8 :: 9 :: 10 :: 11 :: 12 :: 13 :: 14 :: 15 :: 16 :: 17 :: []) ?_; intro _
    refine z_govG
    refine lfv rfl rfl rfl (fun w hw => rheight_any W H Af cf f (l.getD i default).1 (l.getD i default).2 w ⟨Ro.row hw (Split.nil _) (by refine z_hs)⟩ (by omega) hfl) ?_
    generalize heightF W H f (l.getD i default).1 (l.getD i default).2 = hh at *
    refine z_govG
    exact c_round (i + 1, s') ⟨h, k1⟩ (by show l.length - (i + 1) < l.length - i; omega) ⟨rfl, rfl, rfl, rfl, rfl, by simp [look], trivial⟩ Sub.au
  · obtain rfl : i = l.length := by omega
    have hcl : cs.length = bb.length := by rw [← hcs, List.length_set]
    have hcu : U8s cs := fun x hx => by
      rw [← hcs] at hx
      rcases List.mem_or_eq_of_mem_set hx with h1 | h1
      · exact hu x h1
      · rw [h1]; exact bits_u8 ..
    rw [← hcl]
    refine z_tas
    refine lf rfl rfl rfl (S := []) (fun w hw ho => new_c (some ⟨gb, 0, none⟩) cb cs nn w ⟨Ro.row hw (Split.nil _) (by refine z_hs)⟩ hcu (by omega) hn) ?_
    rintro v S' (⟨code, hne, rfl, rfl, ⟨h, -⟩ | ⟨-, h⟩⟩ | ⟨-, h, K2, -, -, rfl, rfl⟩)
    · exact absurd h ho
    · refine z_tas
      refine lf rfl rfl rfl (S := []) (fun w hw ho => get_any9 (some ⟨gb, 0, none⟩) cb cs w ⟨Ro.row hw (Split.nil _) (by refine z_hs)⟩ hcu (by omega)) ?_
      rintro v S' (⟨code', hne', hg', rfl, rfl⟩ | ⟨hg', -⟩)
      · obtain rfl := hg'.one h
        refine z_tas
        all_goals first
          | exact j_out1 rfl rfl (.nil _) rfl
          | (rename_i h9; exact absurd (iff_of_true rfl hne') h9)
      · exact absurd (h.one hg') hne
    · refine z_tas
      refine lf rfl rfl rfl (S := []) (fun w hw ho => get_any9 (some ⟨gb, 0, none⟩) cb cs w ⟨Ro.row hw (Split.nil _) (by refine z_hs)⟩ hcu (by omega)) ?_
      rintro v S' (⟨code', hne', hg', rfl, rfl⟩ | ⟨hg', g2, Ag, cg, -, -, rfl, rfl⟩)
      · exact absurd (hg'.one h) hne'
      · refine z_tas
        all_goals first
          | exact j_out1 rfl rfl (.nil _) rfl
end Go.Proofs.Ytpmomimaihjmjaa
namespace Go.Proofs.Ytpmomimaihjmjaa
open Go.ChangeShapes Go.WideShapes Go.ChangeAt Go.RowKit Go.Deep Go.Joins
set_option maxRecDepth 100000 in
theorem lifted (os : Os) (started : os.Started) (H : Type) (enc : TypeId × Value → H) :
    ReturnsInHanded {} Try.checked os 5 .any (Rows.cacheNoneSpec.pre6 enc Try.prog Try.f5 Rows.cacheNoneRow.domain false) (Rows.cacheNoneSpec.post enc Try.prog Try.f5 false true false false) := by
  refine returnsInHanded_of_change (C := Try.checked) own started (by kernel_rfl) Try.func5
    (ChangeSpec.witness6 (enc := enc) (C := Try.checked) false ⟨#[], #[.int .u8 0, .int .u8 0, .slice none 0 0, .int .i64 0, .int .u16 0, .int .u8 0, .slice none 0 0], []⟩ 8 (by kernel_rfl) (by kernel_rfl) (by kernel_rfl) (by kernel_rfl)) ?_
  intro W base args ds gs before hval0 hW hcnd _
  have hval : ∀ (j : Nat) t v, Try.f5.params[j]? = some t → args[j]? = some v → Value.okWide Try.prog W .any base t v := hval0
  have hW' := hW
  obtain ⟨p, q, hA0, hV, rfl, hfz, hnd⟩ := hW
  have hA : DataW.TrodAll enc Try.prog W 0 (fun _ => true) true Try.f5.params.toList args.toList ds p := hA0
  rw [Try.params5] at hA hval
  obtain ⟨v0, v1, v2, v3, v4, v5, v6, d0, d1, d2, d3, d4, d5, d6, p0, p1, p2, p3, p4, p5, p6, rfl, rfl, rfl, h0, h1, h2, h3, h4, h5, h6⟩ := trodAll_seven hA
  clear hA0 hval0
  obtain ⟨w, rfl, r0⟩ := gate_int Try.underlying5 (hval 0 _ _ rfl rfl) h0
  obtain ⟨h, rfl, r1⟩ := gate_int Try.underlying5 (hval 1 _ _ rfl rfl) h1
  obtain ⟨A2, c2, z, rfl, q2, r2⟩ := gate_ints Try.underlying22 Try.underlying34 (by kernel_rfl) (hval 2 _ _ rfl rfl) h2
  obtain ⟨n, rfl, r3⟩ := gate_int Try.underlying3 (hval 3 _ _ rfl rfl) h3
  obtain ⟨k, rfl, r4⟩ := gate_int Try.underlying30 (hval 4 _ _ rfl rfl) h4
  obtain ⟨mk, rfl, r5⟩ := gate_int Try.underlying5 (hval 5 _ _ rfl rfl) h5
  obtain ⟨A6, c6, l, rfl, q6, r6⟩ := gate_rows (en := spotE) Try.underlying23 cells_at rfl un_spot (hval 6 _ _ rfl rfl) h6
  refine (below_of (cachenone_law w r0 h r1 A2 c2 z q2 r2 n r3 k r4 mk r5 A6 c6 l q6 r6 (w := W))).mono fun e W' ⟨he, hb⟩ => ?_
  subst he
  exact ⟨_, rfl, gate_post (tb := 4) laidOut Try.underlying4 hW' rfl rfl (fun es h => by
    have h' : es.length = 7 := h
    match es, h' with
    | [_, _, _, _, _, _, _], _ => rfl) (of_decide_eq_true (by kernel_rfl)) hb⟩
theorem holds : Rows.CacheNoneSaid :=
  OpenClaim.holds_of_wide 5 Try.f5 rfl rfl rfl rfl rfl rfl rfl ⟨rfl, rfl, rfl, rfl, rfl⟩ rfl rfl rfl rfl rfl (by kernel_rfl) Try.func5 (by kernel_rfl)
    (of_decide_eq_true (by kernel_rfl)) (by unfold Func.isWrapper; first | (rw [if_pos (by decide +kernel)]; kernel_rfl) | (rw [if_neg (by decide +kernel)]; exact ⟨rfl, rfl⟩))
    (fun os started H enc _ => lifted os started H enc)

#print axioms holds
end Go.Proofs.Ytpmomimaihjmjaa
