/- Layer 9, the plain law: a map as bytes. -/
import Derived.Test.YtokoopdkofgabaaWorks8
import Derived.Test.YtokoopdkofgabaaTile7
import Derived.Test.YtokoopdkofgabaaCrcM
namespace Go.Proofs.Ytokoopdkofgabaa
/-- Bytes with their sum behind. -/
def crcP (ys : List Int) : List Int := ys ++ bytesN (sumY ys) 4
theorem crcP_len (ys : List Int) : (crcP ys).length = ys.length + 4 := by simp [crcP, bytesN_len]
theorem U8s.app {a b : List Int} (h : U8s a) (g : U8s b) : U8s (a ++ b) := fun x hx => (List.mem_append.1 hx).elim (h x) (g x)
theorem crcP_u8 {ys : List Int} (h : U8s ys) : U8s (crcP ys) := U8s.app h (bytesN_in _ _)
def crcOk (ys : List Int) : Prop := 4 ≤ ys.length ∧ ys.drop (ys.length - 4) = bytesN (sumY (ys.take (ys.length - 4))) 4
instance (ys : List Int) : Decidable (crcOk ys) := by unfold crcOk; infer_instance
theorem crcOk_P (ys : List Int) : crcOk (crcP ys) := by
  refine ⟨by rw [crcP_len]; omega, ?_⟩
  rw [crcP_len, Nat.add_sub_cancel]
  unfold crcP
  rw [List.drop_left, List.take_left]
theorem crcOk_eq {ys : List Int} (h : crcOk ys) : ys = crcP (ys.take (ys.length - 4)) := by
  unfold crcP
  rw [← h.2, List.take_append_drop]
/-- A part of bytes. -/
def seg (ys : List Int) (a n : Nat) : List Int := (ys.drop a).take n
theorem seg_len {ys : List Int} {a n : Nat} (h : a + n ≤ ys.length) : (seg ys a n).length = n := by simp [seg]; omega
theorem seg_u8 {ys : List Int} (h : U8s ys) (a n : Nat) : U8s (seg ys a n) := fun x hx => h x (List.mem_of_mem_drop (List.mem_of_mem_take hx))
theorem seg_skip (a r : List Int) {m i k n : Nat} (ha : a.length = m) (hk : k = m + i) : seg (a ++ r) k n = seg r i n := by
  subst ha hk
  unfold seg
  rw [List.drop_append, List.drop_eq_nil_of_le (by omega), List.nil_append, Nat.add_sub_cancel_left]
theorem seg_head (b c : List Int) {n : Nat} (hb : b.length = n) : seg (b ++ c) 0 n = b := by subst hb; simp [seg]
theorem seg_mid (a b c : List Int) {i n : Nat} (ha : a.length = i) (hb : b.length = n) : seg (a ++ b ++ c) i n = b := by
  rw [List.append_assoc, seg_skip a _ ha (Nat.add_zero _).symm, seg_head b c hb]
def leY (ys : List Int) (a n : Nat) : Nat := numY (seg ys a n)
theorem leY_lt {ys : List Int} (h : U8s ys) {a n : Nat} (hn : a + n ≤ ys.length) : leY ys a n < 256 ^ n := by
  have := numY_lt (seg_u8 h a n)
  rw [seg_len hn] at this
  exact this
/-- How many tiles there are, and how many bytes stand ahead of them. -/
def nT (W H : Nat) : Nat := cntF W * cntF H
def headN (W H : Nat) : Nat := 22 + 6 * nT W H
/-- A tile's columns and rows, and its bytes. -/
def tX (W i : Nat) : Int := ((i % cntF W : Nat) : Int)
def tY (W i : Nat) : Int := ((i / cntF W : Nat) : Int)
def tilW (W H i : Nat) : Nat := (boxF W H (tX W i) (tY W i)).2.2.1
def tilH (W H i : Nat) : Nat := (boxF W H (tX W i) (tY W i)).2.2.2
def cutN (W H : Nat) (z : List Int) (i : Nat) : List Int := cutF W H z (tX W i) (tY W i)
def rawB (wd : Nat) (z : List Int) : List Int := pack (rowB (deltas z wd))
def tilB (W H : Nat) (z : List Int) (i : Nat) : List Int := crcP (rawB (tilW W H i) (cutN W H z i))
def bodyTo (W H : Nat) (z : List Int) : Nat → List Int
  | 0 => []
  | i + 1 => bodyTo W H z i ++ tilB W H z i
def u32N (x : Int) : Nat := (x % 4294967296).toNat
def hdrB (W H cell : Nat) (ox oy : Int) : List Int := bytesN 1296978516 4 ++ bytesN W 2 ++ bytesN H 2 ++ bytesN cell 2 ++ bytesN (u32N ox) 4 ++ bytesN (u32N oy) 4
def dirTo (W H cell : Nat) (ox oy : Int) (z : List Int) : Nat → List Int
  | 0 => hdrB W H cell ox oy
  | i + 1 => dirTo W H cell ox oy z i ++ bytesN (headN W H + (bodyTo W H z i).length) 4 ++ bytesN (tilB W H z i).length 2
/-- A map as bytes. -/
def chartB (W H cell : Nat) (ox oy : Int) (z : List Int) : List Int := crcP (dirTo W H cell ox oy z (nT W H)) ++ bodyTo W H z (nT W H)
theorem raw_len (wd : Nat) (z : List Int) (h : z.length ≤ 256) : 1 ≤ (rawB wd z).length ∧ (rawB wd z).length ≤ 1220 := by
  have hrl := rowB_len (deltas z wd)
  have hbk := bestK_le (deltas z wd)
  have hbs := bitsOf_le (deltas z wd) (bestK (deltas z wd)) hbk
  have hdl := deltas_len z wd
  have hpl := pack_len (rowB (deltas z wd))
  unfold rawB
  omega
theorem raw_u8 (wd : Nat) (z : List Int) : U8s (rawB wd z) := pack_u8 _
theorem cnt_pos {W : Nat} (h : 2 ≤ W) : 1 ≤ cntF W := by unfold cntF; omega
theorem cnt_le {W : Nat} (h : W ≤ 256) : cntF W ≤ 16 := by unfold cntF; omega
theorem nT_le {W H : Nat} (h : W ≤ 256 ∧ H ≤ 256) : nT W H ≤ 256 := by
  have := Nat.mul_le_mul (cnt_le h.1) (cnt_le h.2)
  unfold nT; omega
theorem nT_pos {W H : Nat} (h : 2 ≤ W ∧ 2 ≤ H) : 1 ≤ nT W H := Nat.mul_pos (cnt_pos h.1) (cnt_pos h.2)
theorem tile_in {W H i : Nat} (hi : i < nT W H) : i % cntF W < cntF W ∧ i / cntF W < cntF H := by
  unfold nT at hi
  have hp : 0 < cntF W := by
    rcases Nat.eq_zero_or_pos (cntF W) with e | e
    · rw [e, Nat.zero_mul] at hi; omega
    · exact e
  exact ⟨Nat.mod_lt _ hp, Nat.div_lt_of_lt_mul hi⟩
theorem tile_box {W H i : Nat} (hi : i < nT W H) : 1 ≤ tilW W H i ∧ tilW W H i ≤ 16 ∧ 1 ≤ tilH W H i ∧ tilH W H i ≤ 16 := by
  obtain ⟨h1, h2⟩ := tile_in hi
  unfold tilW tilH tX tY
  rw [box_at h1 h2]
  generalize i % cntF W = x at *
  generalize i / cntF W = y at *
  unfold cntF at h1 h2
  simp only
  omega
theorem cutN_len {W H i : Nat} {z : List Int} (hz : z.length = W * H) : (cutN W H z i).length = tilW W H i * tilH W H i := by
  have hbx := boxF_in W H (tX W i) (tY W i)
  unfold cutN cutF tilW tilH
  rw [cutTo_len hz hbx.1 hbx.2.1 _ (Nat.le_refl _), Nat.mul_comm]
theorem cutN_le {W H i : Nat} {z : List Int} (hz : z.length = W * H) : (cutN W H z i).length ≤ 256 := by
  have hbx := boxF_in W H (tX W i) (tY W i)
  have := Nat.mul_le_mul hbx.2.2.1 hbx.2.2.2
  rw [cutN_len hz]
  exact this
theorem tilB_len {W H i : Nat} {z : List Int} (hz : z.length = W * H) : 5 ≤ (tilB W H z i).length ∧ (tilB W H z i).length ≤ 1224 := by
  have := raw_len (tilW W H i) _ (cutN_le (i := i) hz)
  unfold tilB
  rw [crcP_len]
  omega
theorem tilB_u8 (W H i : Nat) (z : List Int) : U8s (tilB W H z i) := crcP_u8 (raw_u8 _ _)
theorem bodyTo_u8 (W H : Nat) (z : List Int) : ∀ i, U8s (bodyTo W H z i)
  | 0 => by intro x hx; simp [bodyTo] at hx
  | i + 1 => U8s.app (bodyTo_u8 W H z i) (tilB_u8 W H i z)
theorem bodyTo_len {W H : Nat} {z : List Int} (hz : z.length = W * H) : ∀ i, (bodyTo W H z i).length ≤ 1224 * i
  | 0 => by simp [bodyTo]
  | i + 1 => by
    have := bodyTo_len hz i
    have := tilB_len (i := i) hz
    rw [bodyTo, List.length_append]
    omega
theorem hdrB_len (W H cell : Nat) (ox oy : Int) : (hdrB W H cell ox oy).length = 18 := by simp [hdrB, bytesN_len]
theorem hdrB_u8 (W H cell : Nat) (ox oy : Int) : U8s (hdrB W H cell ox oy) := U8s.app (U8s.app (U8s.app (U8s.app (U8s.app (bytesN_in _ _) (bytesN_in _ _)) (bytesN_in _ _)) (bytesN_in _ _)) (bytesN_in _ _)) (bytesN_in _ _)
theorem dirTo_len (W H cell : Nat) (ox oy : Int) (z : List Int) : ∀ i, (dirTo W H cell ox oy z i).length = 18 + 6 * i
  | 0 => hdrB_len ..
  | i + 1 => by rw [dirTo, List.length_append, List.length_append, dirTo_len W H cell ox oy z i, bytesN_len, bytesN_len]; omega
theorem dirTo_u8 (W H cell : Nat) (ox oy : Int) (z : List Int) : ∀ i, U8s (dirTo W H cell ox oy z i)
  | 0 => hdrB_u8 W H cell ox oy
  | i + 1 => U8s.app (U8s.app (dirTo_u8 W H cell ox oy z i) (bytesN_in _ _)) (bytesN_in _ _)
theorem chartB_u8 (W H cell : Nat) (ox oy : Int) (z : List Int) : U8s (chartB W H cell ox oy z) := U8s.app (crcP_u8 (dirTo_u8 W H cell ox oy z _)) (bodyTo_u8 W H z _)
theorem head_len (W H cell : Nat) (ox oy : Int) (z : List Int) : (crcP (dirTo W H cell ox oy z (nT W H))).length = headN W H := by rw [crcP_len, dirTo_len]; unfold headN; omega
theorem chartB_len (W H cell : Nat) (ox oy : Int) (z : List Int) : (chartB W H cell ox oy z).length = headN W H + (bodyTo W H z (nT W H)).length := by unfold chartB; rw [List.length_append, head_len]
theorem dirTo_ext (W H cell : Nat) (ox oy : Int) (z : List Int) (i : Nat) : ∀ k, ∃ t, dirTo W H cell ox oy z (i + k) = dirTo W H cell ox oy z i ++ t
  | 0 => ⟨[], by simp⟩
  | k + 1 => by
    obtain ⟨t, h⟩ := dirTo_ext W H cell ox oy z i k
    rw [← Nat.add_assoc, dirTo, h, List.append_assoc, List.append_assoc]
    exact ⟨_, rfl⟩
theorem bodyTo_ext (W H : Nat) (z : List Int) (i : Nat) : ∀ k, ∃ t, bodyTo W H z (i + k) = bodyTo W H z i ++ t
  | 0 => ⟨[], by simp⟩
  | k + 1 => by
    obtain ⟨t, h⟩ := bodyTo_ext W H z i k
    rw [← Nat.add_assoc, bodyTo, h, List.append_assoc]
    exact ⟨_, rfl⟩
/-- What bytes say of a map. -/
def wY (ys : List Int) : Nat := leY ys 4 2
def hY (ys : List Int) : Nat := leY ys 6 2
def cellY (ys : List Int) : Nat := leY ys 8 2
def fromY (ys : List Int) (i : Nat) : Nat := leY ys (18 + 6 * i) 4
def szY (ys : List Int) (i : Nat) : Nat := leY ys (18 + 6 * i + 4) 2
def atY (ys : List Int) : Nat → Nat
  | 0 => headN (wY ys) (hY ys)
  | i + 1 => atY ys i + szY ys i
def nY (ys : List Int) : Nat := nT (wY ys) (hY ys)
def rangeY (ys : List Int) : Prop := 2 ≤ wY ys ∧ wY ys ≤ 256 ∧ 2 ≤ hY ys ∧ hY ys ≤ 256 ∧ 1 ≤ cellY ys ∧ cellY ys ≤ 1000
instance (ys : List Int) : Decidable (rangeY ys) := by unfold rangeY; infer_instance
def openC (ys : List Int) : Int :=
  if ys.length < 18 then 5 else if leY ys 0 4 ≠ 1296978516 then 3 else if ¬ rangeY ys then 2 else if ys.length < headN (wY ys) (hY ys) then 5
  else if ¬ crcOk (ys.take (headN (wY ys) (hY ys))) then 4 else if ¬ (∀ i, i < nY ys → fromY ys i = atY ys i) then 2 else if atY ys (nY ys) ≠ ys.length then 5 else 0
/-- Bytes whose header and directory may be. -/
structure Opens (ys : List Int) : Prop where
  len : 18 ≤ ys.length
  mag : leY ys 0 4 = 1296978516
  rng : rangeY ys
  head : headN (wY ys) (hY ys) ≤ ys.length
  sum : crcOk (ys.take (headN (wY ys) (hY ys)))
  dir : ∀ i, i < nY ys → fromY ys i = atY ys i
  size : atY ys (nY ys) = ys.length
theorem openC_iff (ys : List Int) : openC ys = 0 ↔ Opens ys := by
  unfold openC
  constructor
  · intro h
    repeat' (split at h; omega)
    constructor <;> first | assumption | omega | (apply Decidable.of_not_not; assumption)
  · intro h
    obtain ⟨h1, h2, h3, h4, h5, h6, h7⟩ := h
    rw [if_neg (by omega), if_neg (by omega), if_neg (fun e => e h3), if_neg (by omega), if_neg (fun e => e h5), if_neg (fun e => e h6), if_neg (by omega)]
theorem atY_mono (ys : List Int) (i : Nat) : ∀ k, atY ys i ≤ atY ys (i + k)
  | 0 => Nat.le_refl _
  | k + 1 => by have := atY_mono ys i k; rw [← Nat.add_assoc, atY]; omega
/-- A tile's part of the bytes. -/
def segT (ys : List Int) (i : Nat) : List Int := seg ys (atY ys i) (szY ys i)
theorem Opens.in_ {ys : List Int} (h : Opens ys) {i : Nat} (hi : i < nY ys) : atY ys i + szY ys i ≤ ys.length := by
  have := atY_mono ys (i + 1) (nY ys - (i + 1))
  rw [show i + 1 + (nY ys - (i + 1)) = nY ys by omega, h.size, atY] at this
  exact this
section
variable {W H cell : Nat} {ox oy : Int} {z : List Int}
theorem chartB_hdr : ∃ t, chartB W H cell ox oy z = hdrB W H cell ox oy ++ t := by
  obtain ⟨t, h⟩ := dirTo_ext W H cell ox oy z 0 (nT W H)
  rw [Nat.zero_add] at h
  unfold chartB crcP
  rw [h, dirTo, List.append_assoc, List.append_assoc]
  exact ⟨_, rfl⟩
theorem leY_seg {ys : List Int} {a n x : Nat} (h : seg ys a n = bytesN x n) (hx : x < 256 ^ n) : leY ys a n = x := by
  unfold leY
  rw [h, numY_bytesN, Nat.mod_eq_of_lt hx]
theorem u32N_lt (x : Int) : u32N x < 256 ^ 4 := by unfold u32N; omega
theorem chart_hdr (hW : W ≤ 256 ∧ H ≤ 256 ∧ cell ≤ 1000) : leY (chartB W H cell ox oy z) 0 4 = 1296978516 ∧ wY (chartB W H cell ox oy z) = W ∧ hY (chartB W H cell ox oy z) = H ∧ cellY (chartB W H cell ox oy z) = cell ∧ leY (chartB W H cell ox oy z) 10 4 = u32N ox ∧ leY (chartB W H cell ox oy z) 14 4 = u32N oy := by
  obtain ⟨t, h⟩ := chartB_hdr (W := W) (H := H) (cell := cell) (ox := ox) (oy := oy) (z := z)
  unfold wY hY cellY
  rw [h]
  unfold hdrB
  simp only [List.append_assoc]
  refine ⟨leY_seg (seg_head _ _ (bytesN_len ..)) (by omega), leY_seg ?_ (by omega), leY_seg ?_ (by omega), leY_seg ?_ (by omega), leY_seg ?_ (u32N_lt _), leY_seg ?_ (u32N_lt _)⟩
  · rw [seg_skip _ _ (bytesN_len ..) (i := 0) rfl, seg_head _ _ (bytesN_len ..)]
  · rw [seg_skip _ _ (bytesN_len ..) (i := 2) rfl, seg_skip _ _ (bytesN_len ..) (i := 0) rfl, seg_head _ _ (bytesN_len ..)]
  · rw [seg_skip _ _ (bytesN_len ..) (i := 4) rfl, seg_skip _ _ (bytesN_len ..) (i := 2) rfl, seg_skip _ _ (bytesN_len ..) (i := 0) rfl, seg_head _ _ (bytesN_len ..)]
  · rw [seg_skip _ _ (bytesN_len ..) (i := 6) rfl, seg_skip _ _ (bytesN_len ..) (i := 4) rfl, seg_skip _ _ (bytesN_len ..) (i := 2) rfl, seg_skip _ _ (bytesN_len ..) (i := 0) rfl, seg_head _ _ (bytesN_len ..)]
  · rw [seg_skip _ _ (bytesN_len ..) (i := 10) rfl, seg_skip _ _ (bytesN_len ..) (i := 8) rfl, seg_skip _ _ (bytesN_len ..) (i := 6) rfl, seg_skip _ _ (bytesN_len ..) (i := 4) rfl, seg_skip _ _ (bytesN_len ..) (i := 0) rfl, seg_head _ _ (bytesN_len ..)]
theorem chart_dir (hW : W ≤ 256 ∧ H ≤ 256) (hz : z.length = W * H) {i : Nat} (hi : i < nT W H) : fromY (chartB W H cell ox oy z) i = headN W H + (bodyTo W H z i).length ∧ szY (chartB W H cell ox oy z) i = (tilB W H z i).length := by
  obtain ⟨t, h⟩ := dirTo_ext W H cell ox oy z (i + 1) (nT W H - (i + 1))
  rw [show i + 1 + (nT W H - (i + 1)) = nT W H by omega] at h
  have hn := nT_le hW
  have hb := bodyTo_len hz i
  have ht := tilB_len (i := i) hz
  have hd := dirTo_len W H cell ox oy z i
  unfold fromY szY chartB crcP
  rw [h, dirTo]
  simp only [List.append_assoc]
  refine ⟨leY_seg ?_ (by unfold headN; omega), leY_seg ?_ (by omega)⟩
  · rw [seg_skip _ _ hd (Nat.add_zero _).symm, seg_head _ _ (bytesN_len ..)]
  · rw [seg_skip _ _ hd (i := 4) rfl, seg_skip _ _ (bytesN_len ..) (i := 0) rfl, seg_head _ _ (bytesN_len ..)]
theorem chart_at (hW : W ≤ 256 ∧ H ≤ 256 ∧ cell ≤ 1000) (hz : z.length = W * H) : ∀ i, i ≤ nT W H → atY (chartB W H cell ox oy z) i = headN W H + (bodyTo W H z i).length
  | 0, _ => by
    obtain ⟨-, h1, h2, -⟩ := chart_hdr (ox := ox) (oy := oy) (z := z) hW
    rw [atY, h1, h2]; rfl
  | i + 1, hi => by rw [atY, chart_at hW hz i (by omega), (chart_dir ⟨hW.1, hW.2.1⟩ hz (by omega)).2, bodyTo, List.length_append]; omega
theorem chart_seg (hW : W ≤ 256 ∧ H ≤ 256 ∧ cell ≤ 1000) (hz : z.length = W * H) {i : Nat} (hi : i < nT W H) : segT (chartB W H cell ox oy z) i = tilB W H z i := by
  obtain ⟨t, h⟩ := bodyTo_ext W H z (i + 1) (nT W H - (i + 1))
  rw [show i + 1 + (nT W H - (i + 1)) = nT W H by omega] at h
  unfold segT
  rw [chart_at hW hz i (by omega), (chart_dir ⟨hW.1, hW.2.1⟩ hz hi).2]
  unfold chartB
  rw [seg_skip _ _ (head_len ..) rfl, h, bodyTo]
  exact seg_mid _ _ _ rfl rfl
theorem chart_opens (hW : 2 ≤ W ∧ W ≤ 256 ∧ 2 ≤ H ∧ H ≤ 256 ∧ 1 ≤ cell ∧ cell ≤ 1000) (hz : z.length = W * H) : Opens (chartB W H cell ox oy z) := by
  have hw : W ≤ 256 ∧ H ≤ 256 ∧ cell ≤ 1000 := by omega
  obtain ⟨h1, h2, h3, h4, -⟩ := chart_hdr (ox := ox) (oy := oy) (z := z) hw
  have hl := chartB_len W H cell ox oy z
  refine ⟨by rw [hl]; unfold headN; omega, h1, ⟨by omega, by omega, by omega, by omega, by omega, by omega⟩, by rw [h2, h3, hl]; omega, ?_, ?_, ?_⟩
  · rw [h2, h3]
    unfold chartB
    rw [List.take_left' (head_len ..)]
    exact crcOk_P _
  · unfold nY
    rw [h2, h3]
    intro i hi
    rw [(chart_dir ⟨hw.1, hw.2.1⟩ hz hi).1, chart_at hw hz i (by omega)]
  · unfold nY
    rw [h2, h3, chart_at hw hz _ (Nat.le_refl _), hl]
end
/-- All tiles ahead of one are laid, row by row. -/
def LaidR (W H : Nat) (z g : List Int) (i : Nat) : Prop := g.length = W * H ∧ ∀ x y, x < W → y < H → (y / 16) * cntF W + x / 16 < i → g.getD (y * W + x) 0 = z.getD (y * W + x) 0
theorem LaidR.zero {W H : Nat} {z g : List Int} (h : g.length = W * H) : LaidR W H z g 0 := ⟨h, fun _ _ _ _ h => by omega⟩
theorem LaidR.next {W H : Nat} {z g : List Int} {i : Nat} (hz : z.length = W * H) (hi : i < nT W H) (h : LaidR W H z g i) : LaidR W H z (layF W H z g (i % cntF W) (i / cntF W)) (i + 1) := by
  obtain ⟨h1, h2⟩ := tile_in hi
  have hbx := boxF_in W H (i % cntF W : Nat) (i / cntF W : Nat)
  have hsz := (box_size h1 h2 hz).1
  refine ⟨layTo_len h.1 hbx.1 hbx.2.1 hsz _ (Nat.le_refl _), fun x y hx hy e => ?_⟩
  unfold layF cutF
  refine lay_keep hz h.1 hbx.1 hbx.2.1 _ (Nat.le_refl _) ?_
  rcases Nat.lt_or_ge ((y / 16) * cntF W + x / 16) i with e1 | e1
  · exact .inl (h.2 x y hx hy e1)
  · have hxc : x / 16 < cntF W := by unfold cntF; omega
    have ee : i = x / 16 + cntF W * (y / 16) := by rw [Nat.mul_comm (cntF W)]; omega
    have e2 : i % cntF W = x / 16 := by rw [ee, Nat.add_mul_mod_self_left, Nat.mod_eq_of_lt hxc]
    have e3 : i / cntF W = y / 16 := by rw [ee, Nat.add_mul_div_left _ _ (by omega), Nat.div_eq_of_lt hxc, Nat.zero_add]
    refine .inr ⟨y - 16 * (y / 16), ?_⟩
    rw [e2] at h1
    rw [e3] at h2
    rw [e2, e3]
    rw [box_at h1 h2]
    simp only
    have : 16 * (y / 16) + (y - 16 * (y / 16)) = y := by omega
    rw [this]
    omega
theorem LaidR.all {W H : Nat} {z g : List Int} (hz : z.length = W * H) (h : LaidR W H z g (nT W H)) : g = z := by
  apply List.ext_getElem (by rw [h.1, hz])
  intro p h1 h2
  have hW : 0 < W := by rcases Nat.eq_zero_or_pos W with e | e
                        · rw [hz, e, Nat.zero_mul] at h2; omega
                        · exact e
  have hp : p / W * W + p % W = p := by rw [Nat.mul_comm]; exact Nat.div_add_mod p W
  have hm := Nat.mod_lt p hW
  have hy : p / W < H := Nat.div_lt_of_lt_mul (by omega)
  have h3 : p % W / 16 < cntF W := by unfold cntF; omega
  have h4 : p / W / 16 < cntF H := by unfold cntF; omega
  have h5 : (p / W / 16 + 1) * cntF W ≤ cntF H * cntF W := Nat.mul_le_mul_right _ h4
  have := h.2 (p % W) (p / W) hm hy (by unfold nT; rw [Nat.add_mul, Nat.one_mul, Nat.mul_comm (cntF H)] at h5; omega)
  rw [hp, List.getD_eq_getElem?_getD, List.getD_eq_getElem?_getD, List.getElem?_eq_getElem h1, List.getElem?_eq_getElem h2] at this
  simpa using this
theorem getD_cut {W x y bw : Nat} {z : List Int} (P : Int → Prop) (h0 : P 0) (hz : ∀ i, P (z.getD i 0)) : ∀ r i, P ((cutTo z W x y bw r).getD i 0)
  | 0, i => by simpa [cutTo] using h0
  | r + 1, i => by
    rw [cutTo]
    rcases Nat.lt_or_ge i (cutTo z W x y bw r).length with h | h
    · rw [List.getD_eq_getElem?_getD, List.getElem?_append_left h, ← List.getD_eq_getElem?_getD]
      exact getD_cut P h0 hz r i
    · rw [List.getD_eq_getElem?_getD, List.getElem?_append_right h]
      unfold rowAt
      rw [List.getElem?_take, List.getElem?_drop]
      split
      · rw [← List.getD_eq_getElem?_getD]
        exact hz _
      · simpa using h0
theorem in16_cut {z : List Int} (hz : In16 z) (W H i : Nat) : In16 (cutN W H z i) := fun k => getD_cut (fun x => -32768 ≤ x ∧ x ≤ 32767) (by decide) hz _ k
end Go.Proofs.Ytokoopdkofgabaa
