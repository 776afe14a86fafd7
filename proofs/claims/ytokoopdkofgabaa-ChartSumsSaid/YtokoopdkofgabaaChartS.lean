/- Layer 9, the plain law: bits turned in a map's bytes. -/
import Derived.Test.YtokoopdkofgabaaChartM
namespace Go.Proofs.Ytokoopdkofgabaa
theorem mul_xor (k a b : Nat) : 2 ^ k * (a ^^^ b) = 2 ^ k * a ^^^ 2 ^ k * b := by
  apply Nat.eq_of_testBit_eq
  intro i
  simp only [Nat.testBit_xor, Nat.testBit_two_pow_mul]
  by_cases hk : k ≤ i <;> simp [hk]
theorem xor_cancel {a b c : Nat} (h : a ^^^ b = a ^^^ c) : b = c := by
  have := congrArg (a ^^^ ·) h
  simp only [← Nat.xor_assoc, Nat.xor_self, Nat.zero_xor] at this
  exact this
/-- Bytes with bits turned, in a window of 32. -/
structure Turned (ys zs : List Int) (n m : Nat) : Prop where
  len : zs.length = ys.length
  u8 : U8s zs
  num : numY zs = numY ys ^^^ 2 ^ n * m
  out : ∀ i, 8 * i + 7 < n ∨ n + 32 ≤ 8 * i → zs.getD i 0 = ys.getD i 0
theorem Turned.zero {ys : List Int} (h : U8s ys) (n : Nat) : Turned ys ys n 0 := ⟨rfl, h, by simp, fun _ _ => rfl⟩
theorem mod_next (m k : Nat) : m % 2 ^ (k + 1) = m % 2 ^ k + 2 ^ k * (m / 2 ^ k % 2) := Nat.mod_pow_succ
theorem Turned.none {ys zs : List Int} {n m k : Nat} (h : Turned ys zs n (m % 2 ^ k)) (hb : ¬ m / 2 ^ k % 2 = 1) : Turned ys zs n (m % 2 ^ (k + 1)) := by
  rw [mod_next, show m / 2 ^ k % 2 = 0 by omega, Nat.mul_zero, Nat.add_zero]
  exact h
theorem Turned.one {ys zs : List Int} {n m k : Nat} (h : Turned ys zs n (m % 2 ^ k)) (hb : m / 2 ^ k % 2 = 1) (hk : k < 32) (hn : n + 32 ≤ 8 * ys.length) : Turned ys (zs.set ((n + k) / 8) (((zs.getD ((n + k) / 8) 0).toNat ^^^ 2 ^ ((n + k) % 8) : Nat) : Int)) n (m % 2 ^ (k + 1)) := by
  have hl := h.len
  have hi : (n + k) / 8 < zs.length := by omega
  have hmem : zs.getD ((n + k) / 8) 0 ∈ zs := by rw [List.getD_eq_getElem?_getD, List.getElem?_eq_getElem hi]; exact List.getElem_mem ..
  have hu := h.u8 _ hmem
  have hp : 2 ^ ((n + k) % 8) < 256 := by have : 2 ^ ((n + k) % 8) ≤ 2 ^ 7 := Nat.pow_le_pow_right (by omega) (by omega); omega
  have hx : (zs.getD ((n + k) / 8) 0).toNat ^^^ 2 ^ ((n + k) % 8) < 2 ^ 8 := Nat.xor_lt_two_pow (by omega) hp
  refine ⟨by rw [List.length_set]; exact hl, ?_, ?_, ?_⟩
  · intro x hx2
    rcases List.mem_or_eq_of_mem_set hx2 with h1 | h1
    · exact h.u8 x h1
    · rw [h1]; omega
  · rw [numY_set zs _ _ h.u8 hi (Nat.mod_lt _ (by omega)), h.num, mod_next, hb, add_xor (Nat.mod_lt _ (Nat.two_pow_pos k)), mul_xor, Nat.xor_assoc, Nat.mul_one, ← Nat.pow_add, show 8 * ((n + k) / 8) + (n + k) % 8 = n + k by omega]
  · intro i hi2
    rw [List.getD_eq_getElem?_getD, List.getElem?_set_ne (by omega), ← List.getD_eq_getElem?_getD]
    exact h.out i hi2
theorem seg_eq {ys zs : List Int} (hl : zs.length = ys.length) {a n : Nat} (h : ∀ i, a ≤ i → i < a + n → zs.getD i 0 = ys.getD i 0) : seg zs a n = seg ys a n := by
  apply List.ext_getElem?
  intro j
  unfold seg
  rw [List.getElem?_take, List.getElem?_take, List.getElem?_drop, List.getElem?_drop]
  split
  · rename_i hj
    have := h (a + j) (by omega) (by omega)
    rw [List.getD_eq_getElem?_getD, List.getD_eq_getElem?_getD] at this
    rcases Nat.lt_or_ge (a + j) ys.length with h1 | h1
    · rw [List.getElem?_eq_getElem (by omega), List.getElem?_eq_getElem h1] at this ⊢
      simpa using this
    · rw [List.getElem?_eq_none (by omega), List.getElem?_eq_none h1]
  · rfl
theorem split3 (ys : List Int) {a n : Nat} (h : a + n ≤ ys.length) : numY ys = numY (seg ys 0 a) + 2 ^ (8 * a) * (numY (seg ys a n) + 2 ^ (8 * n) * numY (seg ys (a + n) (ys.length - (a + n)))) := by
  have e : ys = seg ys 0 a ++ (seg ys a n ++ seg ys (a + n) (ys.length - (a + n))) := by
    unfold seg
    rw [List.drop_zero, List.take_of_length_le (l := ys.drop (a + n)) (by rw [List.length_drop]; omega), ← List.drop_drop, List.take_append_drop, List.take_append_drop]
  conv => lhs; rw [e]
  rw [numY_app, numY_app, seg_len (by omega), seg_len h, pow256, pow256]
theorem Turned.part {ys zs : List Int} {n m : Nat} (h : Turned ys zs n m) (hy : U8s ys) {a len : Nat} (ha : 8 * a ≤ n) (hb : n + 32 ≤ 8 * (a + len)) (hl : a + len ≤ ys.length) : numY (seg zs a len) = numY (seg ys a len) ^^^ 2 ^ (n - 8 * a) * m := by
  have e0 := h.num
  have hlz := h.len
  have e1 : seg zs 0 a = seg ys 0 a := seg_eq h.len fun i _ hi => h.out i (.inl (by omega))
  have e2 : seg zs (a + len) (zs.length - (a + len)) = seg ys (a + len) (ys.length - (a + len)) := by
    rw [h.len]
    exact seg_eq h.len fun i hi _ => h.out i (.inr (by omega))
  rw [split3 zs (a := a) (n := len) (by omega), split3 ys (a := a) (n := len) hl, e1, e2] at e0
  have hp := numY_lt (seg_u8 hy 0 a)
  rw [seg_len (by omega), pow256] at hp
  have hs := numY_lt (seg_u8 hy a len)
  rw [seg_len hl, pow256] at hs
  have hs' := numY_lt (seg_u8 h.u8 a len)
  rw [seg_len (by omega), pow256] at hs'
  have e3 : 2 ^ n * m = 2 ^ (8 * a) * (2 ^ (n - 8 * a) * m) := by rw [← Nat.mul_assoc, ← Nat.pow_add, show 8 * a + (n - 8 * a) = n by omega]
  rw [e3, add_xor hp, add_xor hp, Nat.xor_assoc] at e0
  have e4 := xor_cancel e0
  rw [← mul_xor] at e4
  have e5 := Nat.eq_of_mul_eq_mul_left (Nat.two_pow_pos (8 * a)) e4
  rw [add_xor hs', add_xor hs, Nat.xor_assoc, Nat.xor_comm (2 ^ (8 * len) * _) (2 ^ _ * m), ← Nat.xor_assoc, Nat.xor_comm _ (2 ^ (8 * len) * _), Nat.xor_comm _ (2 ^ (8 * len) * _)] at e5
  exact xor_cancel e5
theorem crcOk_num {s : List Int} (hs : U8s s) (h : crcOk s) : numY (s.drop (s.length - 4)) = sumY (s.take (s.length - 4)) := by
  have := sumY_lt (ys := s.take (s.length - 4)) (fun x hx => hs x (List.mem_of_mem_take hx))
  rw [h.2, numY_bytesN, Nat.mod_eq_of_lt (by omega)]
theorem burst {s s' : List Int} (hs : U8s s) (hs' : U8s s') (hl : s'.length = s.length) (h : crcOk s) (h' : crcOk s') {b m : Nat} (num : numY s' = numY s ^^^ 2 ^ b * m) (hm : m < 4294967296) (h0 : m ≠ 0) (hb : b ≤ 8 * s.length) : False := by
  have h4 := h.1
  refine sum_burst (ys := s.take (s.length - 4)) (ts := s.drop (s.length - 4)) (ys' := s'.take (s'.length - 4)) (ts' := s'.drop (s'.length - 4)) (fun x hx => hs x (List.mem_of_mem_take hx)) (fun x hx => hs' x (List.mem_of_mem_take hx)) (by rw [List.length_take, List.length_take]; omega) (crcOk_num hs h) (crcOk_num hs' h') hm h0 (b := b) (by rw [List.length_take]; omega) ?_
  rw [List.take_append_drop, List.take_append_drop]
  exact num
section
variable {W H cell : Nat} {ox oy : Int} {z : List Int}
theorem no_chart (hW : 2 ≤ W ∧ W ≤ 256 ∧ 2 ≤ H ∧ H ≤ 256 ∧ 1 ≤ cell ∧ cell ≤ 1000) (hz : z.length = W * H) {zs : List Int} {n m : Nat} (h : Turned (chartB W H cell ox oy z) zs n m) (hm : m < 4294967296) (h0 : m ≠ 0)
    (hp : (∃ i, i < nT W H ∧ 8 * atY (chartB W H cell ox oy z) i ≤ n ∧ n + 32 ≤ 8 * (atY (chartB W H cell ox oy z) i + szY (chartB W H cell ox oy z) i)) ∨ n + 32 ≤ 8 * headN W H) (ho : Opens zs) (hc : ∀ i, i < nY zs → crcOk (segT zs i)) : False := by
  have hw : W ≤ 256 ∧ H ≤ 256 ∧ cell ≤ 1000 := by omega
  have hO := chart_opens (ox := ox) (oy := oy) hW hz
  have hu := chartB_u8 W H cell ox oy z
  obtain ⟨-, h2, h3, -⟩ := chart_hdr (ox := ox) (oy := oy) (z := z) hw
  have hsg := fun i hi => chart_seg (ox := ox) (oy := oy) (i := i) hw hz hi
  have hat := chart_at (ox := ox) (oy := oy) hw hz
  have hdr := fun i hi => chart_dir (cell := cell) (ox := ox) (oy := oy) (i := i) ⟨hw.1, hw.2.1⟩ hz hi
  generalize hC : chartB W H cell ox oy z = C at *
  have hnY : nY C = nT W H := by unfold nY; rw [h2, h3]
  have hHl : headN W H ≤ C.length := by have := hO.head; rw [h2, h3] at this; exact this
  rcases hp with ⟨i, hi, p1, p2⟩ | p
  · have hA := hat i (by omega)
    have hin := hO.in_ (i := i) (by omega)
    have same : ∀ a l, a + l ≤ headN W H → seg zs a l = seg C a l := fun a l hal => seg_eq h.len fun j _ hj => h.out j (.inl (by omega))
    have e1 : wY zs = W := by rw [← h2]; unfold wY leY; rw [same 4 2 (by unfold headN; omega)]
    have e2 : hY zs = H := by rw [← h3]; unfold hY leY; rw [same 6 2 (by unfold headN; omega)]
    have e3 : ∀ j, j < nT W H → szY zs j = szY C j := fun j hj => by unfold szY leY; rw [same _ 2 (by unfold headN; omega)]
    have e4 : ∀ j, j ≤ nT W H → atY zs j = atY C j := fun j => by
      induction j with
      | zero => intro _; rw [atY, atY, e1, e2, h2, h3]
      | succ j ih => intro hj; rw [atY, atY, ih (by omega), e3 j (by omega)]
    have hcs := hc i (by unfold nY; rw [e1, e2]; exact hi)
    have hcc : crcOk (segT C i) := by rw [hsg i hi]; exact crcOk_P _
    unfold segT at hcs hcc
    rw [e4 i (by omega), e3 i hi] at hcs
    have hlz := h.len
    exact burst (seg_u8 hu _ _) (seg_u8 h.u8 _ _) (by rw [seg_len (by omega), seg_len hin]) hcc hcs (h.part hu p1 p2 hin) hm h0 (by rw [seg_len hin]; omega)
  · have hlz := h.len
    by_cases e : headN (wY zs) (hY zs) = headN W H
    · have h5 := ho.sum
      have h6 := hO.sum
      rw [e] at h5
      rw [h2, h3] at h6
      have e7 := h.part hu (a := 0) (len := headN W H) (by omega) (by omega) (by omega)
      have eq : ∀ ys : List Int, ys.take (headN W H) = seg ys 0 (headN W H) := fun ys => by simp [seg]
      rw [eq] at h5 h6
      exact burst (seg_u8 hu _ _) (seg_u8 h.u8 _ _) (by rw [seg_len (by omega), seg_len (by omega)]) h6 h5 e7 hm h0 (by rw [seg_len (by omega)]; omega)
    · have hn : 0 < nT W H := nT_pos ⟨hW.1, hW.2.2.1⟩
      have hr := ho.rng
      have hn2 : 0 < nY zs := nT_pos ⟨hr.1, hr.2.2.1⟩
      have f1 := ho.dir 0 hn2
      have f2 := hO.dir 0 (by rw [hnY]; exact hn)
      rw [atY] at f1 f2
      rw [h2, h3] at f2
      rcases Nat.lt_or_ge n 113 with g | g
      · have s1 : seg zs 18 4 = seg C 18 4 := seg_eq h.len fun j hj _ => h.out j (.inr (by omega))
        have : fromY zs 0 = fromY C 0 := by unfold fromY leY; rw [Nat.mul_zero, Nat.add_zero, s1]
        exact e (by rw [← f1, this, f2])
      · have s1 : seg zs 4 2 = seg C 4 2 := seg_eq h.len fun j _ hj => h.out j (.inl (by omega))
        have s2 : seg zs 6 2 = seg C 6 2 := seg_eq h.len fun j _ hj => h.out j (.inl (by omega))
        have e1 : wY zs = W := by rw [← h2]; unfold wY leY; rw [s1]
        have e2 : hY zs = H := by rw [← h3]; unfold hY leY; rw [s2]
        exact e (by rw [e1, e2])
end
end Go.Proofs.Ytokoopdkofgabaa
