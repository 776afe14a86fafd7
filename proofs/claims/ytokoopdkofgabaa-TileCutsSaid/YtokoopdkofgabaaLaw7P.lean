/- Layer 7's statements: the walks of the laws' own functions. -/
import Derived.Test.YtokoopdkofgabaaRef7
import Derived.Test.YtokoopdkofgabaaRef1
namespace Go.Proofs.Ytokoopdkofgabaa
open Go.RowKit
def smallF (x : Int) : Int := if x < -65536 ∨ 65535 < x then x.tmod 60000 else x
def smalls (xs : List Int) : List Int := xs.map smallF
theorem tmod_range (x : Int) : -60000 < x.tmod 60000 ∧ x.tmod 60000 < 60000 := by
  rcases Int.le_total 0 x with h | h
  · rw [Int.tmod_eq_emod_of_nonneg h]; omega
  · have e : x.tmod 60000 = -((-x).tmod 60000) := by rw [Int.neg_tmod]; omega
    rw [e, Int.tmod_eq_emod_of_nonneg (by omega : 0 ≤ -x)]; omega
theorem smallF_range (x : Int) : -65536 ≤ smallF x ∧ smallF x ≤ 65535 := by
  unfold smallF
  have := tmod_range x
  split <;> omega
theorem foldN_small {x : Int} (h0 : -65536 ≤ x) (h1 : x ≤ 65535) : foldN x < 131072 := by
  have := foldN_cast x
  unfold foldI at this
  split at this <;> omega
theorem smalls_len (xs : List Int) : (smalls xs).length = xs.length := by simp [smalls]
theorem smalls_get (xs : List Int) (i : Nat) (h : i < xs.length) : (smalls xs).getD i 0 = smallF (xs.getD i 0) := by simp [smalls, List.getD_eq_getElem?_getD, h]
theorem smalls_in (xs : List Int) : In32 (smalls xs) := fun i hi => by
  rw [smalls_len] at hi
  rw [smalls_get xs i hi]
  have := smallF_range (xs.getD i 0)
  omega
theorem smalls_fits (xs : List Int) : Fits (smalls xs) := fun x hx => by
  obtain ⟨y, -, rfl⟩ := List.mem_map.1 hx
  have := smallF_range y
  exact foldN_small this.1 this.2
theorem smalls_take (xs : List Int) (i : Nat) (h : i < xs.length) : (smalls xs).take (i + 1) = (smalls xs).take i ++ [smallF (xs.getD i 0)] := by
  rw [List.take_succ_eq_append_getElem (by rw [smalls_len]; exact h)]
  simp [smalls, List.getD_eq_getElem?_getD, h]
/-- A row that was written is read, and no other. -/
theorem row_back {xs zs : List Int} {p : Nat} {ys : List Int} (h1 : isAt ys p (rowB xs)) (h2 : isAt ys p (rowB zs)) (hl : zs.length = xs.length) (f1 : Fits xs) (f2 : Fits zs) : zs = xs := by
  unfold rowB at h1 h2
  rw [isAt_append, numBits_len] at h1 h2
  have e := five_same (by have := bestK_le zs; omega) (by have := bestK_le xs; omega) h2.1 h1.1
  rw [e] at h2
  have := codes_same xs zs _ h1.2 h2.2 (by omega) f1 f2
  rw [← hl, List.take_of_length_le (by omega)] at this
  exact this
theorem rowB_len (xs : List Int) : (rowB xs).length = 5 + bitsOf xs (bestK xs) := by unfold rowB; rw [List.length_append, numBits_len, codesB_len]
theorem code_le (n k : Nat) (hk : k ≤ 16) : (codeB n k).length ≤ 38 := by rw [codeB_len]; exact sizeN_le n k hk
theorem code_len_pos (n k : Nat) : 0 < (codeB n k).length := by rw [codeB_len]; unfold sizeN; split <;> omega
/-- What works reckons. -/
def wx : List Int := [0, -1, 1, 5]
theorem wx_best : bestK wx = 1 := by decide +kernel
theorem wx_bits : bitsOf wx 1 = 14 := by decide +kernel
theorem wx_fits : Fits wx := by intro x hx; simp [wx] at hx; rcases hx with rfl | rfl | rfl | rfl <;> decide
theorem wx_in : In32 wx := by intro i hi; simp [wx] at hi; obtain rfl | rfl | rfl | rfl : i = 0 ∨ i = 1 ∨ i = 2 ∨ i = 3 := by omega
                              all_goals simp [wx]
theorem in32_of {xs : List Int} (h : ∀ x ∈ xs, InR .i32 x) : In32 xs := fun i hi => by
  have := h (xs.getD i 0) (by rw [List.getD_eq_getElem?_getD, List.getElem?_eq_getElem hi]; exact List.getElem_mem _)
  exact this
theorem u8s_of {xs : List Int} (h : ∀ x ∈ xs, InR .u8 x) : U8s xs := fun x hx => by
  have := h x hx
  simp only [InR] at this
  omega
theorem bits_small (xs : List Int) (k : Nat) (hk : k ≤ 16) (h : xs.length ≤ 60) : bitsOf xs k ≤ 2280 := by have := bitsOf_le xs k hk; omega
end Go.Proofs.Ytokoopdkofgabaa
