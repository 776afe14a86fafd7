/- Layer 7's statements: the walks of the laws' own functions. -/
import Derived.Test.YtokoopdkofgabaaRef7
import Derived.Test.YtokoopdkofgabaaRef1
namespace Go.Proofs.Ytokoopdkofgabaa
open Go.RowKit
/-- A row that was written is read, and no other. -/
theorem row_back {xs zs : List Int} {p : Nat} {ys : List Int} (h1 : isAt ys p (rowB xs)) (h2 : isAt ys p (rowB zs)) (hl : zs.length = xs.length) (f1 : Fits xs) (f2 : Fits zs) : zs = xs := by
  unfold rowB at h1 h2
  rw [isAt_append, numBits_len] at h1 h2
  have e := five_same (by have := bestK_le zs; omega) (by have := bestK_le xs; omega) h2.1 h1.1
  rw [e] at h2
  have := codes_same xs zs _ h1.2 h2.2 (by omega) f1 f2
  rw [← hl, List.take_of_length_le (by omega)] at this
  exact this
theorem rowB_len (xs : List Int) : (rowB xs).length = 5 + bitsOf xs (bestK xs) := by unfold rowB; rw [List.length_append, numBits_len, codesB_len]
end Go.Proofs.Ytokoopdkofgabaa
