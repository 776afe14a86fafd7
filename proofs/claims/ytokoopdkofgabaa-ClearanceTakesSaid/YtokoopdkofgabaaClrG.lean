/- The gate of package clearance's laws. -/
import Derived.Test.YtokoopdkofgabaaClrN
import Derived.Test.YtokoopdkofgabaaGate2
namespace Go.Proofs.Ytokoopdkofgabaa
open Go.RowKit
def FrIn (f : Fr) : Prop := InR .i64 f.kind ∧ f.ok
theorem un_fr : ∀ cs, IsRow [.i64, .u16, .u32, .i32, .i32, .i32] cs → ∃ a : Fr, FrIn a ∧ frE a = cs := by
  rintro _ ⟨x0, _, rfl, h0, x1, _, rfl, h1, x2, _, rfl, h2, x3, _, rfl, h3, x4, _, rfl, h4, x5, _, rfl, h5, rfl⟩
  refine ⟨⟨x0, x1, x2, x3, x4, x5⟩, ⟨h0, ?_⟩, rfl⟩
  simp only [InR] at h1 h2 h3
  unfold Fr.ok
  simp only
  omega
end Go.Proofs.Ytokoopdkofgabaa
