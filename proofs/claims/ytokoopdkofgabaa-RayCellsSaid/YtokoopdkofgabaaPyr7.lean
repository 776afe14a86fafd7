/- Package pyramid: what New makes is a pyramid of which Over tells. -/
import Derived.Test.YtokoopdkofgabaaPyr6
namespace Go.Proofs.Ytokoopdkofgabaa
open Go.RowKit
theorem cellsN_prp (z : List Int) : ∀ i, ∀ c ∈ cellsN z i, Prp c
  | 0, c, h => by simp [cellsN] at h
  | i + 1, c, h => by
    rw [cellsN, List.mem_append] at h
    rcases h with h | h
    · exact cellsN_prp z i c h
    · have : c = cellOf (z.getD i 0) := by simpa using h
      rw [this]
      exact prp_cell _
theorem stack_R {W H : Nat} {cs : List Cel} {st : List Lv} (hs : Stack W H cs st) (hW : 1 ≤ W ∧ W ≤ 256) (hH : 1 ≤ H ∧ H ≤ 256) (hl : cs.length = W * H) (hb : ∀ c ∈ cs, 0 ≤ c.n ∧ c.n ≤ 1) : ∀ t r, st = t :: r → ∃ e, PyrR W H cs t r e := by
  induction hs with
  | one l e =>
    intro t r he
    injection he with e1 e2
    subst e1 e2
    obtain ⟨a, b, c⟩ := e
    exact ⟨8, ⟨.one _ ⟨a, b, c⟩, rfl, by rw [a]; exact ⟨hW.1, hW.2⟩, by rw [b]; exact ⟨hH.1, hH.2⟩, by rw [a, b, c, hl], by rw [c]; simpa using hb⟩⟩
  | up t0 l r0 hs hb2 e ih =>
    intro t r he
    injection he with e1 e2
    subst e1 e2
    obtain ⟨e0, h0⟩ := ih l r0 rfl
    obtain ⟨e', h1, -⟩ := h0.next hb2 t0.A t0.c
    obtain ⟨a, b, c⟩ := e
    refine ⟨e', ?_⟩
    have : t0 = ⟨hf l.w, hf l.h, t0.A, t0.c, hAll l.w l.h l.cs (hf l.h)⟩ := by
      cases t0
      simp only at a b c
      subst a b c
      rfl
    rw [this]
    exact h1
theorem pyr_of {W H : Nat} {z : List Int} {st : List Lv} (hs : Stack W H (cellsN z z.length) st) (hne : 0 < st.length) (hW : 1 ≤ W ∧ W ≤ 256) (hH : 1 ≤ H ∧ H ≤ 256) (hl : z.length = W * H) : PyrL W H (cellsN z z.length) st.reverse := by
  have hR := fun n (hn : n < st.length) => stack_cut hs n hn
  have hall : ∀ n, n < st.length → ∃ r e, r.length = n ∧ PyrR W H (cellsN z z.length) (st.reverse.getD n default) r e := fun n hn => by
    obtain ⟨r, h1, h2⟩ := hR n hn
    obtain ⟨e, h3⟩ := stack_R h1 hW hH (by rw [cellsN_len, hl]) (cellsN_bnd z _) _ _ rfl
    exact ⟨r, e, h2, h3⟩
  have hfew : st.length ≤ 9 := by
    obtain ⟨r, e, h2, h3⟩ := hall (st.length - 1) (by omega)
    have := h3.small.1
    omega
  refine ⟨fun n hn x y => level_cell (cellsN_prp z _) hs n (by simpa using hn) x y, fun n hn => level_dim hs n (by simpa using hn), ?_, cellsN_prp z _, by simpa using hne, by rw [List.length_reverse]; omega, fun n hn => ?_, fun n hn => ?_, fun n hn c hc => ?_⟩
  · obtain ⟨r, h1, h2⟩ := hR 0 hne
    have hr : r = [] := List.eq_nil_of_length_eq_zero h2
    subst hr
    cases h1 with
    | one l e => exact ⟨e.1, e.2.1⟩
  · obtain ⟨r, e, h2, h3⟩ := hall n (by simpa using hn)
    exact ⟨h3.small.2.1, h3.small.2.2.1, h3.len⟩
  · obtain ⟨r, e, h2, h3⟩ := hall n (by simpa using hn)
    exact ⟨h3.w1.1, h3.h1.1⟩
  · obtain ⟨r, e, h2, h3⟩ := hall n (by simpa using hn)
    exact h3.small.2.2.2 c hc
end Go.Proofs.Ytokoopdkofgabaa
