/- Walks of the reference of layer 23: late, radar. -/
import Derived.Test.YtokoopdkofgabaaRef23
namespace Go.Proofs.Ytokoopdkofgabaa
open Go.RowKit

theorem ret_bool {a b : Bool} (h : a = b) : Ending.returned (.bool a) = .returned (.bool b) := by rw [h]

set_option maxHeartbeats 400000 in
theorem late_a (v : Value) (l : List Fr) (ws zs : List Int) (kind seq time a b c : Int) (w : World) (HL : Lists w w.heap.size v l ws zs) (hn : 0 < l.length) (hok : ∀ f ∈ l, f.ok) (hs0 : 0 ≤ seq) (hs1 : seq < 65536) :
    Calls Try.prog 68 #[v, frm kind seq time a b c] w fun e w' => e = .returned (.bool (lateOf l seq time)) ∧ Below w.heap.size w w' := by
  obtain ⟨⟨vL, vW, vZ, rfl, ⟨A, cc, rfl, hc1, hc2, -, hr⟩, -, -⟩, -, -⟩ := HL
  obtain ⟨b', off, rfl, hb', hcell⟩ := hr hn
  obtain ⟨n, hn'⟩ : ∃ n, l.length = n + 1 := ⟨l.length - 1, by omega⟩
  have hlt : n < l.length := by omega
  have hf : l[n]? = some l[n] := List.getElem?_eq_getElem hlt
  have h1 : w.cell? ⟨b', off + n * 6 + 1, none⟩ = some (.int .u16 l[n].seq) := by rw [Nat.add_assoc]; exact hcell (n * 6 + 1) _ (encs_at l n 1 l[n] hf (by omega))
  have h2 : w.cell? ⟨b', off + n * 6 + 2, none⟩ = some (.int .u32 l[n].time) := by rw [Nat.add_assoc]; exact hcell (n * 6 + 2) _ (encs_at l n 2 l[n] hf (by omega))
  have hq := hok l[n] (List.getElem_mem hlt)
  have hq0 := hq.1
  have hq1 := hq.2.1
  have es : seqAt l (l.length - 1) = l[n].seq := by simp [seqAt, hn', hf]
  have et : timeAt l (l.length - 1) = l[n].time := by simp [timeAt, hn', hf]
  have hcz : ((n : Int) + 1 == 0) = false := by simp; omega
  have fin : lateOf l seq time = (aheadOf seq l[n].seq == 0 || decide (32768 ≤ aheadOf seq l[n].seq) || decide (time < l[n].time)) := by
    unfold lateOf; rw [es, et]; simp [hn']
  generalize l[n].seq = sq at *
  generalize l[n].time = tm at *
  have FIN := Lib.hid fin
  rw [hn'] at hc1 ⊢
  unfold maxLen at hc2
  clear hcell hf hr hok hq es et fin hn' hn hlt
  unfold frm
  go_enter Try.func68, Try.ntmps68
  go_wp2_with fail
  have wn : IntKind.i64.wrap (n : Int) = n := IntWalk.i64_in _ (by omega)
  have wn1 : 0 ≤ (n : Int) := by omega
  have wn2 : (n : Int) < (n : Int) + 1 := by omega
  have wn3 : (n : Int).toNat = n := by omega
  go_quiet ((go_at_call 102; exact quiet_left (ahead_any _ _ _ hs0 hs1 hq0 hq1)))
  go_wp2_with fail
  generalize aheadOf seq sq = q at *
  clear wn wn1 wn2 wn3
  have wn : IntKind.i64.wrap (n : Int) = n := IntWalk.i64_in _ (by omega)
  have wn1 : 0 ≤ (n : Int) := by omega
  have wn2 : (n : Int) < (n : Int) + 1 := by omega
  have wn3 : (n : Int).toNat = n := by omega
  by_cases c1 : q = 0
  · have d1 : (q == 0) = true := by simpa using c1
    have FF : Hid ((q == 0 || decide (32768 ≤ q) || decide (time < tm)) = true) := by unfold Hid; simp [c1]
    clear c1
    go_quiet (fail)
    go_wp2_with fail
    go_ret
    exact ⟨ret_bool (FIN.out.trans FF.out).symm, below_drewN (below_drewN (((Below.refl w.heap.size w).alloc (Nat.le_refl _) _).alloc (by simp) _) _) _⟩
  · have d1 : (q == 0) = false := by simpa using c1
    by_cases c2 : 32768 ≤ q
    · have d2 : decide (32768 ≤ q) = true := by simpa using c2
      have FF : Hid ((q == 0 || decide (32768 ≤ q) || decide (time < tm)) = true) := by unfold Hid; simp [c2]
      clear c1 c2
      go_quiet (fail)
      go_wp2_with fail
      go_ret
      exact ⟨ret_bool (FIN.out.trans FF.out).symm, below_drewN (below_drewN (((Below.refl w.heap.size w).alloc (Nat.le_refl _) _).alloc (by simp) _) _) _⟩
    · have d2 : decide (32768 ≤ q) = false := by simpa using c2
      have FF : Hid ((q == 0 || decide (32768 ≤ q) || decide (time < tm)) = decide (time < tm)) := by unfold Hid; rw [d1, d2]; rfl
      clear c1 c2
      go_quiet (fail)
      go_wp2_with fail
      go_ret
      exact ⟨ret_bool (FIN.out.trans FF.out).symm, below_drewN (below_drewN (((Below.refl w.heap.size w).alloc (Nat.le_refl _) _).alloc (by simp) _) _) _⟩

theorem late_any (v : Value) (l : List Fr) (ws zs : List Int) (f : Fr) (w : World) (HL : Lists w w.heap.size v l ws zs) (hok : ∀ f ∈ l, f.ok) (hf : f.ok) :
    Calls Try.prog 68 #[v, frm f.kind f.seq f.time f.a f.b f.c] w fun e w' => e = .returned (.bool (lateOf l f.seq f.time)) ∧ Below w.heap.size w w' := by
  rcases l with _ | ⟨g, l⟩
  · exact late_nil v ws zs _ _ _ _ _ _ w HL
  · exact late_a v (g :: l) ws zs _ _ _ _ _ _ w HL (by simp) hok hf.1 hf.2.1

end Go.Proofs.Ytokoopdkofgabaa
