/- Walks of package clearance: New, Count. -/
import Derived.Test.YtokoopdkofgabaaClrD
import Derived.Test.YtokoopdkofgabaaMem2
namespace Go.Proofs.Ytokoopdkofgabaa
open Go.RowKit

/-- A line on which nothing came. -/
def Ln.new (age jump throw most : Int) : Ln := ⟨age, jump, throw, most, false, 0, 0, 0, 0, false, 0, false, 0, 0, 0, 0, 0, 0, 0, 0⟩
def Ln.val (s : Ln) : Value := .agg s.enc.toArray

theorem Ln.one (s : Ln) : s.enc.toArray.all (·.oneCell') = true := by simp [Ln.enc, Value.oneCell']
theorem Ln.info (s : Ln) : (Try.prog.info? 30).map (·.size) = some s.enc.toArray.size := by
  have h : (Try.prog.info? 30).map (·.size) = some 20 := by kernel_rfl
  exact h

set_option maxHeartbeats 400000 in
theorem new_no (age jump throw most : Int) (w : World) (hr : rulesOk age jump throw most = false) :
    Calls Try.prog 16 #[rul age jump throw most] w fun e w' => e = .returned (.tuple #[(Ln.new 0 0 0 0).val, .int .i64 2]) ∧ Below w.heap.size w w' := by
  have hc : rulesCode age jump throw most = 2 := by simp [rulesCode, hr]
  have HC := Lib.hid hc
  clear hr hc
  unfold rul
  go_enter Try.func16, Try.ntmps16
  go_wp2_with fail
  refine (check_any age jump throw most _).mono ?_
  rintro e w1 ⟨rfl, hb⟩
  rw [HC.out]
  have ho : w1.heap[w.heap.size + 1]? = some (.cells (Ln.new 0 0 0 0).enc.toArray 30 (0, 0)) :=
    (hb.block _ (by simp)).trans (heap_alloc_at _ (by simp))
  have hbx : w1.cell? ⟨w.heap.size, 0, none⟩ = some (.int .u32 age) := (hb.cell (p := ⟨w.heap.size, 0, none⟩) (by simp only [World.size_alloc]; omega)).trans (by simp)
  have hby : w1.cell? ⟨w.heap.size, 1, none⟩ = some (.int .i64 jump) := (hb.cell (p := ⟨w.heap.size, 1, none⟩) (by simp only [World.size_alloc]; omega)).trans (by simp)
  have hbz : w1.cell? ⟨w.heap.size, 2, none⟩ = some (.int .i64 throw) := (hb.cell (p := ⟨w.heap.size, 2, none⟩) (by simp only [World.size_alloc]; omega)).trans (by simp)
  have hbt : w1.cell? ⟨w.heap.size, 3, none⟩ = some (.int .i64 most) := (hb.cell (p := ⟨w.heap.size, 3, none⟩) (by simp only [World.size_alloc]; omega)).trans (by simp)
  have HB := Lib.hid hb
  have HO := Lib.hid ho
  clear hb ho
  go_wp2_with (refine wpList_store_row rfl 30 _ _ rfl (w.heap.size + 1) (Ln.new 0 0 0 0).enc.toArray rfl rfl 30 _ HO.out (Ln.info _) rfl (Ln.one _) ?_)
  have hg := setRow_heap HO.out (Ln.new 0 0 0 0).enc.toArray
  refine bodyPost_ret (results_row_tmp rfl _ _ (w.heap.size + 1) 30 _ (0, 0) _ rfl hg Try.underlying30 rfl (by kernel_rfl)) rfl ?_
  refine ⟨rfl, ?_⟩
  exact below_setRow ((((Below.refl w.heap.size w).alloc (Nat.le_refl _) _).alloc (by simp) _).trans (HB.out.mono (by simp; omega))) (by omega) _

set_option maxHeartbeats 400000 in
theorem new_yes (age jump throw most : Int) (w : World) (hr : rulesOk age jump throw most = true) :
    Calls Try.prog 16 #[rul age jump throw most] w fun e w' => e = .returned (.tuple #[(Ln.new age jump throw most).val, .int .i64 0]) ∧ Below w.heap.size w w' := by
  have hc : rulesCode age jump throw most = 0 := by simp [rulesCode, hr]
  have HC := Lib.hid hc
  clear hr hc
  unfold rul
  go_enter Try.func16, Try.ntmps16
  go_wp2_with fail
  refine (check_any age jump throw most _).mono ?_
  rintro e w1 ⟨rfl, hb⟩
  rw [HC.out]
  have ho : w1.heap[w.heap.size + 1]? = some (.cells (Ln.new 0 0 0 0).enc.toArray 30 (0, 0)) :=
    (hb.block _ (by simp)).trans (heap_alloc_at _ (by simp))
  have hbx : w1.cell? ⟨w.heap.size, 0, none⟩ = some (.int .u32 age) := (hb.cell (p := ⟨w.heap.size, 0, none⟩) (by simp only [World.size_alloc]; omega)).trans (by simp)
  have hby : w1.cell? ⟨w.heap.size, 1, none⟩ = some (.int .i64 jump) := (hb.cell (p := ⟨w.heap.size, 1, none⟩) (by simp only [World.size_alloc]; omega)).trans (by simp)
  have hbz : w1.cell? ⟨w.heap.size, 2, none⟩ = some (.int .i64 throw) := (hb.cell (p := ⟨w.heap.size, 2, none⟩) (by simp only [World.size_alloc]; omega)).trans (by simp)
  have hbt : w1.cell? ⟨w.heap.size, 3, none⟩ = some (.int .i64 most) := (hb.cell (p := ⟨w.heap.size, 3, none⟩) (by simp only [World.size_alloc]; omega)).trans (by simp)
  have HB := Lib.hid hb
  have HO := Lib.hid ho
  clear hb ho
  go_wp2_with (refine wpList_store_row rfl 30 _ _ rfl (w.heap.size + 1) (Ln.new age jump throw most).enc.toArray rfl rfl 30 _ HO.out (Ln.info _) rfl (Ln.one _) ?_)
  have hg := setRow_heap HO.out (Ln.new age jump throw most).enc.toArray
  refine bodyPost_ret (results_row_tmp rfl _ _ (w.heap.size + 1) 30 _ (0, 0) _ rfl hg Try.underlying30 rfl (by kernel_rfl)) rfl ?_
  refine ⟨rfl, ?_⟩
  exact below_setRow ((((Below.refl w.heap.size w).alloc (Nat.le_refl _) _).alloc (by simp) _).trans (HB.out.mono (by simp; omega))) (by omega) _

set_option maxHeartbeats 400000 in
theorem count_any (s : Ln) (k : Int) (w : World) (h0 : 0 ≤ k) (h6 : k ≤ 6) (n : Int) (hn : s.counts[k.toNat]? = some n) :
    Calls Try.prog 22 #[s.val, .int .i64 k] w fun e w' => e = .returned (.int .i64 n) ∧ Below w.heap.size w w' := by
  obtain ⟨k, rfl⟩ := Int.eq_ofNat_of_zero_le h0
  have hc : (w.alloc (.cells s.enc.toArray 30)).cell? ⟨w.heap.size, 13 + k, none⟩ = some (.int .i64 n) := by
    rw [cell_of_row _ _ _ _ _ _ (heap_alloc_new w _)]
    obtain ⟨m, hm, _⟩ := note_enc s k (by omega)
    have e : s.enc[13 + k]? = some (.int .i64 n) := by
      obtain rfl | rfl | rfl | rfl | rfl | rfl | rfl : k = 0 ∨ k = 1 ∨ k = 2 ∨ k = 3 ∨ k = 4 ∨ k = 5 ∨ k = 6 := by omega
      all_goals (simp [Ln.counts] at hn; simp [Ln.enc, hn])
    simpa using e
  have hk7 : (k : Int) < 7 := by omega
  clear hn h0 h6
  unfold Ln.val
  go_enter Try.func22, Try.ntmps22
  go_wp2
  go_ret
  exact ⟨rfl, (Below.refl _ _).alloc (Nat.le_refl _) _⟩
end Go.Proofs.Ytokoopdkofgabaa
