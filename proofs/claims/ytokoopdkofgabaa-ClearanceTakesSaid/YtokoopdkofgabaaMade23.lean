/- made: rules made right. -/
import Derived.Test.YtokoopdkofgabaaWorks23
namespace Go.Proofs.Ytokoopdkofgabaa
open Go.RowKit

def Ru.val (r : Ru) : Value := rul r.age r.jump r.throw r.most
def Ru.right (r : Ru) : Bool := rulesOk r.age r.jump r.throw r.most
def Ru.made (r : Ru) : Ru := if r.right then r else ⟨500, 300, 2, 20000⟩

theorem Ru.made_right (r : Ru) : r.made.right = true := by
  unfold Ru.made
  split
  · assumption
  · rfl
theorem Ru.right_ok {r : Ru} (h : r.right = true) : r.ok := by
  unfold Ru.right rulesOk at h
  have := of_decide_eq_true h
  unfold Ru.ok
  omega

theorem rul_one {a b c d : Int} : (#[.int .u32 a, .int .i64 b, .int .i64 c, .int .i64 d] : Array Value).all (·.oneCell') = true := by simp [Value.oneCell']
theorem rules_info : (Try.prog.info? 24).map (·.size) = some 4 := by kernel_rfl

set_option maxHeartbeats 400000 in
theorem made_any (r : Ru) (w : World) : Calls Try.prog 19 #[r.val] w fun e w' => e = .returned r.made.val ∧ Below w.heap.size w w' := by
  obtain ⟨age, jump, throw, most⟩ := r
  have hb0 := ((Below.refl w.heap.size w).alloc (Nat.le_refl _) (.cells #[.int .u32 age, .int .i64 jump, .int .i64 throw, .int .i64 most] 24)).alloc (by simp) (.cells #[.int .u32 0, .int .i64 0, .int .i64 0, .int .i64 0] 24)
  rcases hr : rulesOk age jump throw most with _ | _
  · have hc : rulesCode age jump throw most = 2 := by simp [rulesCode, hr]
    have hm : (Ru.mk age jump throw most).made = ⟨500, 300, 2, 20000⟩ := by simp [Ru.made, Ru.right, hr]
    rw [hm]
    have HC := Lib.hid hc
    clear hr hc hm
    unfold Ru.val rul
    go_enter Try.func19, Try.ntmps19
    go_wp2_with fail
    refine (refCheck_any age jump throw most _).mono ?_
    rintro e w1 ⟨rfl, hb⟩
    rw [HC.out]
    have ho : w1.heap[w.heap.size + 1]? = some (.cells #[.int .u32 0, .int .i64 0, .int .i64 0, .int .i64 0] 24 (0, 0)) := (hb.block _ (by simp)).trans (heap_alloc_at _ (by simp))
    have HO := Lib.hid ho
    have HB := Lib.hid (hb0.trans (hb.mono hb0.size))
    clear hb ho hb0
    go_wp2_with (refine wpList_store_row rfl 24 _ _ rfl (w.heap.size + 1) #[.int .u32 500, .int .i64 300, .int .i64 2, .int .i64 20000] rfl rfl 24 _ HO.out rules_info rfl rul_one ?_)
    refine bodyPost_ret (results_cell_row rfl _ _ (w.heap.size + 1) 24 #[.int .u32 500, .int .i64 300, .int .i64 2, .int .i64 20000] (0, 0) _ rfl (setRow_heap HO.out _) Try.underlying24 rfl rules_info) rfl ?_
    exact ⟨rfl, below_setRow HB.out (by omega) _⟩
  · have hc : rulesCode age jump throw most = 0 := by simp [rulesCode, hr]
    have hm : (Ru.mk age jump throw most).made = ⟨age, jump, throw, most⟩ := by simp [Ru.made, Ru.right, hr]
    rw [hm]
    have HC := Lib.hid hc
    clear hr hc hm
    unfold Ru.val rul
    go_enter Try.func19, Try.ntmps19
    go_wp2_with fail
    refine (refCheck_any age jump throw most _).mono ?_
    rintro e w1 ⟨rfl, hb⟩
    rw [HC.out]
    have ho : w1.heap[w.heap.size + 1]? = some (.cells #[.int .u32 0, .int .i64 0, .int .i64 0, .int .i64 0] 24 (0, 0)) := (hb.block _ (by simp)).trans (heap_alloc_at _ (by simp))
    obtain ⟨k1, k2⟩ := bcell hb
    have r0 : w1.cell? ⟨w.heap.size, 0, none⟩ = some (.int .u32 age) := (k1 _ _ (by simp only [World.size_alloc]; omega)).trans (by go_simp)
    have r1 : w1.cell? ⟨w.heap.size, 1, none⟩ = some (.int .i64 jump) := (k1 _ _ (by simp only [World.size_alloc]; omega)).trans (by go_simp)
    have r2 : w1.cell? ⟨w.heap.size, 2, none⟩ = some (.int .i64 throw) := (k1 _ _ (by simp only [World.size_alloc]; omega)).trans (by go_simp)
    have r3 : w1.cell? ⟨w.heap.size, 3, none⟩ = some (.int .i64 most) := (k1 _ _ (by simp only [World.size_alloc]; omega)).trans (by go_simp)
    have HO := Lib.hid ho
    have HB := Lib.hid (hb0.trans (hb.mono hb0.size))
    clear hb ho hb0 k1 k2
    go_wp2_with (refine wpList_store_row rfl 24 _ _ rfl (w.heap.size + 1) #[.int .u32 age, .int .i64 jump, .int .i64 throw, .int .i64 most] rfl rfl 24 _ HO.out rules_info rfl rul_one ?_)
    refine bodyPost_ret (results_cell_row rfl _ _ (w.heap.size + 1) 24 #[.int .u32 age, .int .i64 jump, .int .i64 throw, .int .i64 most] (0, 0) _ rfl (setRow_heap HO.out _) Try.underlying24 rfl rules_info) rfl ?_
    exact ⟨rfl, below_setRow HB.out (by omega) _⟩
end Go.Proofs.Ytokoopdkofgabaa
