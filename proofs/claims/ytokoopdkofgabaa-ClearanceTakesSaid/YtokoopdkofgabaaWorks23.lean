/- The statements' own example of layer 23: works() answers true. made: rules made right. -/
import Derived.Test.YtokoopdkofgabaaSim23B
namespace Go.Proofs.Ytokoopdkofgabaa
open Go.RowKit

def L0 : Ln := ⟨100, 50, 1, 10000, false, 0, 0, 0, 0, false, 0, false, 0, 0, 0, 0, 0, 0, 0, 0⟩
def L1 : Ln := ⟨100, 50, 1, 10000, true, 1, 10, 5000, 10, true, 0, false, 0, 1, 0, 0, 0, 0, 0, 0⟩
def L2 : Ln := ⟨100, 50, 1, 10000, true, 2, 20, 5000, 10, true, 4000, true, 0, 2, 0, 0, 0, 0, 0, 0⟩
def L3 : Ln := ⟨100, 50, 1, 10000, true, 2, 20, 5000, 10, true, 4000, true, 0, 2, 1, 0, 0, 0, 0, 0⟩
def L4 : Ln := ⟨100, 50, 1, 10000, true, 3, 30, 5000, 10, true, 4000, true, 1, 2, 1, 0, 0, 1, 0, 0⟩
def L5 : Ln := ⟨100, 50, 1, 10000, true, 4, 40, 5000, 10, true, 3000, true, 0, 2, 1, 0, 0, 1, 1, 0⟩
def L6 : Ln := ⟨100, 50, 1, 10000, true, 5, 200, 5000, 10, true, 3000, true, 0, 2, 1, 0, 1, 1, 1, 0⟩
def L7 : Ln := ⟨100, 50, 1, 10000, true, 6, 200, 5000, 10, true, 3000, true, 0, 2, 1, 0, 1, 1, 1, 1⟩
def L8 : Ln := ⟨100, 50, 1, 10000, true, 6, 200, 5000, 10, true, 3000, true, 0, 2, 1, 1, 1, 1, 1, 1⟩
theorem step0 : L0.take 3 1 10 5000 = (L1, 0, 0, false) := by kernel_rfl
theorem okL0 : L0.ok := by unfold Ln.ok; decide +kernel
theorem step1 : L1.take 2 2 20 1000 = (L2, 0, 4000, true) := by kernel_rfl
theorem okL1 : L1.ok := by unfold Ln.ok; decide +kernel
theorem step2 : L2.take 2 2 20 1000 = (L3, 1, 0, false) := by kernel_rfl
theorem okL2 : L2.ok := by unfold Ln.ok; decide +kernel
theorem step3 : L3.take 2 3 30 2000 = (L4, 4, 0, false) := by kernel_rfl
theorem okL3 : L3.ok := by unfold Ln.ok; decide +kernel
theorem step4 : L4.take 2 4 40 2000 = (L5, 5, 3000, true) := by kernel_rfl
theorem okL4 : L4.ok := by unfold Ln.ok; decide +kernel
theorem step5 : L5.take 2 5 200 2000 = (L6, 3, 0, false) := by kernel_rfl
theorem okL5 : L5.ok := by unfold Ln.ok; decide +kernel
theorem step6 : L6.take 4 6 200 0 = (L7, 6, 0, false) := by kernel_rfl
theorem okL6 : L6.ok := by unfold Ln.ok; decide +kernel
theorem step7 : L7.take 9 0 0 0 = (L8, 2, 0, false) := by kernel_rfl
theorem okL7 : L7.ok := by unfold Ln.ok; decide +kernel

theorem splice_all {cs : Array Value} {xs : List Value} (h : cs.size = xs.length) : splice cs 0 xs = xs.toArray := by
  unfold splice
  have : cs.toList.drop (0 + xs.length) = [] := by rw [List.drop_eq_nil_iff]; simp [h]
  rw [this]; simp

theorem wpList_load_rowG {P : Program} {ops : Array Oper} {rest : List Oper} {o : Oper} {a : Act} {w : World} {Q : Exit → Act → World → Prop} (hw : Region.wanted o (yielded ops a.tmps) = true) (ty : TypeId) (x : Operand) (ho : o.op = .load ty x)
    (g : Nat) (hx : a.eval x = .pointer (some ⟨g, 0, none⟩)) (t : TypeId) (cs : Array Value) (fr : Nat × Nat) (d : TypeDesc) (hg : w.heap[g]? = some (.cells cs t fr))
    (hu : P.underlying ty = some d) (hd : (match d with | .struct _ | .array _ _ => true | _ => false) = true) (hi : (P.info? ty).map (·.size) = some cs.size)
    (h : wpList P ops Q rest (a.put o.dst (.agg cs)) w) : wpList P ops Q (o :: rest) a w := by
  unfold wpList
  rw [if_pos hw]
  exact .inl (wp_load_row ty x ho g hx t cs fr d hg hu hd hi h)

theorem Hold.of_heap {w : World} {g : Nat} {t : TypeId} {xs : List Value} (h : w.heap[g]? = some (.cells xs.toArray t (0, 0))) : Hold w g t xs.toArray 0 xs :=
  ⟨by rw [h]; simp [splice], by simp⟩

theorem Upd.below {w0 w : World} {g : Nat} {t : TypeId} {cs : Array Value} {o B : Nat} {xs : List Value} (h : Upd w0 g t cs o xs w) (hB : B ≤ w0.heap.size) (hg : B ≤ g) : Below B w0 w :=
  ⟨h.2.os, h.2.tape, h.2.output, h.2.size, fun k hk => h.2.block k (by omega) (by simp; omega)⟩

set_option maxHeartbeats 400000 in
theorem count_none (s : Ln) (k : Int) (w : World) (h : 7 ≤ k) :
    Calls Try.prog 22 #[s.val, .int .i64 k] w fun e w' => e = .returned (.int .i64 0) ∧ Below w.heap.size w w' := by
  unfold Ln.val
  go_enter Try.func22, Try.ntmps22
  go_wp2
  go_ret
  exact ⟨rfl, (Below.refl _ _).alloc (Nat.le_refl _) _⟩

set_option maxRecDepth 100000 in
set_option maxHeartbeats 2000000 in
theorem works_any (w : World) : Calls Try.prog 15 #[] w fun e w' => e = .returned (.bool true) ∧ Below w.heap.size w w' := by
  go_enter Try.func15, Try.ntmps15
  go_wp2_with fail
  refine (new_yes 100 50 1 10000 _ (by rfl)).mono ?_
  rintro e w1 ⟨rfl, hb1⟩
  have HB1 := Lib.hid hb1
  clear hb1
  go_wp2_with (refine wpList_store_row rfl 30 _ _ rfl w1.heap.size L0.enc.toArray rfl rfl 30 _ (heap_alloc_at _ rfl) (Ln.info _) rfl (Ln.one _) ?_)
  have H0 := Hold.of_heap (w := (w1.alloc (.cells (Ln.new 0 0 0 0).enc.toArray 30)).setRow w1.heap.size L0.enc.toArray) (setRow_heap (heap_alloc_at _ rfl) L0.enc.toArray)
  refine (new_no 0 0 0 0 _ (by rfl)).mono ?_
  rintro e w3 ⟨rfl, hb3⟩
  have hlt := H0.lt
  have H1 := H0.below hb3 hlt
  have hB3 : Below w.heap.size w w3 := (HB1.out.trans ((below_setRow ((Below.refl w.heap.size w1).alloc HB1.out.size _) HB1.out.size _))).trans (hb3.mono (Nat.le_trans (Nat.le_trans HB1.out.size (Nat.le_of_lt hlt)) (Nat.le_refl _)))
  have HB3 := Lib.hid hB3
  have H1' := Lib.hid H1
  have hlt3 := H1.lt
  clear hb3 H0 hlt H1 hB3
  go_wp2_with (refine wpList_store_row rfl 30 _ _ rfl w3.heap.size (Ln.new 0 0 0 0).enc.toArray rfl rfl 30 _ (heap_alloc_at _ rfl) (Ln.info _) rfl (Ln.one _) ?_)
  generalize hg : w1.heap.size = g at *
  have K0 : Hold ((w3.alloc (.cells (Ln.new 0 0 0 0).enc.toArray 30)).setRow w3.heap.size (Ln.new 0 0 0 0).enc.toArray) g 30 L0.enc.toArray 0 L0.enc :=
    ⟨(setRow_other _ (by omega)).trans (H1'.out.alloc _).1, H1'.out.2⟩
  have HG : w.heap.size ≤ g := by rw [← hg]; exact HB1.out.size
  have HW0 : Below w.heap.size w ((w3.alloc (.cells (Ln.new 0 0 0 0).enc.toArray 30)).setRow w3.heap.size (Ln.new 0 0 0 0).enc.toArray) :=
    below_setRow (HB3.out.alloc HB3.out.size _) HB3.out.size _
  clear hg H1' HB3 HB1 hlt3
  refine (take_any g 0 30 L0.enc.toArray L0 3 1 10 5000 0 0 _ K0 okL0 (by decide) (by decide)).mono ?_
  rw [step0]
  rintro e v1 ⟨rfl, hu1⟩
  simp only at hu1 ⊢
  have K1 : Hold v1 g 30 L0.enc.toArray 0 L1.enc := hu1.1
  have HW1 : Hid (Below w.heap.size w v1) := HW0.trans ((hu1.below HW0.size HG))
  clear hu1 HW0 K0
  have KH1 := Lib.hid K1
  clear K1
  go_wp2_with fail
  refine (take_any g 0 30 L0.enc.toArray L1 2 2 20 1000 0 0 _ KH1.out okL1 (by decide) (by decide)).mono ?_
  rw [step1]
  rintro e v2 ⟨rfl, hu2⟩
  simp only at hu2 ⊢
  have KH2 : Hid (Hold v2 g 30 L0.enc.toArray 0 L2.enc) := hu2.1
  have HW2 : Hid (Below w.heap.size w v2) := HW1.out.trans (hu2.below HW1.out.size HG)
  clear hu2
  go_wp2_with fail
  refine (take_any g 0 30 L0.enc.toArray L2 2 2 20 1000 0 0 _ KH2.out okL2 (by decide) (by decide)).mono ?_
  rw [step2]
  rintro e v3 ⟨rfl, hu3⟩
  simp only at hu3 ⊢
  have KH3 : Hid (Hold v3 g 30 L0.enc.toArray 0 L3.enc) := hu3.1
  have HW3 : Hid (Below w.heap.size w v3) := HW2.out.trans (hu3.below HW2.out.size HG)
  clear hu3
  go_wp2_with fail
  refine (take_any g 0 30 L0.enc.toArray L3 2 3 30 2000 0 0 _ KH3.out okL3 (by decide) (by decide)).mono ?_
  rw [step3]
  rintro e v4 ⟨rfl, hu4⟩
  simp only at hu4 ⊢
  have KH4 : Hid (Hold v4 g 30 L0.enc.toArray 0 L4.enc) := hu4.1
  have HW4 : Hid (Below w.heap.size w v4) := HW3.out.trans (hu4.below HW3.out.size HG)
  clear hu4
  go_wp2_with fail
  refine (take_any g 0 30 L0.enc.toArray L4 2 4 40 2000 0 0 _ KH4.out okL4 (by decide) (by decide)).mono ?_
  rw [step4]
  rintro e v5 ⟨rfl, hu5⟩
  simp only at hu5 ⊢
  have KH5 : Hid (Hold v5 g 30 L0.enc.toArray 0 L5.enc) := hu5.1
  have HW5 : Hid (Below w.heap.size w v5) := HW4.out.trans (hu5.below HW4.out.size HG)
  clear hu5
  go_wp2_with fail
  refine (take_any g 0 30 L0.enc.toArray L5 2 5 200 2000 0 0 _ KH5.out okL5 (by decide) (by decide)).mono ?_
  rw [step5]
  rintro e v6 ⟨rfl, hu6⟩
  simp only at hu6 ⊢
  have KH6 : Hid (Hold v6 g 30 L0.enc.toArray 0 L6.enc) := hu6.1
  have HW6 : Hid (Below w.heap.size w v6) := HW5.out.trans (hu6.below HW5.out.size HG)
  clear hu6
  go_wp2_with fail
  refine (take_any g 0 30 L0.enc.toArray L6 4 6 200 0 0 0 _ KH6.out okL6 (by decide) (by decide)).mono ?_
  rw [step6]
  rintro e v7 ⟨rfl, hu7⟩
  simp only at hu7 ⊢
  have KH7 : Hid (Hold v7 g 30 L0.enc.toArray 0 L7.enc) := hu7.1
  have HW7 : Hid (Below w.heap.size w v7) := HW6.out.trans (hu7.below HW6.out.size HG)
  clear hu7
  go_wp2_with fail
  refine (take_any g 0 30 L0.enc.toArray L7 9 0 0 0 0 0 _ KH7.out okL7 (by decide) (by decide)).mono ?_
  rw [step7]
  rintro e v8 ⟨rfl, hu8⟩
  simp only at hu8 ⊢
  have KH8 : Hid (Hold v8 g 30 L0.enc.toArray 0 L8.enc) := hu8.1
  have HW8 : Hid (Below w.heap.size w v8) := HW7.out.trans (hu8.below HW7.out.size HG)
  clear hu8
  have h8 : v8.heap[g]? = some (.cells L8.enc.toArray 30 (0, 0)) := by
    have h := KH8.out.1
    rw [splice_all (by rfl)] at h
    exact h
  have hg8 := KH8.out.lt
  have H8 := Lib.hid h8
  clear h8 KH1 KH2 KH3 KH4 KH5 KH6 KH7 HW1 HW2 HW3 HW4 HW5 HW6 HW7
  go_wp2_with (refine wpList_load_rowG rfl 30 _ rfl g rfl 30 L8.enc.toArray (0, 0) _ H8.out Try.underlying30 rfl (Ln.info _) ?_)
  refine (count_any L8 0 _ (by decide) (by decide) 2 rfl).mono ?_
  rintro e v9 ⟨rfl, hb9⟩
  have H9 := Lib.hid ((hb9.block g hg8).trans H8.out)
  have HW9 := Lib.hid (HW8.out.trans (hb9.mono HW8.out.size))
  clear hb9
  go_wp2_with (refine wpList_load_rowG rfl 30 _ rfl g rfl 30 L8.enc.toArray (0, 0) _ H9.out Try.underlying30 rfl (Ln.info _) ?_)
  refine (count_none L8 9 _ (by decide)).mono ?_
  rintro e v10 ⟨rfl, hb10⟩
  have HW10 := Lib.hid (HW9.out.trans (hb10.mono HW9.out.size))
  clear hb10
  go_wp2_with fail
  refine (check_any 0 0 0 0 _).mono ?_
  rintro e v11 ⟨rfl, hb11⟩
  have HW11 := Lib.hid (HW10.out.trans (hb11.mono HW10.out.size))
  clear hb11
  rw [show rulesCode 0 0 0 0 = 2 from rfl]
  go_wp2_with fail
  go_ret
  exact ⟨rfl, HW11.out⟩
end Go.Proofs.Ytokoopdkofgabaa
