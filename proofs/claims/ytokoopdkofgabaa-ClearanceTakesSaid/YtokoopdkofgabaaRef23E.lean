/- Walks of the reference of layer 23: radar, the ways of a jump. -/
import Derived.Test.YtokoopdkofgabaaRef23D
import Derived.Deep.RegionHeld3
namespace Go.Proofs.Ytokoopdkofgabaa
open Go.RowKit

set_option maxHeartbeats 400000 in
theorem rradar_gy (age jump throw most : Int) (v : Value) (l : List Fr) (ws zs : List Int) (kind seq time a b c : Int) (w : World) (HL : Lists w w.heap.size v l ws zs) (hlok : ∀ f ∈ l, f.ok) (hzok : zsOk zs) (ha : -2147483648 ≤ a) (hb : a < 2147483648)
    (c1 : 0 ≤ a) (c2 : a ≤ most) (k : Nat) (c3 : baroIdx l = k) (c4 : (time - timeAt l k) % 4294967296 ≤ age) (g : Nat) (c5 : groundIdx l ws = g) (c6 : jump < aAt l k - a - zs.getD g 0) (c8 : threwOf l ws < throw) :
    Calls Try.prog 69 #[rul age jump throw most, v, frm kind seq time a b c] w fun e w' => e = .returned (.tuple #[.int .i64 4, .int .i64 0]) ∧ Below w.heap.size w w' := by
  have HLL := Lib.hid HL
  obtain ⟨⟨vL, vW, vZ, rfl, ⟨A, cc, rfl, hc1, hc2, -, hr⟩, -, ⟨A3, cc3, rfl, hd1, hd2, -, hr3⟩⟩, hlw, hlz⟩ := HL
  have hlt : k < l.length := by have := (lastIdx_bd (fun k => kindAt l k == 3) l.length).2; unfold baroIdx at c3; omega
  have hf : l[k]? = some l[k] := List.getElem?_eq_getElem hlt
  obtain ⟨b', off, rfl, hb', hcell⟩ := hr (by omega)
  have h2 : w.cell? ⟨b', off + k * 6 + 2, none⟩ = some (.int .u32 l[k].time) := by rw [Nat.add_assoc]; exact hcell (k * 6 + 2) _ (encs_at l k 2 l[k] hf (by omega))
  have h3 : w.cell? ⟨b', off + k * 6 + 3, none⟩ = some (.int .i32 l[k].a) := by rw [Nat.add_assoc]; exact hcell (k * 6 + 3) _ (encs_at l k 3 l[k] hf (by omega))
  have hq := hlok l[k] (List.getElem_mem hlt)
  obtain ⟨-, -, -, -, q1, q2⟩ := hq
  have et : timeAt l k = l[k].time := by simp [timeAt, hf]
  have ea : aAt l k = l[k].a := by simp [aAt, hf]
  rw [et] at c4
  rw [ea] at c6
  generalize l[k].time = tm at *
  generalize l[k].a = ka at *
  have hkl : (k : Int) < (l.length : Int) := by omega
  have hk0 : decide ((k : Int) < 0) = false := by simp
  have HK : Hid (lastIdx (fun k => kindAt l k == 3) l.length = (k : Int)) := c3
  have HLW := Lib.hid hlw
  have HLZ := Lib.hid hlz
  unfold maxLen at hc2 hd2
  clear hcell hf hr hlok et ea hlw hlz c3
  have HG : Hid (lastIdx (groundAt l ws) l.length = (g : Int)) := c5
  have hgl : g < l.length := by have := (lastIdx_bd (groundAt l ws) l.length).2; unfold groundIdx at c5; omega
  have hgl' : (g : Int) < (l.length : Int) := by omega
  have hg0 : decide ((g : Int) < 0) = false := by simp
  obtain ⟨b3, off3, rfl, hb3, hcell3⟩ := hr3 (by omega)
  have hz0 := hcell3 g _ (ints_at' zs .i64 g (by rw [HLZ.out]; exact hgl))
  have hzb := hzok (zs.getD g 0) (getD_mem (by rw [HLZ.out]; exact hgl))
  obtain ⟨z1, z2⟩ := hzb
  generalize zs.getD g 0 = zg at *
  clear hcell3 hr3 c5 hzok
  have d6 : decide (ka - a - zg ≤ jump) = false := by simpa using c6
  clear c6
  generalize hT : threwOf l ws = T at *
  have HT := Lib.hid hT
  clear hT
  unfold rul frm
  go_enter Try.func69, Try.ntmps69
  go_wp2_with fail
  refine (baro_any _ _ _ l _ (((((BaroRow HLL.out).alloc (Nat.le_refl _) _).alloc (by simp) _).alloc (by simp only [World.size_alloc]; omega) _).more (by simp only [World.size_alloc]; omega))).mono ?_
  rintro e w1 ⟨rfl, hb1⟩
  rw [HK.out]
  obtain ⟨k1, k1'⟩ := bcell hb1
  have hz1 := hb1.size
  simp only [World.size_alloc] at hz1
  have HB1 := Lib.hid hb1
  clear hb1
  have HW1 : Below w.heap.size w w1 := (((((Below.refl w.heap.size w).alloc (Nat.le_refl _) _).alloc (by simp) _).alloc (by simp only [World.size_alloc]; omega) _).trans (HB1.out.mono (by simp only [World.size_alloc]; omega)))
  have h2' := (HW1.cell (p := ⟨b', off + k * 6 + 2, none⟩) hb').trans h2
  have h3' := (HW1.cell (p := ⟨b', off + k * 6 + 3, none⟩) hb').trans h3
  have HW1' := Lib.hid HW1
  clear HW1 h2 h3
  have w4 : IntKind.u32.wrap (time - tm) = (time - tm) % 4294967296 := IntKind.wrap_u32 _
  have w5 : IntKind.i64.wrap (ka - a) = ka - a := IntWalk.i64_in _ (by omega)
  go_wp2_with fail
  go_quiet (fail)
  go_wp2_with fail
  go_quiet (fail)
  clear w4 w5
  go_wp2_with fail
  refine (ground_any _ _ _ l ws _ ((((BaroRow HLL.out).below HW1'.out).more (by show w.heap.size ≤ w1.heap.size; omega)).drewN _) ((((WhatRow HLL.out).below HW1'.out).more (by show w.heap.size ≤ w1.heap.size; omega)).drewN _) HLW.out).mono ?_
  rintro e w2 ⟨rfl, hb2⟩
  rw [HG.out]
  have hy2 : w1.heap.size ≤ w2.heap.size := hb2.size
  have k2 : ∀ b o, b < w1.heap.size → w2.cell? ⟨b, o, none⟩ = w1.cell? ⟨b, o, none⟩ := fun b o h => hb2.cell (p := ⟨b, o, none⟩) h
  have HW2' := Lib.hid ((below_drewN HW1'.out _).trans (hb2.mono (B' := w.heap.size) (by show w.heap.size ≤ w1.heap.size; omega)))
  clear hb2
  have l2 : w2.cell? ⟨w.heap.size + 1, 2, none⟩ = some (.slice (some ⟨b3, off3, none⟩) l.length cc3) := (k2 _ _ (by omega)).trans ((k1 _ _ (by simp only [World.size_alloc]; omega)).trans (by go_simp))
  have r1 : w2.cell? ⟨w.heap.size, 1, none⟩ = some (.int .i64 jump) := (k2 _ _ (by omega)).trans ((k1 _ _ (by simp only [World.size_alloc]; omega)).trans (by go_simp))
  have r2 : w2.cell? ⟨w.heap.size, 2, none⟩ = some (.int .i64 throw) := (k2 _ _ (by omega)).trans ((k1 _ _ (by simp only [World.size_alloc]; omega)).trans (by go_simp))
  have l0 : w2.cell? ⟨w.heap.size + 1, 0, none⟩ = some (.slice (some ⟨b', off, none⟩) l.length cc) := (k2 _ _ (by omega)).trans ((k1 _ _ (by simp only [World.size_alloc]; omega)).trans (by go_simp))
  have l1 : w2.cell? ⟨w.heap.size + 1, 1, none⟩ = some vW := (k2 _ _ (by omega)).trans ((k1 _ _ (by simp only [World.size_alloc]; omega)).trans (by go_simp))
  have hz2 := (HW2'.out.cell (p := ⟨b3, off3 + g, none⟩) hb3).trans hz0
  have w6 : IntKind.i64.wrap (ka - a - zg) = ka - a - zg := IntWalk.i64_in _ (by omega)
  have w7 : IntKind.i64.wrap (zg - (ka - a)) = zg - (ka - a) := IntWalk.i64_in _ (by omega)
  go_wp2_with fail
  go_quiet (fail)
  clear w6 w7
  go_wp2_with fail
  go_region_held3 (fun w' => w'.cell? ⟨w.heap.size + 1, 0, none⟩ = some (.slice (some ⟨b', off, none⟩) l.length cc) ∧ w'.cell? ⟨w.heap.size + 1, 1, none⟩ = some vW ∧ w'.cell? ⟨w.heap.size + 1, 2, none⟩ = some (.slice (some ⟨b3, off3, none⟩) l.length cc3) ∧ w'.cell? ⟨w.heap.size, 2, none⟩ = some (.int .i64 throw))
    (first | exact ⟨l0, l1, l2, r2⟩ | exact ⟨t0, t1, t3, t2⟩ | go_keep)
    (first
      | (go_at_call 105
         refine (threw_any _ _ _ l ws _ ((((BaroRow HLL.out).below HW2'.out).more (by show w.heap.size ≤ w2.heap.size; omega)).drewN _) ((((WhatRow HLL.out).below HW2'.out).more (by show w.heap.size ≤ w2.heap.size; omega)).drewN _) HLW.out).mono ?_
         rintro e w3 ⟨rfl, hb3'⟩
         rw [HT.out]
         have t2 := (hb3'.cell (p := ⟨w.heap.size, 2, none⟩) (by show w.heap.size < w2.heap.size; omega)).trans r2
         have t0 := (hb3'.cell (p := ⟨w.heap.size + 1, 0, none⟩) (by show w.heap.size + 1 < w2.heap.size; omega)).trans l0
         have t1 := (hb3'.cell (p := ⟨w.heap.size + 1, 1, none⟩) (by show w.heap.size + 1 < w2.heap.size; omega)).trans l1
         have t3 := (hb3'.cell (p := ⟨w.heap.size + 1, 2, none⟩) (by show w.heap.size + 1 < w2.heap.size; omega)).trans l2
         have HW3' := Lib.hid ((below_drewN HW2'.out _).trans (hb3'.mono (B' := w.heap.size) (by show w.heap.size ≤ w2.heap.size; omega)))
         clear hb3'))
  all_goals go_wp2_with fail
  all_goals
    go_ret2
    first | exact ⟨rfl, HW3'.out⟩ | exact ⟨rfl, HW3'.out.drew⟩ | exact ⟨rfl, below_drewN HW3'.out _⟩

set_option maxHeartbeats 400000 in
theorem rradar_gn (age jump throw most : Int) (v : Value) (l : List Fr) (ws zs : List Int) (kind seq time a b c : Int) (w : World) (HL : Lists w w.heap.size v l ws zs) (hlok : ∀ f ∈ l, f.ok) (hzok : zsOk zs) (ha : -2147483648 ≤ a) (hb : a < 2147483648)
    (c1 : 0 ≤ a) (c2 : a ≤ most) (k : Nat) (c3 : baroIdx l = k) (c4 : (time - timeAt l k) % 4294967296 ≤ age) (g : Nat) (c5 : groundIdx l ws = g) (c6 : jump < aAt l k - a - zs.getD g 0) (c8 : throw ≤ threwOf l ws) :
    Calls Try.prog 69 #[rul age jump throw most, v, frm kind seq time a b c] w fun e w' => e = .returned (.tuple #[.int .i64 5, .int .i64 (aAt l k - a)]) ∧ Below w.heap.size w w' := by
  have HLL := Lib.hid HL
  obtain ⟨⟨vL, vW, vZ, rfl, ⟨A, cc, rfl, hc1, hc2, -, hr⟩, -, ⟨A3, cc3, rfl, hd1, hd2, -, hr3⟩⟩, hlw, hlz⟩ := HL
  have hlt : k < l.length := by have := (lastIdx_bd (fun k => kindAt l k == 3) l.length).2; unfold baroIdx at c3; omega
  have hf : l[k]? = some l[k] := List.getElem?_eq_getElem hlt
  obtain ⟨b', off, rfl, hb', hcell⟩ := hr (by omega)
  have h2 : w.cell? ⟨b', off + k * 6 + 2, none⟩ = some (.int .u32 l[k].time) := by rw [Nat.add_assoc]; exact hcell (k * 6 + 2) _ (encs_at l k 2 l[k] hf (by omega))
  have h3 : w.cell? ⟨b', off + k * 6 + 3, none⟩ = some (.int .i32 l[k].a) := by rw [Nat.add_assoc]; exact hcell (k * 6 + 3) _ (encs_at l k 3 l[k] hf (by omega))
  have hq := hlok l[k] (List.getElem_mem hlt)
  obtain ⟨-, -, -, -, q1, q2⟩ := hq
  have et : timeAt l k = l[k].time := by simp [timeAt, hf]
  have ea : aAt l k = l[k].a := by simp [aAt, hf]
  rw [et] at c4
  rw [ea] at c6 ⊢
  generalize l[k].time = tm at *
  generalize l[k].a = ka at *
  have hkl : (k : Int) < (l.length : Int) := by omega
  have hk0 : decide ((k : Int) < 0) = false := by simp
  have HK : Hid (lastIdx (fun k => kindAt l k == 3) l.length = (k : Int)) := c3
  have HLW := Lib.hid hlw
  have HLZ := Lib.hid hlz
  unfold maxLen at hc2 hd2
  clear hcell hf hr hlok et ea hlw hlz c3
  have HG : Hid (lastIdx (groundAt l ws) l.length = (g : Int)) := c5
  have hgl : g < l.length := by have := (lastIdx_bd (groundAt l ws) l.length).2; unfold groundIdx at c5; omega
  have hgl' : (g : Int) < (l.length : Int) := by omega
  have hg0 : decide ((g : Int) < 0) = false := by simp
  obtain ⟨b3, off3, rfl, hb3, hcell3⟩ := hr3 (by omega)
  have hz0 := hcell3 g _ (ints_at' zs .i64 g (by rw [HLZ.out]; exact hgl))
  have hzb := hzok (zs.getD g 0) (getD_mem (by rw [HLZ.out]; exact hgl))
  obtain ⟨z1, z2⟩ := hzb
  generalize zs.getD g 0 = zg at *
  clear hcell3 hr3 c5 hzok
  have d6 : decide (ka - a - zg ≤ jump) = false := by simpa using c6
  clear c6
  generalize hT : threwOf l ws = T at *
  have HT := Lib.hid hT
  clear hT
  unfold rul frm
  go_enter Try.func69, Try.ntmps69
  go_wp2_with fail
  refine (baro_any _ _ _ l _ (((((BaroRow HLL.out).alloc (Nat.le_refl _) _).alloc (by simp) _).alloc (by simp only [World.size_alloc]; omega) _).more (by simp only [World.size_alloc]; omega))).mono ?_
  rintro e w1 ⟨rfl, hb1⟩
  rw [HK.out]
  obtain ⟨k1, k1'⟩ := bcell hb1
  have hz1 := hb1.size
  simp only [World.size_alloc] at hz1
  have HB1 := Lib.hid hb1
  clear hb1
  have HW1 : Below w.heap.size w w1 := (((((Below.refl w.heap.size w).alloc (Nat.le_refl _) _).alloc (by simp) _).alloc (by simp only [World.size_alloc]; omega) _).trans (HB1.out.mono (by simp only [World.size_alloc]; omega)))
  have h2' := (HW1.cell (p := ⟨b', off + k * 6 + 2, none⟩) hb').trans h2
  have h3' := (HW1.cell (p := ⟨b', off + k * 6 + 3, none⟩) hb').trans h3
  have HW1' := Lib.hid HW1
  clear HW1 h2 h3
  have w4 : IntKind.u32.wrap (time - tm) = (time - tm) % 4294967296 := IntKind.wrap_u32 _
  have w5 : IntKind.i64.wrap (ka - a) = ka - a := IntWalk.i64_in _ (by omega)
  go_wp2_with fail
  go_quiet (fail)
  go_wp2_with fail
  go_quiet (fail)
  clear w4 w5
  go_wp2_with fail
  refine (ground_any _ _ _ l ws _ ((((BaroRow HLL.out).below HW1'.out).more (by show w.heap.size ≤ w1.heap.size; omega)).drewN _) ((((WhatRow HLL.out).below HW1'.out).more (by show w.heap.size ≤ w1.heap.size; omega)).drewN _) HLW.out).mono ?_
  rintro e w2 ⟨rfl, hb2⟩
  rw [HG.out]
  have hy2 : w1.heap.size ≤ w2.heap.size := hb2.size
  have k2 : ∀ b o, b < w1.heap.size → w2.cell? ⟨b, o, none⟩ = w1.cell? ⟨b, o, none⟩ := fun b o h => hb2.cell (p := ⟨b, o, none⟩) h
  have HW2' := Lib.hid ((below_drewN HW1'.out _).trans (hb2.mono (B' := w.heap.size) (by show w.heap.size ≤ w1.heap.size; omega)))
  clear hb2
  have l2 : w2.cell? ⟨w.heap.size + 1, 2, none⟩ = some (.slice (some ⟨b3, off3, none⟩) l.length cc3) := (k2 _ _ (by omega)).trans ((k1 _ _ (by simp only [World.size_alloc]; omega)).trans (by go_simp))
  have r1 : w2.cell? ⟨w.heap.size, 1, none⟩ = some (.int .i64 jump) := (k2 _ _ (by omega)).trans ((k1 _ _ (by simp only [World.size_alloc]; omega)).trans (by go_simp))
  have r2 : w2.cell? ⟨w.heap.size, 2, none⟩ = some (.int .i64 throw) := (k2 _ _ (by omega)).trans ((k1 _ _ (by simp only [World.size_alloc]; omega)).trans (by go_simp))
  have l0 : w2.cell? ⟨w.heap.size + 1, 0, none⟩ = some (.slice (some ⟨b', off, none⟩) l.length cc) := (k2 _ _ (by omega)).trans ((k1 _ _ (by simp only [World.size_alloc]; omega)).trans (by go_simp))
  have l1 : w2.cell? ⟨w.heap.size + 1, 1, none⟩ = some vW := (k2 _ _ (by omega)).trans ((k1 _ _ (by simp only [World.size_alloc]; omega)).trans (by go_simp))
  have hz2 := (HW2'.out.cell (p := ⟨b3, off3 + g, none⟩) hb3).trans hz0
  have w6 : IntKind.i64.wrap (ka - a - zg) = ka - a - zg := IntWalk.i64_in _ (by omega)
  have w7 : IntKind.i64.wrap (zg - (ka - a)) = zg - (ka - a) := IntWalk.i64_in _ (by omega)
  go_wp2_with fail
  go_quiet (fail)
  clear w6 w7
  go_wp2_with fail
  go_region_held3 (fun w' => w'.cell? ⟨w.heap.size + 1, 0, none⟩ = some (.slice (some ⟨b', off, none⟩) l.length cc) ∧ w'.cell? ⟨w.heap.size + 1, 1, none⟩ = some vW ∧ w'.cell? ⟨w.heap.size + 1, 2, none⟩ = some (.slice (some ⟨b3, off3, none⟩) l.length cc3) ∧ w'.cell? ⟨w.heap.size, 2, none⟩ = some (.int .i64 throw))
    (first | exact ⟨l0, l1, l2, r2⟩ | exact ⟨t0, t1, t3, t2⟩ | go_keep)
    (first
      | (go_at_call 105
         refine (threw_any _ _ _ l ws _ ((((BaroRow HLL.out).below HW2'.out).more (by show w.heap.size ≤ w2.heap.size; omega)).drewN _) ((((WhatRow HLL.out).below HW2'.out).more (by show w.heap.size ≤ w2.heap.size; omega)).drewN _) HLW.out).mono ?_
         rintro e w3 ⟨rfl, hb3'⟩
         rw [HT.out]
         have t2 := (hb3'.cell (p := ⟨w.heap.size, 2, none⟩) (by show w.heap.size < w2.heap.size; omega)).trans r2
         have t0 := (hb3'.cell (p := ⟨w.heap.size + 1, 0, none⟩) (by show w.heap.size + 1 < w2.heap.size; omega)).trans l0
         have t1 := (hb3'.cell (p := ⟨w.heap.size + 1, 1, none⟩) (by show w.heap.size + 1 < w2.heap.size; omega)).trans l1
         have t3 := (hb3'.cell (p := ⟨w.heap.size + 1, 2, none⟩) (by show w.heap.size + 1 < w2.heap.size; omega)).trans l2
         have HW3' := Lib.hid ((below_drewN HW2'.out _).trans (hb3'.mono (B' := w.heap.size) (by show w.heap.size ≤ w2.heap.size; omega)))
         clear hb3'))
  all_goals go_wp2_with fail
  all_goals
    go_ret2
    first | exact ⟨rfl, HW3'.out⟩ | exact ⟨rfl, HW3'.out.drew⟩ | exact ⟨rfl, below_drewN HW3'.out _⟩

set_option maxHeartbeats 400000 in
theorem rradar_hy (age jump throw most : Int) (v : Value) (l : List Fr) (ws zs : List Int) (kind seq time a b c : Int) (w : World) (HL : Lists w w.heap.size v l ws zs) (hlok : ∀ f ∈ l, f.ok) (hzok : zsOk zs) (ha : -2147483648 ≤ a) (hb : a < 2147483648)
    (c1 : 0 ≤ a) (c2 : a ≤ most) (k : Nat) (c3 : baroIdx l = k) (c4 : (time - timeAt l k) % 4294967296 ≤ age) (g : Nat) (c5 : groundIdx l ws = g) (c6 : aAt l k - a - zs.getD g 0 ≤ jump) (c7 : jump < zs.getD g 0 - (aAt l k - a)) (c8 : threwOf l ws < throw) :
    Calls Try.prog 69 #[rul age jump throw most, v, frm kind seq time a b c] w fun e w' => e = .returned (.tuple #[.int .i64 4, .int .i64 0]) ∧ Below w.heap.size w w' := by
  have HLL := Lib.hid HL
  obtain ⟨⟨vL, vW, vZ, rfl, ⟨A, cc, rfl, hc1, hc2, -, hr⟩, -, ⟨A3, cc3, rfl, hd1, hd2, -, hr3⟩⟩, hlw, hlz⟩ := HL
  have hlt : k < l.length := by have := (lastIdx_bd (fun k => kindAt l k == 3) l.length).2; unfold baroIdx at c3; omega
  have hf : l[k]? = some l[k] := List.getElem?_eq_getElem hlt
  obtain ⟨b', off, rfl, hb', hcell⟩ := hr (by omega)
  have h2 : w.cell? ⟨b', off + k * 6 + 2, none⟩ = some (.int .u32 l[k].time) := by rw [Nat.add_assoc]; exact hcell (k * 6 + 2) _ (encs_at l k 2 l[k] hf (by omega))
  have h3 : w.cell? ⟨b', off + k * 6 + 3, none⟩ = some (.int .i32 l[k].a) := by rw [Nat.add_assoc]; exact hcell (k * 6 + 3) _ (encs_at l k 3 l[k] hf (by omega))
  have hq := hlok l[k] (List.getElem_mem hlt)
  obtain ⟨-, -, -, -, q1, q2⟩ := hq
  have et : timeAt l k = l[k].time := by simp [timeAt, hf]
  have ea : aAt l k = l[k].a := by simp [aAt, hf]
  rw [et] at c4
  rw [ea] at c6 c7
  generalize l[k].time = tm at *
  generalize l[k].a = ka at *
  have hkl : (k : Int) < (l.length : Int) := by omega
  have hk0 : decide ((k : Int) < 0) = false := by simp
  have HK : Hid (lastIdx (fun k => kindAt l k == 3) l.length = (k : Int)) := c3
  have HLW := Lib.hid hlw
  have HLZ := Lib.hid hlz
  unfold maxLen at hc2 hd2
  clear hcell hf hr hlok et ea hlw hlz c3
  have HG : Hid (lastIdx (groundAt l ws) l.length = (g : Int)) := c5
  have hgl : g < l.length := by have := (lastIdx_bd (groundAt l ws) l.length).2; unfold groundIdx at c5; omega
  have hgl' : (g : Int) < (l.length : Int) := by omega
  have hg0 : decide ((g : Int) < 0) = false := by simp
  obtain ⟨b3, off3, rfl, hb3, hcell3⟩ := hr3 (by omega)
  have hz0 := hcell3 g _ (ints_at' zs .i64 g (by rw [HLZ.out]; exact hgl))
  have hzb := hzok (zs.getD g 0) (getD_mem (by rw [HLZ.out]; exact hgl))
  obtain ⟨z1, z2⟩ := hzb
  generalize zs.getD g 0 = zg at *
  clear hcell3 hr3 c5 hzok
  have d6 : decide (ka - a - zg ≤ jump) = true := by simpa using c6
  have d7 : decide (zg - (ka - a) ≤ jump) = false := by simpa using c7
  clear c7
  generalize hT : threwOf l ws = T at *
  have HT := Lib.hid hT
  clear hT
  unfold rul frm
  go_enter Try.func69, Try.ntmps69
  go_wp2_with fail
  refine (baro_any _ _ _ l _ (((((BaroRow HLL.out).alloc (Nat.le_refl _) _).alloc (by simp) _).alloc (by simp only [World.size_alloc]; omega) _).more (by simp only [World.size_alloc]; omega))).mono ?_
  rintro e w1 ⟨rfl, hb1⟩
  rw [HK.out]
  obtain ⟨k1, k1'⟩ := bcell hb1
  have hz1 := hb1.size
  simp only [World.size_alloc] at hz1
  have HB1 := Lib.hid hb1
  clear hb1
  have HW1 : Below w.heap.size w w1 := (((((Below.refl w.heap.size w).alloc (Nat.le_refl _) _).alloc (by simp) _).alloc (by simp only [World.size_alloc]; omega) _).trans (HB1.out.mono (by simp only [World.size_alloc]; omega)))
  have h2' := (HW1.cell (p := ⟨b', off + k * 6 + 2, none⟩) hb').trans h2
  have h3' := (HW1.cell (p := ⟨b', off + k * 6 + 3, none⟩) hb').trans h3
  have HW1' := Lib.hid HW1
  clear HW1 h2 h3
  have w4 : IntKind.u32.wrap (time - tm) = (time - tm) % 4294967296 := IntKind.wrap_u32 _
  have w5 : IntKind.i64.wrap (ka - a) = ka - a := IntWalk.i64_in _ (by omega)
  go_wp2_with fail
  go_quiet (fail)
  go_wp2_with fail
  go_quiet (fail)
  clear w4 w5
  go_wp2_with fail
  refine (ground_any _ _ _ l ws _ ((((BaroRow HLL.out).below HW1'.out).more (by show w.heap.size ≤ w1.heap.size; omega)).drewN _) ((((WhatRow HLL.out).below HW1'.out).more (by show w.heap.size ≤ w1.heap.size; omega)).drewN _) HLW.out).mono ?_
  rintro e w2 ⟨rfl, hb2⟩
  rw [HG.out]
  have hy2 : w1.heap.size ≤ w2.heap.size := hb2.size
  have k2 : ∀ b o, b < w1.heap.size → w2.cell? ⟨b, o, none⟩ = w1.cell? ⟨b, o, none⟩ := fun b o h => hb2.cell (p := ⟨b, o, none⟩) h
  have HW2' := Lib.hid ((below_drewN HW1'.out _).trans (hb2.mono (B' := w.heap.size) (by show w.heap.size ≤ w1.heap.size; omega)))
  clear hb2
  have l2 : w2.cell? ⟨w.heap.size + 1, 2, none⟩ = some (.slice (some ⟨b3, off3, none⟩) l.length cc3) := (k2 _ _ (by omega)).trans ((k1 _ _ (by simp only [World.size_alloc]; omega)).trans (by go_simp))
  have r1 : w2.cell? ⟨w.heap.size, 1, none⟩ = some (.int .i64 jump) := (k2 _ _ (by omega)).trans ((k1 _ _ (by simp only [World.size_alloc]; omega)).trans (by go_simp))
  have r2 : w2.cell? ⟨w.heap.size, 2, none⟩ = some (.int .i64 throw) := (k2 _ _ (by omega)).trans ((k1 _ _ (by simp only [World.size_alloc]; omega)).trans (by go_simp))
  have l0 : w2.cell? ⟨w.heap.size + 1, 0, none⟩ = some (.slice (some ⟨b', off, none⟩) l.length cc) := (k2 _ _ (by omega)).trans ((k1 _ _ (by simp only [World.size_alloc]; omega)).trans (by go_simp))
  have l1 : w2.cell? ⟨w.heap.size + 1, 1, none⟩ = some vW := (k2 _ _ (by omega)).trans ((k1 _ _ (by simp only [World.size_alloc]; omega)).trans (by go_simp))
  have hz2 := (HW2'.out.cell (p := ⟨b3, off3 + g, none⟩) hb3).trans hz0
  have w6 : IntKind.i64.wrap (ka - a - zg) = ka - a - zg := IntWalk.i64_in _ (by omega)
  have w7 : IntKind.i64.wrap (zg - (ka - a)) = zg - (ka - a) := IntWalk.i64_in _ (by omega)
  go_wp2_with fail
  go_quiet (fail)
  clear w6 w7
  go_wp2_with fail
  go_region_held3 (fun w' => w'.cell? ⟨w.heap.size + 1, 0, none⟩ = some (.slice (some ⟨b', off, none⟩) l.length cc) ∧ w'.cell? ⟨w.heap.size + 1, 1, none⟩ = some vW ∧ w'.cell? ⟨w.heap.size + 1, 2, none⟩ = some (.slice (some ⟨b3, off3, none⟩) l.length cc3) ∧ w'.cell? ⟨w.heap.size, 2, none⟩ = some (.int .i64 throw))
    (first | exact ⟨l0, l1, l2, r2⟩ | exact ⟨t0, t1, t3, t2⟩ | go_keep)
    (first
      | (go_at_call 105
         refine (threw_any _ _ _ l ws _ ((((BaroRow HLL.out).below HW2'.out).more (by show w.heap.size ≤ w2.heap.size; omega)).drewN _) ((((WhatRow HLL.out).below HW2'.out).more (by show w.heap.size ≤ w2.heap.size; omega)).drewN _) HLW.out).mono ?_
         rintro e w3 ⟨rfl, hb3'⟩
         rw [HT.out]
         have t2 := (hb3'.cell (p := ⟨w.heap.size, 2, none⟩) (by show w.heap.size < w2.heap.size; omega)).trans r2
         have t0 := (hb3'.cell (p := ⟨w.heap.size + 1, 0, none⟩) (by show w.heap.size + 1 < w2.heap.size; omega)).trans l0
         have t1 := (hb3'.cell (p := ⟨w.heap.size + 1, 1, none⟩) (by show w.heap.size + 1 < w2.heap.size; omega)).trans l1
         have t3 := (hb3'.cell (p := ⟨w.heap.size + 1, 2, none⟩) (by show w.heap.size + 1 < w2.heap.size; omega)).trans l2
         have HW3' := Lib.hid ((below_drewN HW2'.out _).trans (hb3'.mono (B' := w.heap.size) (by show w.heap.size ≤ w2.heap.size; omega)))
         clear hb3'))
  all_goals go_wp2_with fail
  all_goals
    go_ret2
    first | exact ⟨rfl, HW3'.out⟩ | exact ⟨rfl, HW3'.out.drew⟩ | exact ⟨rfl, below_drewN HW3'.out _⟩

set_option maxHeartbeats 400000 in
theorem rradar_hn (age jump throw most : Int) (v : Value) (l : List Fr) (ws zs : List Int) (kind seq time a b c : Int) (w : World) (HL : Lists w w.heap.size v l ws zs) (hlok : ∀ f ∈ l, f.ok) (hzok : zsOk zs) (ha : -2147483648 ≤ a) (hb : a < 2147483648)
    (c1 : 0 ≤ a) (c2 : a ≤ most) (k : Nat) (c3 : baroIdx l = k) (c4 : (time - timeAt l k) % 4294967296 ≤ age) (g : Nat) (c5 : groundIdx l ws = g) (c6 : aAt l k - a - zs.getD g 0 ≤ jump) (c7 : jump < zs.getD g 0 - (aAt l k - a)) (c8 : throw ≤ threwOf l ws) :
    Calls Try.prog 69 #[rul age jump throw most, v, frm kind seq time a b c] w fun e w' => e = .returned (.tuple #[.int .i64 5, .int .i64 (aAt l k - a)]) ∧ Below w.heap.size w w' := by
  have HLL := Lib.hid HL
  obtain ⟨⟨vL, vW, vZ, rfl, ⟨A, cc, rfl, hc1, hc2, -, hr⟩, -, ⟨A3, cc3, rfl, hd1, hd2, -, hr3⟩⟩, hlw, hlz⟩ := HL
  have hlt : k < l.length := by have := (lastIdx_bd (fun k => kindAt l k == 3) l.length).2; unfold baroIdx at c3; omega
  have hf : l[k]? = some l[k] := List.getElem?_eq_getElem hlt
  obtain ⟨b', off, rfl, hb', hcell⟩ := hr (by omega)
  have h2 : w.cell? ⟨b', off + k * 6 + 2, none⟩ = some (.int .u32 l[k].time) := by rw [Nat.add_assoc]; exact hcell (k * 6 + 2) _ (encs_at l k 2 l[k] hf (by omega))
  have h3 : w.cell? ⟨b', off + k * 6 + 3, none⟩ = some (.int .i32 l[k].a) := by rw [Nat.add_assoc]; exact hcell (k * 6 + 3) _ (encs_at l k 3 l[k] hf (by omega))
  have hq := hlok l[k] (List.getElem_mem hlt)
  obtain ⟨-, -, -, -, q1, q2⟩ := hq
  have et : timeAt l k = l[k].time := by simp [timeAt, hf]
  have ea : aAt l k = l[k].a := by simp [aAt, hf]
  rw [et] at c4
  rw [ea] at c6 c7 ⊢
  generalize l[k].time = tm at *
  generalize l[k].a = ka at *
  have hkl : (k : Int) < (l.length : Int) := by omega
  have hk0 : decide ((k : Int) < 0) = false := by simp
  have HK : Hid (lastIdx (fun k => kindAt l k == 3) l.length = (k : Int)) := c3
  have HLW := Lib.hid hlw
  have HLZ := Lib.hid hlz
  unfold maxLen at hc2 hd2
  clear hcell hf hr hlok et ea hlw hlz c3
  have HG : Hid (lastIdx (groundAt l ws) l.length = (g : Int)) := c5
  have hgl : g < l.length := by have := (lastIdx_bd (groundAt l ws) l.length).2; unfold groundIdx at c5; omega
  have hgl' : (g : Int) < (l.length : Int) := by omega
  have hg0 : decide ((g : Int) < 0) = false := by simp
  obtain ⟨b3, off3, rfl, hb3, hcell3⟩ := hr3 (by omega)
  have hz0 := hcell3 g _ (ints_at' zs .i64 g (by rw [HLZ.out]; exact hgl))
  have hzb := hzok (zs.getD g 0) (getD_mem (by rw [HLZ.out]; exact hgl))
  obtain ⟨z1, z2⟩ := hzb
  generalize zs.getD g 0 = zg at *
  clear hcell3 hr3 c5 hzok
  have d6 : decide (ka - a - zg ≤ jump) = true := by simpa using c6
  have d7 : decide (zg - (ka - a) ≤ jump) = false := by simpa using c7
  clear c7
  generalize hT : threwOf l ws = T at *
  have HT := Lib.hid hT
  clear hT
  unfold rul frm
  go_enter Try.func69, Try.ntmps69
  go_wp2_with fail
  refine (baro_any _ _ _ l _ (((((BaroRow HLL.out).alloc (Nat.le_refl _) _).alloc (by simp) _).alloc (by simp only [World.size_alloc]; omega) _).more (by simp only [World.size_alloc]; omega))).mono ?_
  rintro e w1 ⟨rfl, hb1⟩
  rw [HK.out]
  obtain ⟨k1, k1'⟩ := bcell hb1
  have hz1 := hb1.size
  simp only [World.size_alloc] at hz1
  have HB1 := Lib.hid hb1
  clear hb1
  have HW1 : Below w.heap.size w w1 := (((((Below.refl w.heap.size w).alloc (Nat.le_refl _) _).alloc (by simp) _).alloc (by simp only [World.size_alloc]; omega) _).trans (HB1.out.mono (by simp only [World.size_alloc]; omega)))
  have h2' := (HW1.cell (p := ⟨b', off + k * 6 + 2, none⟩) hb').trans h2
  have h3' := (HW1.cell (p := ⟨b', off + k * 6 + 3, none⟩) hb').trans h3
  have HW1' := Lib.hid HW1
  clear HW1 h2 h3
  have w4 : IntKind.u32.wrap (time - tm) = (time - tm) % 4294967296 := IntKind.wrap_u32 _
  have w5 : IntKind.i64.wrap (ka - a) = ka - a := IntWalk.i64_in _ (by omega)
  go_wp2_with fail
  go_quiet (fail)
  go_wp2_with fail
  go_quiet (fail)
  clear w4 w5
  go_wp2_with fail
  refine (ground_any _ _ _ l ws _ ((((BaroRow HLL.out).below HW1'.out).more (by show w.heap.size ≤ w1.heap.size; omega)).drewN _) ((((WhatRow HLL.out).below HW1'.out).more (by show w.heap.size ≤ w1.heap.size; omega)).drewN _) HLW.out).mono ?_
  rintro e w2 ⟨rfl, hb2⟩
  rw [HG.out]
  have hy2 : w1.heap.size ≤ w2.heap.size := hb2.size
  have k2 : ∀ b o, b < w1.heap.size → w2.cell? ⟨b, o, none⟩ = w1.cell? ⟨b, o, none⟩ := fun b o h => hb2.cell (p := ⟨b, o, none⟩) h
  have HW2' := Lib.hid ((below_drewN HW1'.out _).trans (hb2.mono (B' := w.heap.size) (by show w.heap.size ≤ w1.heap.size; omega)))
  clear hb2
  have l2 : w2.cell? ⟨w.heap.size + 1, 2, none⟩ = some (.slice (some ⟨b3, off3, none⟩) l.length cc3) := (k2 _ _ (by omega)).trans ((k1 _ _ (by simp only [World.size_alloc]; omega)).trans (by go_simp))
  have r1 : w2.cell? ⟨w.heap.size, 1, none⟩ = some (.int .i64 jump) := (k2 _ _ (by omega)).trans ((k1 _ _ (by simp only [World.size_alloc]; omega)).trans (by go_simp))
  have r2 : w2.cell? ⟨w.heap.size, 2, none⟩ = some (.int .i64 throw) := (k2 _ _ (by omega)).trans ((k1 _ _ (by simp only [World.size_alloc]; omega)).trans (by go_simp))
  have l0 : w2.cell? ⟨w.heap.size + 1, 0, none⟩ = some (.slice (some ⟨b', off, none⟩) l.length cc) := (k2 _ _ (by omega)).trans ((k1 _ _ (by simp only [World.size_alloc]; omega)).trans (by go_simp))
  have l1 : w2.cell? ⟨w.heap.size + 1, 1, none⟩ = some vW := (k2 _ _ (by omega)).trans ((k1 _ _ (by simp only [World.size_alloc]; omega)).trans (by go_simp))
  have hz2 := (HW2'.out.cell (p := ⟨b3, off3 + g, none⟩) hb3).trans hz0
  have w6 : IntKind.i64.wrap (ka - a - zg) = ka - a - zg := IntWalk.i64_in _ (by omega)
  have w7 : IntKind.i64.wrap (zg - (ka - a)) = zg - (ka - a) := IntWalk.i64_in _ (by omega)
  go_wp2_with fail
  go_quiet (fail)
  clear w6 w7
  go_wp2_with fail
  go_region_held3 (fun w' => w'.cell? ⟨w.heap.size + 1, 0, none⟩ = some (.slice (some ⟨b', off, none⟩) l.length cc) ∧ w'.cell? ⟨w.heap.size + 1, 1, none⟩ = some vW ∧ w'.cell? ⟨w.heap.size + 1, 2, none⟩ = some (.slice (some ⟨b3, off3, none⟩) l.length cc3) ∧ w'.cell? ⟨w.heap.size, 2, none⟩ = some (.int .i64 throw))
    (first | exact ⟨l0, l1, l2, r2⟩ | exact ⟨t0, t1, t3, t2⟩ | go_keep)
    (first
      | (go_at_call 105
         refine (threw_any _ _ _ l ws _ ((((BaroRow HLL.out).below HW2'.out).more (by show w.heap.size ≤ w2.heap.size; omega)).drewN _) ((((WhatRow HLL.out).below HW2'.out).more (by show w.heap.size ≤ w2.heap.size; omega)).drewN _) HLW.out).mono ?_
         rintro e w3 ⟨rfl, hb3'⟩
         rw [HT.out]
         have t2 := (hb3'.cell (p := ⟨w.heap.size, 2, none⟩) (by show w.heap.size < w2.heap.size; omega)).trans r2
         have t0 := (hb3'.cell (p := ⟨w.heap.size + 1, 0, none⟩) (by show w.heap.size + 1 < w2.heap.size; omega)).trans l0
         have t1 := (hb3'.cell (p := ⟨w.heap.size + 1, 1, none⟩) (by show w.heap.size + 1 < w2.heap.size; omega)).trans l1
         have t3 := (hb3'.cell (p := ⟨w.heap.size + 1, 2, none⟩) (by show w.heap.size + 1 < w2.heap.size; omega)).trans l2
         have HW3' := Lib.hid ((below_drewN HW2'.out _).trans (hb3'.mono (B' := w.heap.size) (by show w.heap.size ≤ w2.heap.size; omega)))
         clear hb3'))
  all_goals go_wp2_with fail
  all_goals
    go_ret2
    first | exact ⟨rfl, HW3'.out⟩ | exact ⟨rfl, HW3'.out.drew⟩ | exact ⟨rfl, below_drewN HW3'.out _⟩

end Go.Proofs.Ytokoopdkofgabaa
