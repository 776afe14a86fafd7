/- Walks of the reference of layer 23: radar, one theorem for each way through it. -/
import Derived.Test.YtokoopdkofgabaaRef23B
namespace Go.Proofs.Ytokoopdkofgabaa
open Go.RowKit

def aAt (l : List Fr) (k : Nat) : Int := (l[k]?.map Fr.a).getD 0
def baroIdx (l : List Fr) : Int := lastIdx (fun k => kindAt l k == 3) l.length
def groundIdx (l : List Fr) (ws : List Int) : Int := lastIdx (groundAt l ws) l.length

/-- Grounds in bounds. -/
def zsOk (zs : List Int) : Prop := ∀ z ∈ zs, -4294967296 ≤ z ∧ z ≤ 4294967296

set_option maxHeartbeats 400000 in
theorem rradar_a (age jump throw most : Int) (v : Value) (l : List Fr) (ws zs : List Int) (kind seq time a b c : Int) (w : World) (HL : Lists w w.heap.size v l ws zs) (hlok : ∀ f ∈ l, f.ok) (hzok : zsOk zs) (ha : -2147483648 ≤ a) (hb : a < 2147483648)
    (c1 : a < 0) :
    Calls Try.prog 69 #[rul age jump throw most, v, frm kind seq time a b c] w fun e w' => e = .returned (.tuple #[.int .i64 2, .int .i64 0]) ∧ Below w.heap.size w w' := by
  have HLL := Lib.hid HL
  obtain ⟨⟨vL, vW, vZ, rfl, ⟨A, cc, rfl, hc1, hc2, -, hr⟩, -, ⟨A3, cc3, rfl, hd1, hd2, -, hr3⟩⟩, hlw, hlz⟩ := HL
  clear hr hr3 hlw hlz
  unfold rul frm
  go_enter Try.func69, Try.ntmps69
  go_wp2
  go_ret2
  exact ⟨rfl, ((((Below.refl w.heap.size w).alloc (Nat.le_refl _) _).alloc (by simp) _).alloc (by simp only [World.size_alloc]; omega) _)⟩

set_option maxHeartbeats 400000 in
theorem rradar_b (age jump throw most : Int) (v : Value) (l : List Fr) (ws zs : List Int) (kind seq time a b c : Int) (w : World) (HL : Lists w w.heap.size v l ws zs) (hlok : ∀ f ∈ l, f.ok) (hzok : zsOk zs) (ha : -2147483648 ≤ a) (hb : a < 2147483648)
    (c1 : 0 ≤ a) (c2 : most < a) :
    Calls Try.prog 69 #[rul age jump throw most, v, frm kind seq time a b c] w fun e w' => e = .returned (.tuple #[.int .i64 2, .int .i64 0]) ∧ Below w.heap.size w w' := by
  have HLL := Lib.hid HL
  obtain ⟨⟨vL, vW, vZ, rfl, ⟨A, cc, rfl, hc1, hc2, -, hr⟩, -, ⟨A3, cc3, rfl, hd1, hd2, -, hr3⟩⟩, hlw, hlz⟩ := HL
  clear hr hr3 hlw hlz
  unfold rul frm
  go_enter Try.func69, Try.ntmps69
  go_wp2
  go_ret2
  exact ⟨rfl, ((((Below.refl w.heap.size w).alloc (Nat.le_refl _) _).alloc (by simp) _).alloc (by simp only [World.size_alloc]; omega) _)⟩

theorem BaroRow {w : World} {B : Nat} {l : List Fr} {ws zs : List Int} {vL vW vZ : Value} (h : Lists w B (.agg #[vL, vW, vZ]) l ws zs) : Row w B 6 vL l.length (encs l) := by
  obtain ⟨⟨a, b, c, he, h1, _, _⟩, _, _⟩ := h
  simp at he
  obtain ⟨rfl, rfl, rfl⟩ := he
  exact h1
theorem WhatRow {w : World} {B : Nat} {l : List Fr} {ws zs : List Int} {vL vW vZ : Value} (h : Lists w B (.agg #[vL, vW, vZ]) l ws zs) : Row w B 1 vW l.length (ws.map (.int .i64)) := by
  obtain ⟨⟨a, b, c, he, _, h1, _⟩, _, _⟩ := h
  simp at he
  obtain ⟨rfl, rfl, rfl⟩ := he
  exact h1

set_option maxHeartbeats 400000 in
theorem rradar_c (age jump throw most : Int) (v : Value) (l : List Fr) (ws zs : List Int) (kind seq time a b c : Int) (w : World) (HL : Lists w w.heap.size v l ws zs) (hlok : ∀ f ∈ l, f.ok) (hzok : zsOk zs) (ha : -2147483648 ≤ a) (hb : a < 2147483648)
    (c1 : 0 ≤ a) (c2 : a ≤ most) (c3 : baroIdx l = -1) :
    Calls Try.prog 69 #[rul age jump throw most, v, frm kind seq time a b c] w fun e w' => e = .returned (.tuple #[.int .i64 3, .int .i64 0]) ∧ Below w.heap.size w w' := by
  have HLL := Lib.hid HL
  obtain ⟨⟨vL, vW, vZ, rfl, ⟨A, cc, rfl, hc1, hc2, -, hr⟩, -, ⟨A3, cc3, rfl, hd1, hd2, -, hr3⟩⟩, hlw, hlz⟩ := HL
  have HK : Hid (lastIdx (fun k => kindAt l k == 3) l.length = -1) := c3
  clear hr hr3 hlw hlz c3
  unfold rul frm
  go_enter Try.func69, Try.ntmps69
  go_wp2_with fail
  refine (baro_any _ _ _ l _ (((((BaroRow HLL.out).alloc (Nat.le_refl _) _).alloc (by simp) _).alloc (by simp only [World.size_alloc]; omega) _).more (by simp only [World.size_alloc]; omega))).mono ?_
  rintro e w1 ⟨rfl, hb1⟩
  rw [HK.out]
  obtain ⟨k1, k1'⟩ := bcell hb1
  have hz1 := hb1.size
  simp only [World.size_alloc] at hz1
  have HB1 := Lib.hid hb1
  clear hb1
  go_wp2_with fail
  go_quiet (fail)
  go_wp2_with fail
  go_ret2
  exact ⟨rfl, below_drewN (((((Below.refl w.heap.size w).alloc (Nat.le_refl _) _).alloc (by simp) _).alloc (by simp only [World.size_alloc]; omega) _).trans (HB1.out.mono (by simp only [World.size_alloc]; omega))) _⟩

set_option maxHeartbeats 400000 in
theorem rradar_d (age jump throw most : Int) (v : Value) (l : List Fr) (ws zs : List Int) (kind seq time a b c : Int) (w : World) (HL : Lists w w.heap.size v l ws zs) (hlok : ∀ f ∈ l, f.ok) (hzok : zsOk zs) (ha : -2147483648 ≤ a) (hb : a < 2147483648)
    (c1 : 0 ≤ a) (c2 : a ≤ most) (k : Nat) (c3 : baroIdx l = k) (c4 : age < (time - timeAt l k) % 4294967296) :
    Calls Try.prog 69 #[rul age jump throw most, v, frm kind seq time a b c] w fun e w' => e = .returned (.tuple #[.int .i64 3, .int .i64 0]) ∧ Below w.heap.size w w' := by
  have HLL := Lib.hid HL
  obtain ⟨⟨vL, vW, vZ, rfl, ⟨A, cc, rfl, hc1, hc2, -, hr⟩, -, ⟨A3, cc3, rfl, hd1, hd2, -, hr3⟩⟩, hlw, hlz⟩ := HL
  have hlt : k < l.length := by have := (lastIdx_bd (fun k => kindAt l k == 3) l.length).2; unfold baroIdx at c3; omega
  have hf : l[k]? = some l[k] := List.getElem?_eq_getElem hlt
  obtain ⟨b', off, rfl, hb', hcell⟩ := hr (by omega)
  have h2 : w.cell? ⟨b', off + k * 6 + 2, none⟩ = some (.int .u32 l[k].time) := by rw [Nat.add_assoc]; exact hcell (k * 6 + 2) _ (encs_at l k 2 l[k] hf (by omega))
  have h3 : w.cell? ⟨b', off + k * 6 + 3, none⟩ = some (.int .i32 l[k].a) := by rw [Nat.add_assoc]; exact hcell (k * 6 + 3) _ (encs_at l k 3 l[k] hf (by omega))
  have hq := hlok l[k] (List.getElem_mem hlt)
  obtain ⟨-, -, -, -, q1, q2⟩ := hq
  have et : timeAt l k = l[k].time := by simp [timeAt, hf]
  have ea : aAt l k = l[k].a := by simp [aAt, hf]
  rw [et] at c4
  skip
  generalize l[k].time = tm at *
  generalize l[k].a = ka at *
  have hkl : (k : Int) < (l.length : Int) := by omega
  have hk0 : decide ((k : Int) < 0) = false := by simp
  have HK : Hid (lastIdx (fun k => kindAt l k == 3) l.length = (k : Int)) := c3
  have HLW := Lib.hid hlw
  have HLZ := Lib.hid hlz
  unfold maxLen at hc2 hd2
  clear hcell hf hr hlok et ea hlw hlz c3
  clear hr3
  unfold rul frm
  go_enter Try.func69, Try.ntmps69
  go_wp2_with fail
  refine (baro_any _ _ _ l _ (((((BaroRow HLL.out).alloc (Nat.le_refl _) _).alloc (by simp) _).alloc (by simp only [World.size_alloc]; omega) _).more (by simp only [World.size_alloc]; omega))).mono ?_
  rintro e w1 ⟨rfl, hb1⟩
  rw [HK.out]
  obtain ⟨k1, k1'⟩ := bcell hb1
  have hz1 := hb1.size
  simp only [World.size_alloc] at hz1
  have HB1 := Lib.hid hb1
  clear hb1
  have HW1 : Below w.heap.size w w1 := (((((Below.refl w.heap.size w).alloc (Nat.le_refl _) _).alloc (by simp) _).alloc (by simp only [World.size_alloc]; omega) _).trans (HB1.out.mono (by simp only [World.size_alloc]; omega)))
  have h2' := (HW1.cell (p := ⟨b', off + k * 6 + 2, none⟩) hb').trans h2
  have h3' := (HW1.cell (p := ⟨b', off + k * 6 + 3, none⟩) hb').trans h3
  have HW1' := Lib.hid HW1
  clear HW1 h2 h3
  have w4 : IntKind.u32.wrap (time - tm) = (time - tm) % 4294967296 := IntKind.wrap_u32 _
  go_wp2_with fail
  go_quiet (fail)
  clear w4
  go_wp2_with fail
  go_ret2
  exact ⟨rfl, below_drewN HW1'.out _⟩

end Go.Proofs.Ytokoopdkofgabaa
