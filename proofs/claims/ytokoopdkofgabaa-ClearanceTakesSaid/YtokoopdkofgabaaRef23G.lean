/- The reference's radar put together; its Take, what is in order. -/
import Derived.Test.YtokoopdkofgabaaStg23
import Derived.Deep.DeepMust
namespace Go.Proofs.Ytokoopdkofgabaa
open Go.RowKit

def refRadar (jump throw most age : Int) (l : List Fr) (ws zs : List Int) (time a : Int) : Int × Int :=
  if a < 0 ∨ most < a then (2, 0)
  else if baroIdx l < 0 ∨ age < (time - timeAt l (baroIdx l).toNat) % 4294967296 then (3, 0)
  else if groundIdx l ws < 0 ∨ (aAt l (baroIdx l).toNat - a - zs.getD (groundIdx l ws).toNat 0 ≤ jump ∧ zs.getD (groundIdx l ws).toNat 0 - (aAt l (baroIdx l).toNat - a) ≤ jump) then (0, aAt l (baroIdx l).toNat - a)
  else if threwOf l ws < throw then (4, 0) else (5, aAt l (baroIdx l).toNat - a)

theorem rradar_any (age jump throw most : Int) (v : Value) (l : List Fr) (ws zs : List Int) (kind seq time a b c : Int) (w : World) (HL : Lists w w.heap.size v l ws zs) (hlok : ∀ f ∈ l, f.ok) (hzok : zsOk zs) (ha : -2147483648 ≤ a) (hb : a < 2147483648) :
    Calls Try.prog 69 #[rul age jump throw most, v, frm kind seq time a b c] w fun e w' => e = .returned (.tuple #[.int .i64 (refRadar jump throw most age l ws zs time a).1, .int .i64 (refRadar jump throw most age l ws zs time a).2]) ∧ Below w.heap.size w w' := by
  have kb := lastIdx_bd (fun k => kindAt l k == 3) l.length
  have gb := lastIdx_bd (groundAt l ws) l.length
  unfold refRadar
  by_cases c1 : a < 0
  · rw [if_pos (.inl c1)]; exact rradar_a age jump throw most v l ws zs kind seq time a b c w HL hlok hzok ha hb c1
  by_cases c2 : most < a
  · rw [if_pos (.inr c2)]; exact rradar_b age jump throw most v l ws zs kind seq time a b c w HL hlok hzok ha hb (by omega) c2
  rw [if_neg (by omega)]
  by_cases c3 : baroIdx l < 0
  · rw [if_pos (.inl c3)]; exact rradar_c age jump throw most v l ws zs kind seq time a b c w HL hlok hzok ha hb (by omega) (by omega) (by unfold baroIdx at *; omega)
  obtain ⟨k, hk⟩ : ∃ k : Nat, baroIdx l = k := ⟨(baroIdx l).toNat, by omega⟩
  rw [hk, Int.toNat_natCast]
  by_cases c4 : age < (time - timeAt l k) % 4294967296
  · rw [if_pos (.inr c4)]; exact rradar_d age jump throw most v l ws zs kind seq time a b c w HL hlok hzok ha hb (by omega) (by omega) k hk c4
  rw [if_neg (by omega)]
  by_cases c5 : groundIdx l ws < 0
  · rw [if_pos (.inl c5)]; exact rradar_e age jump throw most v l ws zs kind seq time a b c w HL hlok hzok ha hb (by omega) (by omega) k hk (by omega) (by unfold groundIdx at *; omega)
  obtain ⟨g, hg⟩ : ∃ g : Nat, groundIdx l ws = g := ⟨(groundIdx l ws).toNat, by omega⟩
  rw [hg, Int.toNat_natCast]
  by_cases c6 : jump < aAt l k - a - zs.getD g 0
  · rw [if_neg (by omega)]
    by_cases c8 : threwOf l ws < throw
    · rw [if_pos c8]; exact rradar_gy age jump throw most v l ws zs kind seq time a b c w HL hlok hzok ha hb (by omega) (by omega) k hk (by omega) g hg c6 c8
    · rw [if_neg c8]; exact rradar_gn age jump throw most v l ws zs kind seq time a b c w HL hlok hzok ha hb (by omega) (by omega) k hk (by omega) g hg c6 (by omega)
  by_cases c7 : jump < zs.getD g 0 - (aAt l k - a)
  · rw [if_neg (by omega)]
    by_cases c8 : threwOf l ws < throw
    · rw [if_pos c8]; exact rradar_hy age jump throw most v l ws zs kind seq time a b c w HL hlok hzok ha hb (by omega) (by omega) k hk (by omega) g hg (by omega) c7 c8
    · rw [if_neg c8]; exact rradar_hn age jump throw most v l ws zs kind seq time a b c w HL hlok hzok ha hb (by omega) (by omega) k hk (by omega) g hg (by omega) c7 (by omega)
  rw [if_pos (by omega)]
  exact rradar_f age jump throw most v l ws zs kind seq time a b c w HL hlok hzok ha hb (by omega) (by omega) k hk (by omega) g hg (by omega) (by omega)

theorem encs_snoc (l : List Fr) (f : Fr) : encs (l ++ [f]) = encs l ++ f.enc := by simp [encs]
theorem encs_one (l : List Fr) : ∀ u ∈ encs l, u.oneCell' = true := by
  intro u hu
  simp only [encs, List.mem_flatMap, Fr.enc] at hu
  obtain ⟨f, _, hf⟩ := hu
  simp at hf
  rcases hf with rfl | rfl | rfl | rfl | rfl | rfl <;> rfl
theorem ints_one (zs : List Int) : ∀ u ∈ zs.map (Value.int .i64), u.oneCell' = true := by
  intro u hu
  simp at hu
  obtain ⟨z, _, rfl⟩ := hu
  rfl

theorem ZRow {w : World} {B : Nat} {l : List Fr} {ws zs : List Int} {vL vW vZ : Value} (h : Lists w B (.agg #[vL, vW, vZ]) l ws zs) : Row w B 1 vZ l.length (zs.map (.int .i64)) := by
  obtain ⟨⟨a, b, c, he, _, _, h1⟩, _, _⟩ := h
  simp at he
  obtain ⟨rfl, rfl, rfl⟩ := he
  exact h1
theorem fr_one {f : Fr} : ∀ u ∈ f.enc, u.oneCell' = true := by
  intro u hu
  simp [Fr.enc] at hu
  rcases hu with rfl | rfl | rfl | rfl | rfl | rfl <;> rfl
theorem one_int {z : Int} : ∀ u ∈ [Value.int .i64 z], u.oneCell' = true := by
  intro u hu
  simp at hu
  subst hu; rfl
theorem Row.below2 {w w' : World} {B g size n : Nat} {v : Value} {xs : List Value} (h : Row w B size v n xs) (hb : Below g w w') (hg : B ≤ g) : Row w' B size v n xs := h.below (hb.mono hg)

theorem three_one {a b c : Option Addr} {n m k n' m' k' : Nat} : (#[.slice a n n', .slice b m m', .slice c k k'] : Array Value).all (·.oneCell') = true := by simp [Value.oneCell']

theorem own_setRow {w : World} {base : Nat} {e : TypeId} {s n : Nat} {v : Value} {xs : List Value} {g : Nat} (h : w.ownsRow base e s v n xs) (hg : g < base) (cs : Array Value) : (w.setRow g cs).ownsRow base e s v n xs := by
  obtain ⟨h1, h2⟩ := h
  refine ⟨h1, ?_⟩
  rcases h2 with h2 | ⟨g', cap, cur, hv, hg', hh, r⟩
  · exact Or.inl h2
  · exact Or.inr ⟨g', cap, cur, hv, hg', by rw [setRow_other _ (by omega)]; exact hh, r⟩

theorem took_mk {w w2 wi : World} {gO r : Nat} {l : List Fr} {ws zs : List Int} {f : Fr} {what z : Int} {is : Bool} {vL vW vZ : Value}
    (S : Stg w2 gO wi vL vW vZ (l.length + 1) (l.length + 1) (l.length + 1) (encs l ++ f.enc) (ws.map (Value.int .i64) ++ [.int .i64 what]) (zs.map (Value.int .i64) ++ [.int .i64 z]))
    (hb : Below w.heap.size w w2) (hr : w.heap.size ≤ r) (hrg : r < gO) (hlw : ws.length = l.length) (hlz : zs.length = l.length) :
    Took23 w (⟨l ++ [f], ws ++ [what], zs ++ [z]⟩, what, z, is) (.returned (.tuple #[.agg #[vL, vW, vZ], .int .i64 what, .int .i64 z, .bool is])) (wi.setRow r #[vL, vW, vZ]) := by
  have hB : Below w.heap.size w (wi.setRow r #[vL, vW, vZ]) := below_setRow (hb.trans (S.old.mono (by omega))) hr _
  refine ⟨_, rfl, ⟨⟨vL, vW, vZ, rfl, ?_, ?_, ?_⟩, by simp [hlw], by simp [hlz]⟩, hB⟩
  · have := Row.of_own (own_setRow S.oL (show r < gO + 1 by omega) #[vL, vW, vZ])
    rw [encs_snoc, List.length_append]; exact this
  · have := Row.of_own (own_setRow S.oW (show r < gO + 1 by omega) #[vL, vW, vZ])
    rw [List.map_append, List.length_append]; exact this
  · have := Row.of_own (own_setRow S.oZ (show r < gO + 1 by omega) #[vL, vW, vZ])
    rw [List.map_append, List.length_append]; exact this

set_option maxRecDepth 100000 in
set_option maxHeartbeats 1000000 in
theorem rtake_c (age jump throw most : Int) (v : Value) (l : List Fr) (ws zs : List Int) (f : Fr) (w : World) (HL : Lists w w.heap.size v l ws zs) (hok : ∀ f ∈ l, f.ok) (hf : f.ok) (hzok : zsOk zs) (hn : l.length ≤ 1000) (c3 : lateOf l f.seq f.time = false) (c1 : 1 ≤ f.kind) (c2 : f.kind ≤ 5) (d3 : (f.kind == 3) = true) (d2 : (f.kind == 2) = false) :
    Calls Try.prog 21 #[rul age jump throw most, v, frm f.kind f.seq f.time f.a f.b f.c] w (Took23 w (⟨l ++ [f], ws ++ [0], zs ++ [0]⟩, 0, 0, false)) := by
  have HLL := Lib.hid HL
  obtain ⟨⟨vL, vW, vZ, rfl, _, _, _⟩, hlw, hlz⟩ := HL
  have HLW := Lib.hid hlw
  have HLZ := Lib.hid hlz
  have HF := Lib.hid hf
  have HOK := Lib.hid hok
  have HZ := Lib.hid hzok
  have C3 := Lib.hid c3
  clear hf hok c3 hlw hlz hzok
  obtain ⟨kind, seq, time, a, b, c⟩ := f
  simp only at c1 c2 d2 d3 C3 ⊢
  unfold rul frm
  go_enter Try.func21, Try.ntmps21
  go_wp2_with fail
  have hB0 := (((((Below.refl w.heap.size w).alloc (Nat.le_refl _) (.cells #[.int .u32 age, .int .i64 jump, .int .i64 throw, .int .i64 most] 24)).alloc (by simp) (.cells #[vL, vW, vZ] 39)).alloc (by simp only [World.size_alloc]; omega) (.cells #[.int .i64 kind, .int .u16 seq, .int .u32 time, .int .i32 a, .int .i32 b, .int .i32 c] 43)).alloc (by simp only [World.size_alloc]; omega) (.cells #[.slice none 0 0, .slice none 0 0, .slice none 0 0] 39))
  refine (late_any _ l ws zs ⟨kind, seq, time, a, b, c⟩ _ ((HLL.out.below hB0).more hB0.size) HOK.out HF.out).mono ?_
  rintro e w1 ⟨rfl, hb1⟩
  rw [C3.out]
  have hz1 : w.heap.size + 4 ≤ w1.heap.size := by have := hb1.size; simp only [World.size_alloc] at this; omega
  obtain ⟨k1, k2⟩ := bcell hb1
  have l0_w1 : w1.cell? ⟨w.heap.size + 1, 0, none⟩ = some vL := (k1 _ _ (by simp only [World.size_alloc]; omega)).trans (by go_simp)
  have l1_w1 : w1.cell? ⟨w.heap.size + 1, 1, none⟩ = some vW := (k1 _ _ (by simp only [World.size_alloc]; omega)).trans (by go_simp)
  have l2_w1 : w1.cell? ⟨w.heap.size + 1, 2, none⟩ = some vZ := (k1 _ _ (by simp only [World.size_alloc]; omega)).trans (by go_simp)
  have f0_w1 : w1.cell? ⟨w.heap.size + 2, 0, none⟩ = some (.int .i64 kind) := (k1 _ _ (by simp only [World.size_alloc]; omega)).trans (by go_simp)
  have f1_w1 : w1.cell? ⟨w.heap.size + 2, 1, none⟩ = some (.int .u16 seq) := (k1 _ _ (by simp only [World.size_alloc]; omega)).trans (by go_simp)
  have f2_w1 : w1.cell? ⟨w.heap.size + 2, 2, none⟩ = some (.int .u32 time) := (k1 _ _ (by simp only [World.size_alloc]; omega)).trans (by go_simp)
  have f3_w1 : w1.cell? ⟨w.heap.size + 2, 3, none⟩ = some (.int .i32 a) := (k1 _ _ (by simp only [World.size_alloc]; omega)).trans (by go_simp)
  have f4_w1 : w1.cell? ⟨w.heap.size + 2, 4, none⟩ = some (.int .i32 b) := (k1 _ _ (by simp only [World.size_alloc]; omega)).trans (by go_simp)
  have f5_w1 : w1.cell? ⟨w.heap.size + 2, 5, none⟩ = some (.int .i32 c) := (k1 _ _ (by simp only [World.size_alloc]; omega)).trans (by go_simp)
  have r0_w1 : w1.cell? ⟨w.heap.size, 0, none⟩ = some (.int .u32 age) := (k1 _ _ (by simp only [World.size_alloc]; omega)).trans (by go_simp)
  have r1_w1 : w1.cell? ⟨w.heap.size, 1, none⟩ = some (.int .i64 jump) := (k1 _ _ (by simp only [World.size_alloc]; omega)).trans (by go_simp)
  have r2_w1 : w1.cell? ⟨w.heap.size, 2, none⟩ = some (.int .i64 throw) := (k1 _ _ (by simp only [World.size_alloc]; omega)).trans (by go_simp)
  have r3_w1 : w1.cell? ⟨w.heap.size, 3, none⟩ = some (.int .i64 most) := (k1 _ _ (by simp only [World.size_alloc]; omega)).trans (by go_simp)
  have hh1 : w1.heap[w.heap.size + 3]? = some (.cells #[.slice none 0 0, .slice none 0 0, .slice none 0 0] 39 (0, 0)) := (hb1.block _ (by simp only [World.size_alloc]; omega)).trans (heap_alloc_at _ (by simp))
  have HH1 := Lib.hid hh1
  have HB1 := Lib.hid (hB0.trans (hb1.mono hB0.size))
  clear hb1 hB0 hh1 k1 k2
  have hs0 : w.heap.size < w1.heap.size := by omega
  have hs1 : w.heap.size + 1 < w1.heap.size := by omega
  have hs2 : w.heap.size + 1 + 1 < w1.heap.size := by omega
  have HB2 := HB1
  have HH2 := HH1
  have S0 := Stg.start w1
  obtain ⟨iF, hF1, hF2, hF3, hF4⟩ := info_parts infoF
  obtain ⟨iI, hI1, hI2, hI3, hI4⟩ := info_parts infoI
  obtain ⟨iZ, hZ1, hZ2, hZ3, hZ4⟩ := info_parts infoZ
  have nb0 : ¬ (w1.heap.size = w.heap.size + 1) := by omega
  have nb1 : ¬ (w.heap.size + 1 = w1.heap.size) := by omega
  have nb2 : ¬ (w1.heap.size = w.heap.size + 1 + 1) := by omega
  have nb3 : ¬ (w.heap.size + 1 + 1 = w1.heap.size) := by omega
  go_wp2_with (first
      | (at_builtin; refine wpList_append_rowS _ rfl (.tmp 41) (.tmp 43) 25 rfl (w1.heap.size + 1) TF iF _ 6 32 Try.underlying25 hF1 hF2 hF3 hF4 rfl (by decide) (.slice none 0 0) (0) ([]) rfl S0.oL w.heap.size vL (l.length) (encs l) rfl ?_ (encs_one l) ?_ ?_ ?_ ?_; exact (((BaroRow HLL.out).below HB2.out).below2 S0.old (by omega)); (simp only [maxLen]; omega); omega; exact (Nat.succ_le_of_lt S0.lt); intro aA cA wA hownA hgA; simp only [Nat.zero_add, List.nil_append] at hownA; have MA := S0.mid hgA (fun g e => own_base S0.oL e); have f0_A := (MA.2.cell (p := ⟨w.heap.size + 2, 0, none⟩) hs2).trans f0_w1; have f1_A := (MA.2.cell (p := ⟨w.heap.size + 2, 1, none⟩) hs2).trans f1_w1; have f2_A := (MA.2.cell (p := ⟨w.heap.size + 2, 2, none⟩) hs2).trans f2_w1; have f3_A := (MA.2.cell (p := ⟨w.heap.size + 2, 3, none⟩) hs2).trans f3_w1; have f4_A := (MA.2.cell (p := ⟨w.heap.size + 2, 4, none⟩) hs2).trans f4_w1; have f5_A := (MA.2.cell (p := ⟨w.heap.size + 2, 5, none⟩) hs2).trans f5_w1; have l0_A := (MA.2.cell (p := ⟨w.heap.size + 1, 0, none⟩) hs1).trans l0_w1; have l1_A := (MA.2.cell (p := ⟨w.heap.size + 1, 1, none⟩) hs1).trans l1_w1; have l2_A := (MA.2.cell (p := ⟨w.heap.size + 1, 2, none⟩) hs1).trans l2_w1; have g0_A : wA.cell? ⟨w1.heap.size, 0, none⟩ = some (.slice none 0 0) := cell_of_row _ _ _ _ _ _ MA.1; have z0_A : wA.frozen? ⟨w1.heap.size, 0, none⟩ = false := (by simp [World.frozen?, MA.1]); have g1_A : wA.cell? ⟨w1.heap.size, 1, none⟩ = some (.slice none 0 0) := cell_of_row _ _ _ _ _ _ MA.1; have z1_A : wA.frozen? ⟨w1.heap.size, 1, none⟩ = false := (by simp [World.frozen?, MA.1]); have g2_A : wA.cell? ⟨w1.heap.size, 2, none⟩ = some (.slice none 0 0) := cell_of_row _ _ _ _ _ _ MA.1; have z2_A : wA.frozen? ⟨w1.heap.size, 2, none⟩ = false := (by simp [World.frozen?, MA.1]); have SA := S0.stepL hgA hownA; clear MA)
      | (at_builtin; refine wpList_append_rowS _ rfl (.tmp 47) (.tmp 49) 25 rfl (w1.heap.size + 1) TF iF _ 6 32 Try.underlying25 hF1 hF2 hF3 hF4 rfl (by decide) (.slice aA (l.length) cA) (l.length) ((encs l)) rfl (SA.alloc _).oL (wA.heap.size + 1) (.slice (some ⟨wA.heap.size, 0, none⟩) 1 1) (1) (Fr.enc ⟨kind, seq, time, a, b, c⟩) rfl ?_ fr_one ?_ ?_ ?_ ?_; exact (Row.oneAt (by simp) rfl); (simp only [maxLen]; omega); omega; exact (Nat.succ_le_of_lt (SA.alloc _).lt); intro aB cB wB hownB hgB; have MB := (SA.alloc _).mid hgB (fun g e => own_base SA.oL e); have f0_B := (MB.2.cell (p := ⟨w.heap.size + 2, 0, none⟩) hs2).trans f0_w1; have f1_B := (MB.2.cell (p := ⟨w.heap.size + 2, 1, none⟩) hs2).trans f1_w1; have f2_B := (MB.2.cell (p := ⟨w.heap.size + 2, 2, none⟩) hs2).trans f2_w1; have f3_B := (MB.2.cell (p := ⟨w.heap.size + 2, 3, none⟩) hs2).trans f3_w1; have f4_B := (MB.2.cell (p := ⟨w.heap.size + 2, 4, none⟩) hs2).trans f4_w1; have f5_B := (MB.2.cell (p := ⟨w.heap.size + 2, 5, none⟩) hs2).trans f5_w1; have l0_B := (MB.2.cell (p := ⟨w.heap.size + 1, 0, none⟩) hs1).trans l0_w1; have l1_B := (MB.2.cell (p := ⟨w.heap.size + 1, 1, none⟩) hs1).trans l1_w1; have l2_B := (MB.2.cell (p := ⟨w.heap.size + 1, 2, none⟩) hs1).trans l2_w1; have g0_B : wB.cell? ⟨w1.heap.size, 0, none⟩ = some (.slice aA (l.length) cA) := cell_of_row _ _ _ _ _ _ MB.1; have z0_B : wB.frozen? ⟨w1.heap.size, 0, none⟩ = false := (by simp [World.frozen?, MB.1]); have g1_B : wB.cell? ⟨w1.heap.size, 1, none⟩ = some (.slice none 0 0) := cell_of_row _ _ _ _ _ _ MB.1; have z1_B : wB.frozen? ⟨w1.heap.size, 1, none⟩ = false := (by simp [World.frozen?, MB.1]); have g2_B : wB.cell? ⟨w1.heap.size, 2, none⟩ = some (.slice none 0 0) := cell_of_row _ _ _ _ _ _ MB.1; have z2_B : wB.frozen? ⟨w1.heap.size, 2, none⟩ = false := (by simp [World.frozen?, MB.1]); have SB := (SA.alloc _).stepL hgB hownB; clear MB; clear f0_A f1_A f2_A f3_A f4_A f5_A l0_A l1_A l2_A g0_A z0_A g1_A z1_A g2_A z2_A)
      | (at_builtin; refine wpList_append_rowS _ rfl (.tmp 53) (.tmp 55) 36 rfl (w1.heap.size + 1) TI iI _ 1 8 Try.underlying36 hI1 hI2 hI3 hI4 rfl (by decide) (.slice none 0 0) (0) ([]) rfl SB.oW w.heap.size vW (l.length) (ws.map (Value.int .i64)) rfl ?_ (ints_one ws) ?_ ?_ ?_ ?_; exact (((WhatRow HLL.out).below HB2.out).below2 SB.old (by omega)); (simp only [maxLen]; omega); omega; exact (Nat.succ_le_of_lt SB.lt); intro aC cC wC hownC hgC; simp only [Nat.zero_add, List.nil_append] at hownC; have MC := SB.mid hgC (fun g e => own_base SB.oW e); have f0_C := (MC.2.cell (p := ⟨w.heap.size + 2, 0, none⟩) hs2).trans f0_w1; have f1_C := (MC.2.cell (p := ⟨w.heap.size + 2, 1, none⟩) hs2).trans f1_w1; have f2_C := (MC.2.cell (p := ⟨w.heap.size + 2, 2, none⟩) hs2).trans f2_w1; have f3_C := (MC.2.cell (p := ⟨w.heap.size + 2, 3, none⟩) hs2).trans f3_w1; have f4_C := (MC.2.cell (p := ⟨w.heap.size + 2, 4, none⟩) hs2).trans f4_w1; have f5_C := (MC.2.cell (p := ⟨w.heap.size + 2, 5, none⟩) hs2).trans f5_w1; have l0_C := (MC.2.cell (p := ⟨w.heap.size + 1, 0, none⟩) hs1).trans l0_w1; have l1_C := (MC.2.cell (p := ⟨w.heap.size + 1, 1, none⟩) hs1).trans l1_w1; have l2_C := (MC.2.cell (p := ⟨w.heap.size + 1, 2, none⟩) hs1).trans l2_w1; have g0_C : wC.cell? ⟨w1.heap.size, 0, none⟩ = some (.slice aB (l.length + 1) cB) := cell_of_row _ _ _ _ _ _ MC.1; have z0_C : wC.frozen? ⟨w1.heap.size, 0, none⟩ = false := (by simp [World.frozen?, MC.1]); have g1_C : wC.cell? ⟨w1.heap.size, 1, none⟩ = some (.slice none 0 0) := cell_of_row _ _ _ _ _ _ MC.1; have z1_C : wC.frozen? ⟨w1.heap.size, 1, none⟩ = false := (by simp [World.frozen?, MC.1]); have g2_C : wC.cell? ⟨w1.heap.size, 2, none⟩ = some (.slice none 0 0) := cell_of_row _ _ _ _ _ _ MC.1; have z2_C : wC.frozen? ⟨w1.heap.size, 2, none⟩ = false := (by simp [World.frozen?, MC.1]); have SC := SB.stepW hgC hownC; clear MC; clear f0_B f1_B f2_B f3_B f4_B f5_B l0_B l1_B l2_B g0_B z0_B g1_B z1_B g2_B z2_B)
      | (at_builtin; refine wpList_append_rowS _ rfl (.tmp 59) (.tmp 61) 36 rfl (w1.heap.size + 1) TI iI _ 1 8 Try.underlying36 hI1 hI2 hI3 hI4 rfl (by decide) (.slice aC (l.length) cC) (l.length) ((ws.map (Value.int .i64))) rfl (SC.alloc _).oW (wC.heap.size + 1) (.slice (some ⟨wC.heap.size, 0, none⟩) 1 1) (1) [.int .i64 0] rfl ?_ one_int ?_ ?_ ?_ ?_; exact (Row.oneAt (by simp) rfl); (simp only [maxLen]; omega); omega; exact (Nat.succ_le_of_lt (SC.alloc _).lt); intro aD cD wD hownD hgD; have MD := (SC.alloc _).mid hgD (fun g e => own_base SC.oW e); have f0_D := (MD.2.cell (p := ⟨w.heap.size + 2, 0, none⟩) hs2).trans f0_w1; have f1_D := (MD.2.cell (p := ⟨w.heap.size + 2, 1, none⟩) hs2).trans f1_w1; have f2_D := (MD.2.cell (p := ⟨w.heap.size + 2, 2, none⟩) hs2).trans f2_w1; have f3_D := (MD.2.cell (p := ⟨w.heap.size + 2, 3, none⟩) hs2).trans f3_w1; have f4_D := (MD.2.cell (p := ⟨w.heap.size + 2, 4, none⟩) hs2).trans f4_w1; have f5_D := (MD.2.cell (p := ⟨w.heap.size + 2, 5, none⟩) hs2).trans f5_w1; have l0_D := (MD.2.cell (p := ⟨w.heap.size + 1, 0, none⟩) hs1).trans l0_w1; have l1_D := (MD.2.cell (p := ⟨w.heap.size + 1, 1, none⟩) hs1).trans l1_w1; have l2_D := (MD.2.cell (p := ⟨w.heap.size + 1, 2, none⟩) hs1).trans l2_w1; have g0_D : wD.cell? ⟨w1.heap.size, 0, none⟩ = some (.slice aB (l.length + 1) cB) := cell_of_row _ _ _ _ _ _ MD.1; have z0_D : wD.frozen? ⟨w1.heap.size, 0, none⟩ = false := (by simp [World.frozen?, MD.1]); have g1_D : wD.cell? ⟨w1.heap.size, 1, none⟩ = some (.slice aC (l.length) cC) := cell_of_row _ _ _ _ _ _ MD.1; have z1_D : wD.frozen? ⟨w1.heap.size, 1, none⟩ = false := (by simp [World.frozen?, MD.1]); have g2_D : wD.cell? ⟨w1.heap.size, 2, none⟩ = some (.slice none 0 0) := cell_of_row _ _ _ _ _ _ MD.1; have z2_D : wD.frozen? ⟨w1.heap.size, 2, none⟩ = false := (by simp [World.frozen?, MD.1]); have SD := (SC.alloc _).stepW hgD hownD; clear MD; clear f0_C f1_C f2_C f3_C f4_C f5_C l0_C l1_C l2_C g0_C z0_C g1_C z1_C g2_C z2_C)
      | (at_builtin; refine wpList_append_rowS _ rfl (.tmp 65) (.tmp 67) 37 rfl (w1.heap.size + 1) TZ iZ _ 1 8 Try.underlying37 hZ1 hZ2 hZ3 hZ4 rfl (by decide) (.slice none 0 0) (0) ([]) rfl SD.oZ w.heap.size vZ (l.length) (zs.map (Value.int .i64)) rfl ?_ (ints_one zs) ?_ ?_ ?_ ?_; exact (((ZRow HLL.out).below HB2.out).below2 SD.old (by omega)); (simp only [maxLen]; omega); omega; exact (Nat.succ_le_of_lt SD.lt); intro aE cE wE hownE hgE; simp only [Nat.zero_add, List.nil_append] at hownE; have ME := SD.mid hgE (fun g e => own_base SD.oZ e); have f0_E := (ME.2.cell (p := ⟨w.heap.size + 2, 0, none⟩) hs2).trans f0_w1; have f1_E := (ME.2.cell (p := ⟨w.heap.size + 2, 1, none⟩) hs2).trans f1_w1; have f2_E := (ME.2.cell (p := ⟨w.heap.size + 2, 2, none⟩) hs2).trans f2_w1; have f3_E := (ME.2.cell (p := ⟨w.heap.size + 2, 3, none⟩) hs2).trans f3_w1; have f4_E := (ME.2.cell (p := ⟨w.heap.size + 2, 4, none⟩) hs2).trans f4_w1; have f5_E := (ME.2.cell (p := ⟨w.heap.size + 2, 5, none⟩) hs2).trans f5_w1; have l0_E := (ME.2.cell (p := ⟨w.heap.size + 1, 0, none⟩) hs1).trans l0_w1; have l1_E := (ME.2.cell (p := ⟨w.heap.size + 1, 1, none⟩) hs1).trans l1_w1; have l2_E := (ME.2.cell (p := ⟨w.heap.size + 1, 2, none⟩) hs1).trans l2_w1; have g0_E : wE.cell? ⟨w1.heap.size, 0, none⟩ = some (.slice aB (l.length + 1) cB) := cell_of_row _ _ _ _ _ _ ME.1; have z0_E : wE.frozen? ⟨w1.heap.size, 0, none⟩ = false := (by simp [World.frozen?, ME.1]); have g1_E : wE.cell? ⟨w1.heap.size, 1, none⟩ = some (.slice aD (l.length + 1) cD) := cell_of_row _ _ _ _ _ _ ME.1; have z1_E : wE.frozen? ⟨w1.heap.size, 1, none⟩ = false := (by simp [World.frozen?, ME.1]); have g2_E : wE.cell? ⟨w1.heap.size, 2, none⟩ = some (.slice none 0 0) := cell_of_row _ _ _ _ _ _ ME.1; have z2_E : wE.frozen? ⟨w1.heap.size, 2, none⟩ = false := (by simp [World.frozen?, ME.1]); have SE := SD.stepZ hgE hownE; clear ME; clear f0_D f1_D f2_D f3_D f4_D f5_D l0_D l1_D l2_D g0_D z0_D g1_D z1_D g2_D z2_D)
      | (at_builtin; refine wpList_append_rowS _ rfl (.tmp 71) (.tmp 73) 37 rfl (w1.heap.size + 1) TZ iZ _ 1 8 Try.underlying37 hZ1 hZ2 hZ3 hZ4 rfl (by decide) (.slice aE (l.length) cE) (l.length) ((zs.map (Value.int .i64))) rfl (SE.alloc _).oZ (wE.heap.size + 1) (.slice (some ⟨wE.heap.size, 0, none⟩) 1 1) (1) [.int .i64 0] rfl ?_ one_int ?_ ?_ ?_ ?_; exact (Row.oneAt (by simp) rfl); (simp only [maxLen]; omega); omega; exact (Nat.succ_le_of_lt (SE.alloc _).lt); intro aF cF wF hownF hgF; have MF := (SE.alloc _).mid hgF (fun g e => own_base SE.oZ e); have f0_F := (MF.2.cell (p := ⟨w.heap.size + 2, 0, none⟩) hs2).trans f0_w1; have f1_F := (MF.2.cell (p := ⟨w.heap.size + 2, 1, none⟩) hs2).trans f1_w1; have f2_F := (MF.2.cell (p := ⟨w.heap.size + 2, 2, none⟩) hs2).trans f2_w1; have f3_F := (MF.2.cell (p := ⟨w.heap.size + 2, 3, none⟩) hs2).trans f3_w1; have f4_F := (MF.2.cell (p := ⟨w.heap.size + 2, 4, none⟩) hs2).trans f4_w1; have f5_F := (MF.2.cell (p := ⟨w.heap.size + 2, 5, none⟩) hs2).trans f5_w1; have l0_F := (MF.2.cell (p := ⟨w.heap.size + 1, 0, none⟩) hs1).trans l0_w1; have l1_F := (MF.2.cell (p := ⟨w.heap.size + 1, 1, none⟩) hs1).trans l1_w1; have l2_F := (MF.2.cell (p := ⟨w.heap.size + 1, 2, none⟩) hs1).trans l2_w1; have g0_F : wF.cell? ⟨w1.heap.size, 0, none⟩ = some (.slice aB (l.length + 1) cB) := cell_of_row _ _ _ _ _ _ MF.1; have z0_F : wF.frozen? ⟨w1.heap.size, 0, none⟩ = false := (by simp [World.frozen?, MF.1]); have g1_F : wF.cell? ⟨w1.heap.size, 1, none⟩ = some (.slice aD (l.length + 1) cD) := cell_of_row _ _ _ _ _ _ MF.1; have z1_F : wF.frozen? ⟨w1.heap.size, 1, none⟩ = false := (by simp [World.frozen?, MF.1]); have g2_F : wF.cell? ⟨w1.heap.size, 2, none⟩ = some (.slice aE (l.length) cE) := cell_of_row _ _ _ _ _ _ MF.1; have z2_F : wF.frozen? ⟨w1.heap.size, 2, none⟩ = false := (by simp [World.frozen?, MF.1]); have SF := (SE.alloc _).stepZ hgF hownF; clear MF; clear f0_E f1_E f2_E f3_E f4_E f5_E l0_E l1_E l2_E g0_E z0_E g1_E z1_E g2_E z2_E)
      | (refine wpList_store_row rfl 39 _ _ rfl (w.heap.size + 3) #[(.slice aB (l.length + 1) cB), (.slice aD (l.length + 1) cD), (.slice aF (l.length + 1) cF)] rfl rfl 39 _ ((SF.old.block _ (by omega)).trans HH2.out) line_info rfl three_one ?_))
  refine bodyPost_ret (results_row_tmp3 rfl _ _ (w.heap.size + 3) 39 _ (0, 0) _ rfl (setRow_heap ((SF.old.block _ (by omega)).trans HH2.out) _) Try.underlying39 rfl line_info) rfl ?_
  exact took_mk (r := w.heap.size + 3) (f := ⟨kind, seq, time, a, b, c⟩) SF HB2.out (by omega) (by omega) HLW.out HLZ.out

end Go.Proofs.Ytokoopdkofgabaa
