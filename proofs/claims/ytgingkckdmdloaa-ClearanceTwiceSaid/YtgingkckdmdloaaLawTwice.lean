/- The walk of ClearanceTwice. -/
import Derived.Test.YtgingkckdmdloaaTwice23
namespace Go.Proofs.Ytgingkckdmdloaa
open Go.RowKit

theorem Ln.new_ok {r : Ru} (h : r.ok) : (Ln.new r.age r.jump r.throw r.most).ok := by
  obtain ⟨h1, h2, h3, h4, h5⟩ := h
  simp [Ln.ok, Ln.new]; omega

theorem take_at (g : Nat) (cs : Array Value) (s s1 : Ln) (kind seq time a b c u z : Int) (is : Bool) (w : World) (H : Hold w g 30 cs 0 s.enc) (hok : s.ok) (ha : -2147483648 ≤ a) (hb : a < 2147483648)
    (h : s.take kind seq time a = (s1, u, z, is)) :
    Calls Try.prog 18 #[.pointer (some ⟨g, 0, none⟩), .agg #[.int .i64 kind, .int .u16 seq, .int .u32 time, .int .i32 a, .int .i32 b, .int .i32 c]] w
      fun e w' => e = .returned (.tuple #[.int .i64 u, .int .i64 z, .bool is]) ∧ Upd w g 30 cs 0 s1.enc w' := by
  have := take_any g 0 30 cs s kind seq time a b c w H hok ha hb
  unfold TookR frm at this
  rw [h] at this
  exact this

theorem Hold.upd {w0 w : World} {g g' : Nat} {t t' : TypeId} {cs cs' : Array Value} {o o' : Nat} {xs ys : List Value} (h : Hold w0 g t cs o xs) (hu : Upd w0 g' t' cs' o' ys w) (hne : g ≠ g') : Hold w g t cs o xs :=
  h.grown hu.2 (by simp; exact hne)

set_option maxRecDepth 100000 in
set_option maxHeartbeats 2000000 in
theorem twice_long (r : Ru) (A : Option Addr) (n c : Nat) (w : World) (h : 60 < n) :
    Calls Try.prog 5 #[r.val, .slice A n c] w fun e w' => e = .returned (.bool true) ∧ Below w.heap.size w w' := by
  unfold Ru.val rul
  have h' : (60 : Int) < (n : Int) := by omega
  go_enter Try.func5, Try.ntmps5
  go_wp2_with fail
  refine (works_any _).mono ?_
  rintro e w1 ⟨rfl, hb⟩
  go_wp2_with fail
  go_ret
  exact ⟨rfl, ((Below.refl w.heap.size w).alloc (Nat.le_refl _) _).trans (hb.mono (by simp))⟩

set_option maxRecDepth 100000 in
set_option maxHeartbeats 2000000 in
theorem twice_short (r : Ru) (A : Option Addr) (c : Nat) (l : List Fr) (w : World) (hn : l.length ≤ 60) (HL : Row w w.heap.size 6 (.slice A l.length c) l.length (encs l)) (hok : ∀ f ∈ l, f.ok) :
    Calls Try.prog 5 #[r.val, .slice A l.length c] w fun e w' => e = .returned (.bool true) ∧ Below w.heap.size w w' := by
  have hn' : (l.length : Int) ≤ 60 := by omega
  have HR := Lib.hid HL
  have HOK := Lib.hid hok
  clear HL hok
  have M := Lib.hid (Ru.made_right r)
  have MA := made_any r
  have hB0 := Lib.hid ((Below.refl w.heap.size w).alloc (Nat.le_refl _) (.cells #[.int .u32 r.age, .int .i64 r.jump, .int .i64 r.throw, .int .i64 r.most] 24))
  unfold Ru.val rul
  go_enter Try.func5, Try.ntmps5
  go_wp2_with fail
  refine (MA _).mono ?_
  rintro e w1 ⟨rfl, hb1⟩
  generalize r.made = m at *
  clear MA
  have h1 : w1.heap[w.heap.size]? = some (.cells #[.int .u32 r.age, .int .i64 r.jump, .int .i64 r.throw, .int .i64 r.most] 24 (0, 0)) := (hb1.block _ (by simp)).trans (heap_alloc_at _ rfl)
  have H1 := Lib.hid h1
  have HB1 := Lib.hid (hB0.out.trans (hb1.mono hB0.out.size))
  have hlt1 : w.heap.size < w1.heap.size := by have := hb1.size; simp only [World.size_alloc] at this; omega
  clear hb1 h1 hB0
  unfold Ru.val rul
  go_wp2_with (first
    | (refine wpList_store_row rfl 24 _ _ rfl w.heap.size #[.int .u32 m.age, .int .i64 m.jump, .int .i64 m.throw, .int .i64 m.most] rfl rfl 24 _ H1.out rules_info rfl rul_one ?_)
    | (refine wpList_load_rowG rfl 24 _ rfl w.heap.size rfl 24 #[.int .u32 m.age, .int .i64 m.jump, .int .i64 m.throw, .int .i64 m.most] (0, 0) _ (setRow_heap H1.out _) Try.underlying24 rfl rules_info ?_))
  have H2 := Lib.hid (setRow_heap H1.out #[.int .u32 m.age, .int .i64 m.jump, .int .i64 m.throw, .int .i64 m.most])
  have HB2 := Lib.hid (below_setRow (cs := #[.int .u32 m.age, .int .i64 m.jump, .int .i64 m.throw, .int .i64 m.most]) HB1.out (Nat.le_refl _))
  have hlt2 : w.heap.size < (w1.setRow w.heap.size #[.int .u32 m.age, .int .i64 m.jump, .int .i64 m.throw, .int .i64 m.most]).heap.size := by simpa [World.setRow] using hlt1
  generalize w1.setRow w.heap.size #[.int .u32 m.age, .int .i64 m.jump, .int .i64 m.throw, .int .i64 m.most] = w2 at *
  clear H1 HB1 hlt1
  refine (new_yes m.age m.jump m.throw m.most _ M.out).mono ?_
  rintro e w3 ⟨rfl, hb3⟩
  have H3 := Lib.hid ((hb3.block _ hlt2).trans H2.out)
  have HB3 := Lib.hid (HB2.out.trans (hb3.mono HB2.out.size))
  have hlt3 : w.heap.size < w3.heap.size := Nat.lt_of_lt_of_le hlt2 hb3.size
  clear hb3 H2 HB2 hlt2
  generalize hS : Ln.new m.age m.jump m.throw m.most = S at *
  have HS := Lib.hid hS
  clear hS
  go_wp2_with (first
    | (refine wpList_store_row rfl 30 _ _ rfl w3.heap.size S.enc.toArray rfl rfl 30 _ (heap_alloc_at _ rfl) (Ln.info _) rfl (Ln.one _) ?_)
    | (refine wpList_load_rowG rfl 24 _ rfl w.heap.size rfl 24 #[.int .u32 m.age, .int .i64 m.jump, .int .i64 m.throw, .int .i64 m.most] (0, 0) _ ((setRow_other _ (by omega)).trans ((Below.heap_alloc _ _ _ hlt3).trans H3.out)) Try.underlying24 rfl rules_info ?_))
  have KP := Lib.hid (Hold.of_heap (w := (w3.alloc (.cells (Ln.new 0 0 0 0).enc.toArray 30)).setRow w3.heap.size S.enc.toArray) (setRow_heap (heap_alloc_at _ rfl) S.enc.toArray))
  have HB4 := Lib.hid (below_setRow (cs := S.enc.toArray) (g := w3.heap.size) (HB3.out.alloc HB3.out.size (.cells (Ln.new 0 0 0 0).enc.toArray 30)) HB3.out.size)
  have hp : w.heap.size ≤ w3.heap.size := HB3.out.size
  refine (new_yes m.age m.jump m.throw m.most _ M.out).mono ?_
  rw [HS.out]
  rintro e w5 ⟨rfl, hb5'⟩
  have hb5 : Below ((w3.alloc (.cells (Ln.new 0 0 0 0).enc.toArray 30)).setRow w3.heap.size S.enc.toArray).heap.size ((w3.alloc (.cells (Ln.new 0 0 0 0).enc.toArray 30)).setRow w3.heap.size S.enc.toArray) w5 := hb5'
  clear hb5'
  have KP5 := Lib.hid (KP.out.below hb5 KP.out.lt)
  have hgp5 : w3.heap.size < w5.heap.size := KP5.out.lt
  have HB5 := Lib.hid (HB4.out.trans (hb5.mono HB4.out.size))
  clear hb5 KP HB4 H3 HB3 hlt3
  generalize w3.heap.size = gp at *
  go_wp2_with (refine wpList_store_row rfl 30 _ _ rfl w5.heap.size S.enc.toArray rfl rfl 30 _ (heap_alloc_at _ rfl) (Ln.info _) rfl (Ln.one _) ?_)
  have KQ := Lib.hid (Hold.of_heap (w := (w5.alloc (.cells (Ln.new 0 0 0 0).enc.toArray 30)).setRow w5.heap.size S.enc.toArray) (setRow_heap (heap_alloc_at _ rfl) S.enc.toArray))
  have KP6 : Hid (Hold ((w5.alloc (.cells (Ln.new 0 0 0 0).enc.toArray 30)).setRow w5.heap.size S.enc.toArray) gp 30 S.enc.toArray 0 S.enc) :=
    ⟨(setRow_other _ (by omega)).trans (KP5.out.alloc _).1, KP5.out.2⟩
  have HB6 := Lib.hid (below_setRow (cs := S.enc.toArray) (g := w5.heap.size) (HB5.out.alloc HB5.out.size (.cells (Ln.new 0 0 0 0).enc.toArray 30)) HB5.out.size)
  have hq : w.heap.size ≤ w5.heap.size := HB5.out.size
  generalize w5.heap.size = gq at *
  have hpq : gp ≠ gq := by omega
  have SOK : Hid (S.ok ∧ S.throw ≤ 100 ∧ S.most ≤ 1048576) := by
    have hm := Ru.right_ok M.out
    have hk := Ln.new_ok hm
    obtain ⟨m1, m2, m3, m4, m5⟩ := hm
    rw [← HS.out]
    exact ⟨hk, m3, m5⟩
  clear KP5 HB5 hgp5 HS M
  go_loopw [9] (fun i wr => ∃ (k : Nat) (s t : Ln), k ≤ l.length ∧ i = .int .i64 k ∧ Hold wr gp 30 S.enc.toArray 0 s.enc ∧ Hold wr gq 30 S.enc.toArray 0 t.enc ∧ Below w.heap.size w wr ∧ s.core = t.core ∧
      (s.ok ∧ s.throw ≤ 100 ∧ s.most ≤ 1048576) ∧ (t.ok ∧ t.throw ≤ 100 ∧ t.most ≤ 1048576)) (fun i _ => l.length - (intOf i).toNat)
  case atStart => exact ⟨0, S, S, by omega, rfl, KP6.out, KQ.out, HB6.out, rfl, SOK.out, SOK.out⟩
  case round =>
    obtain ⟨k, s, t, hk, rfl, hs, ht, hw, hc, hso, hto⟩ := hrel
    clear KP6 KQ HB6 SOK
    have HS := Lib.hid hs
    have HT := Lib.hid ht
    have HW := Lib.hid hw
    have HC := Lib.hid hc
    have HSO := Lib.hid hso
    have HTO := Lib.hid hto
    clear hs ht hw hc hso hto
    by_cases hlt : k < l.length
    · skip
      have hx := HR.out
      obtain ⟨A', c', he, -, -, -, h4⟩ := hx
      injection he with e1 _ e3
      subst e1
      subst e3
      obtain ⟨b, off, rfl, hb, hcell⟩ := h4 (by omega)
      have hf : l[k]? = some l[k] := List.getElem?_eq_getElem hlt
      obtain ⟨-, -, -, -, B1, B2⟩ := HOK.out l[k] (List.getElem_mem hlt)
      have x0 : w.cell? ⟨b, off + k * 6, none⟩ = some (.int .i64 l[k].kind) := hcell (k * 6) _ (encs_at l k 0 l[k] hf (by omega))
      have x1 : w.cell? ⟨b, off + k * 6 + 1, none⟩ = some (.int .u16 l[k].seq) := by rw [Nat.add_assoc]; exact hcell (k * 6 + 1) _ (encs_at l k 1 l[k] hf (by omega))
      have x2 : w.cell? ⟨b, off + k * 6 + 2, none⟩ = some (.int .u32 l[k].time) := by rw [Nat.add_assoc]; exact hcell (k * 6 + 2) _ (encs_at l k 2 l[k] hf (by omega))
      have x3 : w.cell? ⟨b, off + k * 6 + 3, none⟩ = some (.int .i32 l[k].a) := by rw [Nat.add_assoc]; exact hcell (k * 6 + 3) _ (encs_at l k 3 l[k] hf (by omega))
      have x4 : w.cell? ⟨b, off + k * 6 + 4, none⟩ = some (.int .i32 l[k].b) := by rw [Nat.add_assoc]; exact hcell (k * 6 + 4) _ (encs_at l k 4 l[k] hf (by omega))
      have x5 : w.cell? ⟨b, off + k * 6 + 5, none⟩ = some (.int .i32 l[k].c) := by rw [Nat.add_assoc]; exact hcell (k * 6 + 5) _ (encs_at l k 5 l[k] hf (by omega))
      generalize l[k].kind = kind at *
      generalize l[k].seq = seq at *
      generalize l[k].time = tm at *
      generalize l[k].a = fa at *
      generalize l[k].b = fb at *
      generalize l[k].c = fc at *
      clear hf hcell h4
      obtain ⟨lk1, lk2⟩ := take_like HC.out kind seq tm fa
      obtain ⟨ag1, ag2, ag3⟩ := take_again t kind seq tm fa
      have ko1 := take_ok kind seq tm fa HSO.out.1 HSO.out.2.1 HSO.out.2.2 B1 B2
      have ko2 := take_ok kind seq tm fa HTO.out.1 HTO.out.2.1 HTO.out.2.2 B1 B2
      have hth : t.throw ≤ 100 ∧ t.most ≤ 1048576 := HTO.out.2
      have hsh : s.throw ≤ 100 ∧ s.most ≤ 1048576 := HSO.out.2
      have ko3 := take_ok kind seq tm fa ko2.1 (by rw [ko2.2.1]; exact hth.1) (by rw [ko2.2.2]; exact hth.2) B1 B2
      generalize hU : s.take kind seq tm fa = U at *
      obtain ⟨s1, u, z, is⟩ := U
      generalize hT : t.take kind seq tm fa = T at *
      obtain ⟨t1, u', z', is'⟩ := T
      generalize hV : t1.take kind seq tm fa = V at *
      obtain ⟨t2, u3, z3, is3⟩ := V
      simp only [Prod.mk.injEq] at lk1 lk2 ag1 ag2 ag3 ko1 ko2 ko3
      obtain ⟨rfl, rfl, rfl⟩ := lk1
      subst ag1
      have EU := Lib.hid hU
      have ET := Lib.hid hT
      have EV := Lib.hid hV
      have CC : Hid (s1.core = t2.core) := lk2.trans ag3.symm
      have O1 : Hid (s1.ok ∧ s1.throw ≤ 100 ∧ s1.most ≤ 1048576) := ⟨ko1.1, by rw [ko1.2.1]; exact hsh.1, by rw [ko1.2.2]; exact hsh.2⟩
      have O2 : Hid (t1.ok ∧ t1.throw ≤ 100 ∧ t1.most ≤ 1048576) := ⟨ko2.1, by rw [ko2.2.1]; exact hth.1, by rw [ko2.2.2]; exact hth.2⟩
      have O3 : Hid (t2.ok ∧ t2.throw ≤ 100 ∧ t2.most ≤ 1048576) := ⟨ko3.1, by rw [ko3.2.1]; exact O2.out.2.1, by rw [ko3.2.2]; exact O2.out.2.2⟩
      have HU3 := Lib.hid ag2
      have hk60 : (k : Int) < (l.length : Int) := by omega
      clear hU hT hV lk2 ag2 ag3 ko1 ko2 ko3 hth hsh
      have HW0 := HW
      have y0 := (HW0.out.cell (p := ⟨b, off + k * 6, none⟩) hb).trans x0
      have y1 := (HW0.out.cell (p := ⟨b, off + k * 6 + 1, none⟩) hb).trans x1
      have y2 := (HW0.out.cell (p := ⟨b, off + k * 6 + 2, none⟩) hb).trans x2
      have y3 := (HW0.out.cell (p := ⟨b, off + k * 6 + 3, none⟩) hb).trans x3
      have y4 := (HW0.out.cell (p := ⟨b, off + k * 6 + 4, none⟩) hb).trans x4
      have y5 := (HW0.out.cell (p := ⟨b, off + k * 6 + 5, none⟩) hb).trans x5
      go_wp2_with fail
      refine (take_at gp S.enc.toArray s s1 kind seq tm fa fb fc u z is _ HS.out HSO.out.1 B1 B2 EU.out).mono ?_
      rintro e v ⟨rfl, huv⟩
      have HS1 := Lib.hid huv.1
      have HT1 := Lib.hid (HT.out.upd huv (Ne.symm hpq))
      have HWv := Lib.hid (HW.out.trans (huv.below HW.out.size hp))
      clear huv
      have v0 := (HWv.out.cell (p := ⟨b, off + k * 6, none⟩) hb).trans x0
      have v1 := (HWv.out.cell (p := ⟨b, off + k * 6 + 1, none⟩) hb).trans x1
      have v2 := (HWv.out.cell (p := ⟨b, off + k * 6 + 2, none⟩) hb).trans x2
      have v3 := (HWv.out.cell (p := ⟨b, off + k * 6 + 3, none⟩) hb).trans x3
      have v4 := (HWv.out.cell (p := ⟨b, off + k * 6 + 4, none⟩) hb).trans x4
      have v5 := (HWv.out.cell (p := ⟨b, off + k * 6 + 5, none⟩) hb).trans x5
      go_wp2_with fail
      refine (take_at gq S.enc.toArray t t1 kind seq tm fa fb fc u z is _ HT1.out HTO.out.1 B1 B2 ET.out).mono ?_
      rintro e q ⟨rfl, huq⟩
      have HT2 := Lib.hid huq.1
      have HS2 := Lib.hid (HS1.out.upd huq hpq)
      have HWq := Lib.hid (HWv.out.trans (huq.below HWv.out.size hq))
      clear huq
      have q0 := (HWq.out.cell (p := ⟨b, off + k * 6, none⟩) hb).trans x0
      have q1 := (HWq.out.cell (p := ⟨b, off + k * 6 + 1, none⟩) hb).trans x1
      have q2 := (HWq.out.cell (p := ⟨b, off + k * 6 + 2, none⟩) hb).trans x2
      have q3 := (HWq.out.cell (p := ⟨b, off + k * 6 + 3, none⟩) hb).trans x3
      have q4 := (HWq.out.cell (p := ⟨b, off + k * 6 + 4, none⟩) hb).trans x4
      have q5 := (HWq.out.cell (p := ⟨b, off + k * 6 + 5, none⟩) hb).trans x5
      go_wp2_with fail
      refine (take_at gq S.enc.toArray t1 t2 kind seq tm fa fb fc u3 z3 false _ HT2.out O2.out.1 B1 B2 EV.out).mono ?_
      rintro e r ⟨rfl, hur⟩
      have HT3 := Lib.hid hur.1
      have HS3 := Lib.hid (HS2.out.upd hur hpq)
      have HWr := Lib.hid (HWq.out.trans (hur.below HWq.out.size hq))
      clear hur
      have r0 := (HWr.out.cell (p := ⟨b, off + k * 6, none⟩) hb).trans x0
      by_cases hkind : kind < 1 ∨ 5 < kind
      · have hu3 : u3 = 2 := by rw [HU3.out, if_pos hkind]
        subst hu3
        rcases hkind with hk1 | hk1
        all_goals
          go_wp2_with fail
          go_roundw
          case rel => exact ⟨k + 1, s1, t2, by omega, by go_num, HS3.out, HT3.out, HWr.out, CC.out, O1.out, O3.out⟩
          case measure => simp [intOf] <;> omega
      · have hu3 : u3 = 1 := by rw [HU3.out, if_neg hkind]
        subst hu3
        clear hkind
        go_wp2_with fail
        go_roundw
        case rel => exact ⟨k + 1, s1, t2, by omega, by go_num, HS3.out, HT3.out, HWr.out, CC.out, O1.out, O3.out⟩
        case measure => simp [intOf] <;> omega
    · go_wp2_with fail
      refine (works_any _).mono ?_
      rintro e w9 ⟨rfl, hb⟩
      go_wp2_with fail
      go_ret
      exact ⟨rfl, HW.out.trans (hb.mono HW.out.size)⟩
end Go.Proofs.Ytgingkckdmdloaa
