/- Walks of the reference of layer 23. -/
import Derived.Test.YtokoopdkofgabaaRow
import Derived.Test.YtokoopdkofgabaaClrE
namespace Go.Proofs.Ytokoopdkofgabaa
open Go.RowKit

theorem ret_int {k : IntKind} {a b : Int} (h : a = b) : Ending.returned (.int k a) = .returned (.int k b) := by rw [h]

structure Fr where
  kind : Int
  seq : Int
  time : Int
  a : Int
  b : Int
  c : Int

def Fr.enc (f : Fr) : List Value := [.int .i64 f.kind, .int .u16 f.seq, .int .u32 f.time, .int .i32 f.a, .int .i32 f.b, .int .i32 f.c]
def encs (l : List Fr) : List Value := l.flatMap Fr.enc

theorem encs_len (l : List Fr) : (encs l).length = l.length * 6 := by
  induction l with
  | nil => rfl
  | cons f l ih => simp [encs, Fr.enc] at ih ⊢; omega

theorem encs_at (l : List Fr) (i k : Nat) (f : Fr) (h : l[i]? = some f) (hk : k < 6) : (encs l)[i * 6 + k]? = f.enc[k]? := by
  induction l generalizing i with
  | nil => simp at h
  | cons g l ih =>
    have e : encs (g :: l) = g.enc ++ encs l := rfl
    have hl : g.enc.length = 6 := rfl
    cases i with
    | zero =>
      simp at h; subst h
      rw [e, Nat.zero_mul, Nat.zero_add, List.getElem?_append_left (by omega)]
    | succ i =>
      rw [e, List.getElem?_append_right (by omega), hl]
      have := ih i (by simpa using h)
      rw [← this]; congr 1; omega

/-- The last place below n at which p holds; -1: there is none. -/
def lastIdx (p : Nat → Bool) : Nat → Int
  | 0 => -1
  | k + 1 => if p k then k else lastIdx p k

def kindAt (l : List Fr) (k : Nat) : Int := (l[k]?.map Fr.kind).getD 0

set_option maxHeartbeats 400000 in
theorem baro_any (vL vW vZ : Value) (l : List Fr) (w : World) (HL : Row w w.heap.size 6 vL l.length (encs l)) :
    Calls Try.prog 103 #[.agg #[vL, vW, vZ]] w fun e w' => e = .returned (.int .i64 (lastIdx (fun k => kindAt l k == 3) l.length)) ∧ Below w.heap.size w w' := by
  obtain ⟨A, c, rfl, hc1, hc2, -, hr⟩ := HL
  have HR := Lib.hid hr
  unfold maxLen at hc2
  clear hr
  go_enter Try.func103, Try.ntmps103
  go_wp2
  go_loop [3] (fun i => ∃ k : Nat, k ≤ l.length ∧ i = .int .i64 ((k : Int) - 1) ∧ lastIdx (fun k => kindAt l k == 3) l.length = lastIdx (fun k => kindAt l k == 3) k) (fun i => (intOf i + 1).toNat)
  case atStart => exact ⟨l.length, Nat.le_refl _, rfl, rfl⟩
  case round =>
    obtain ⟨k, hk, rfl, he⟩ := hrel
    have HE := Lib.hid he
    clear he
    rcases k with _ | k
    · go_wp2
      go_ret
      exact ⟨ret_int HE.out.symm, (Below.refl _ _).alloc (Nat.le_refl _) _⟩
    · obtain ⟨b, off, rfl, hb, hcell⟩ := HR.out (by omega)
      have hlt : k < l.length := by omega
      have hf : l[k]? = some l[k] := List.getElem?_eq_getElem hlt
      have hk0 := hcell (k * 6) (.int .i64 l[k].kind) (encs_at l k 0 l[k] hf (by omega))
      have hka : kindAt l k = l[k].kind := by simp [kindAt, hf]
      generalize l[k].kind = kd at *
      have HF := Lib.hid hka
      clear hcell hf hka
      go_wp2
      · go_ret
        exact ⟨ret_int (by rw [HE.out, lastIdx, HF.out]; simp [*]), (Below.refl _ _).alloc (Nat.le_refl _) _⟩
      · go_round
        case rel => exact ⟨k, by omega, rfl, by rw [HE.out, lastIdx, HF.out]; simp [*]⟩
        case measure => simp [intOf] <;> omega

def groundAt (l : List Fr) (ws : List Int) (k : Nat) : Bool := kindAt l k == 2 && (ws.getD k 0 == 0 || ws.getD k 0 == 5)

theorem ints_at' (zs : List Int) (k : IntKind) (i : Nat) (h : i < zs.length) : (zs.map (Value.int k))[i]? = some (.int k (zs.getD i 0)) := by
  simp [List.getElem?_eq_getElem h, List.getD]

set_option maxHeartbeats 400000 in
theorem ground_any (vL vW vZ : Value) (l : List Fr) (ws : List Int) (w : World) (HL : Row w w.heap.size 6 vL l.length (encs l)) (HW : Row w w.heap.size 1 vW l.length (ws.map (.int .i64))) (hlw : ws.length = l.length) :
    Calls Try.prog 104 #[.agg #[vL, vW, vZ]] w fun e w' => e = .returned (.int .i64 (lastIdx (groundAt l ws) l.length)) ∧ Below w.heap.size w w' := by
  obtain ⟨A, c, rfl, hc1, hc2, -, hr⟩ := HL
  obtain ⟨A', c', rfl, hc1', hc2', -, hr'⟩ := HW
  have HR := Lib.hid hr
  have HR' := Lib.hid hr'
  have HLW := Lib.hid hlw
  unfold maxLen at hc2 hc2'
  clear hr hr' hlw
  go_enter Try.func104, Try.ntmps104
  go_wp2
  go_loop [3] (fun i => ∃ k : Nat, k ≤ l.length ∧ i = .int .i64 ((k : Int) - 1) ∧ lastIdx (groundAt l ws) l.length = lastIdx (groundAt l ws) k) (fun i => (intOf i + 1).toNat)
  case atStart => exact ⟨l.length, Nat.le_refl _, rfl, rfl⟩
  case round =>
    obtain ⟨k, hk, rfl, he⟩ := hrel
    have HE := Lib.hid he
    clear he
    rcases k with _ | k
    · go_wp2
      go_ret
      exact ⟨ret_int HE.out.symm, (Below.refl _ _).alloc (Nat.le_refl _) _⟩
    · obtain ⟨b, off, rfl, hb, hcell⟩ := HR.out (by omega)
      obtain ⟨b', off', rfl, hb', hcell'⟩ := HR'.out (by omega)
      have hlt : k < l.length := by omega
      have hf : l[k]? = some l[k] := List.getElem?_eq_getElem hlt
      have hk0 := hcell (k * 6) (.int .i64 l[k].kind) (encs_at l k 0 l[k] hf (by omega))
      have hw0 := hcell' k _ (ints_at' ws .i64 k (by rw [HLW.out]; exact hlt))
      have hka : groundAt l ws k = (l[k].kind == 2 && (ws.getD k 0 == 0 || ws.getD k 0 == 5)) := by simp [groundAt, kindAt, hf]
      generalize l[k].kind = kd at *
      generalize ws.getD k 0 = wd at *
      have HF := Lib.hid hka
      clear hcell hcell' hf hka
      go_wp2_with fail
      all_goals first
        | (go_ret
           exact ⟨ret_int (by rw [HE.out, lastIdx, HF.out]; simp_all), (Below.refl _ _).alloc (Nat.le_refl _) _⟩)
        | (go_round
           case rel => exact ⟨k, by omega, rfl, by rw [HE.out, lastIdx, HF.out]; simp_all⟩
           case measure => simp [intOf] <;> omega)

/-- How many places from a on, d of them, meet p. -/
def cnt (p : Nat → Bool) (a : Nat) : Nat → Int
  | 0 => 0
  | d + 1 => cnt p a d + if p (a + d) then 1 else 0

theorem cnt_bd (p : Nat → Bool) (a d : Nat) : 0 ≤ cnt p a d ∧ cnt p a d ≤ d := by
  induction d with
  | zero => simp [cnt]
  | succ d ih => simp only [cnt]; split <;> omega

theorem lastIdx_bd (p : Nat → Bool) (n : Nat) : -1 ≤ lastIdx p n ∧ lastIdx p n < n := by
  induction n with
  | zero => simp [lastIdx]
  | succ n ih => simp only [lastIdx]; split <;> omega

def threwOf (l : List Fr) (ws : List Int) : Int := cnt (fun k => ws.getD k 0 == 4) (lastIdx (groundAt l ws) l.length + 1).toNat (l.length - (lastIdx (groundAt l ws) l.length + 1).toNat)

set_option maxHeartbeats 400000 in
theorem threw_any (vL vW vZ : Value) (l : List Fr) (ws : List Int) (w : World) (HL : Row w w.heap.size 6 vL l.length (encs l)) (HW : Row w w.heap.size 1 vW l.length (ws.map (.int .i64))) (hlw : ws.length = l.length) :
    Calls Try.prog 105 #[.agg #[vL, vW, vZ]] w fun e w' => e = .returned (.int .i64 (threwOf l ws)) ∧ Below w.heap.size w w' := by
  have HLL := Lib.hid HL
  have HWW := Lib.hid HW
  obtain ⟨A, c, rfl, hc1, hc2, -, -⟩ := HL
  obtain ⟨A', c', rfl, hc1', hc2', -, hr'⟩ := HW
  have HR' := Lib.hid hr'
  have HLW := Lib.hid hlw
  unfold maxLen at hc2 hc2'
  have hbd := lastIdx_bd (groundAt l ws) l.length
  obtain ⟨g, hg⟩ : ∃ g : Nat, lastIdx (groundAt l ws) l.length + 1 = (g : Int) := ⟨(lastIdx (groundAt l ws) l.length + 1).toNat, by omega⟩
  have HG : Hid (lastIdx (groundAt l ws) l.length = (g : Int) - 1) := by unfold Hid; omega
  have hgl : g ≤ l.length := by omega
  clear hr' hlw hg hbd
  go_enter Try.func105, Try.ntmps105
  go_wp2_with fail
  refine (ground_any _ _ vZ l ws _ ((HLL.out.alloc (Nat.le_refl _) _).more (by simp)) ((HWW.out.alloc (Nat.le_refl _) _).more (by simp)) HLW.out).mono ?_
  rintro e w1 ⟨rfl, hb1⟩
  rw [HG.out]
  have hx0 : w1.cell? ⟨w.heap.size, 0, none⟩ = some (.slice A l.length c) := (hb1.cell (p := ⟨w.heap.size, 0, none⟩) (by simp only [World.size_alloc]; omega)).trans (by simp)
  have hx1 : w1.cell? ⟨w.heap.size, 1, none⟩ = some (.slice A' l.length c') := (hb1.cell (p := ⟨w.heap.size, 1, none⟩) (by simp only [World.size_alloc]; omega)).trans (by simp)
  have HB := Lib.hid hb1
  clear hb1
  go_wp2_with fail
  go_loop [3, 4] (fun n i => ∃ d : Nat, g + d ≤ l.length ∧ i = .int .i64 ((g + d : Nat) : Int) ∧ n = .int .i64 (cnt (fun k => ws.getD k 0 == 4) g d)) (fun _ i => l.length - (intOf i).toNat)
  case atStart => exact ⟨0, by omega, rfl, rfl⟩
  case round =>
    obtain ⟨d, hd, rfl, rfl⟩ := hrel
    have hbd := cnt_bd (fun k => ws.getD k 0 == 4) g d
    have hs : cnt (fun k => ws.getD k 0 == 4) g (d + 1) = cnt (fun k => ws.getD k 0 == 4) g d + if ws.getD (g + d) 0 == 4 then 1 else 0 := rfl
    by_cases hlt : g + d < l.length
    · obtain ⟨b', off', rfl, hb', hcell'⟩ := HR'.out (by omega)
      have hw0 := hcell' (g + d) _ (ints_at' ws .i64 (g + d) (by rw [HLW.out]; exact hlt))
      replace hw0 : w1.cell? ⟨b', off' + (g + d), none⟩ = some (.int .i64 (ws.getD (g + d) 0)) := (HB.out.cell (p := ⟨b', off' + (g + d), none⟩) (by simp only [World.size_alloc]; omega)).trans ((World.cell?_alloc_lt w _ _ hb').trans hw0)
      generalize ws.getD (g + d) 0 = wd at *
      generalize cnt (fun k => ws.getD k 0 == 4) g d = q at *
      have HS := Lib.hid hs
      clear hcell' hs
      go_wp2_with fail
      all_goals
        go_round
        case rel => exact ⟨d + 1, by omega, by go_num, by rw [HS.out]; simp [*]⟩
        case measure => simp [intOf] <;> omega
    · have hfin : threwOf l ws = cnt (fun k => ws.getD k 0 == 4) g d := by
        have e1 : (lastIdx (groundAt l ws) l.length + 1).toNat = g := by rw [HG.out]; omega
        unfold threwOf
        rw [e1, show l.length - g = d from by omega]
      have HFN := Lib.hid hfin
      clear hs hfin
      go_wp2_with fail
      go_ret
      exact ⟨ret_int HFN.out.symm, ((Below.refl _ _).alloc (Nat.le_refl _) _).trans (HB.out.mono (by simp))⟩

def seqAt (l : List Fr) (k : Nat) : Int := (l[k]?.map Fr.seq).getD 0
def timeAt (l : List Fr) (k : Nat) : Int := (l[k]?.map Fr.time).getD 0
def aheadOf (a b : Int) : Int := (a - b + 65536) % 65536

set_option maxHeartbeats 400000 in
theorem ahead_any (a b : Int) (w : World) (ha : 0 ≤ a) (ha' : a < 65536) (hb : 0 ≤ b) (hb' : b < 65536) :
    Calls Try.prog 102 #[.int .u16 a, .int .u16 b] w fun e w' => e = .returned (.int .i64 (aheadOf a b)) ∧ w = w' := by
  go_enter Try.func102, Try.ntmps102
  go_wp2
  go_ret
  exact ⟨rfl, rfl⟩

/-- A line's three slices in memory: frames, what became of each, the grounds. -/
structure Lists (w : World) (B : Nat) (v : Value) (l : List Fr) (ws zs : List Int) : Prop where
  ex : ∃ vL vW vZ, v = .agg #[vL, vW, vZ] ∧ Row w B 6 vL l.length (encs l) ∧ Row w B 1 vW l.length (ws.map (.int .i64)) ∧ Row w B 1 vZ l.length (zs.map (.int .i64))
  lw : ws.length = l.length
  lz : zs.length = l.length

/-- Every number of a frame is in its kind's bounds. -/
def Fr.ok (f : Fr) : Prop := 0 ≤ f.seq ∧ f.seq < 65536 ∧ 0 ≤ f.time ∧ f.time < 4294967296 ∧ -2147483648 ≤ f.a ∧ f.a < 2147483648

def lateOf (l : List Fr) (seq time : Int) : Bool :=
  !(l.length == 0) && (aheadOf seq (seqAt l (l.length - 1)) == 0 || decide (32768 ≤ aheadOf seq (seqAt l (l.length - 1))) || decide (time < timeAt l (l.length - 1)))

set_option maxHeartbeats 400000 in
theorem late_nil (v : Value) (ws zs : List Int) (kind seq time a b c : Int) (w : World) (HL : Lists w w.heap.size v [] ws zs) :
    Calls Try.prog 68 #[v, frm kind seq time a b c] w fun e w' => e = .returned (.bool false) ∧ Below w.heap.size w w' := by
  obtain ⟨⟨vL, vW, vZ, rfl, ⟨A, cc, rfl, -, -, -, -⟩, -, -⟩, -, -⟩ := HL
  simp only [List.length_nil]
  unfold frm
  go_enter Try.func68, Try.ntmps68
  go_wp2
  go_ret
  exact ⟨rfl, ((Below.refl _ _).alloc (Nat.le_refl _) _).alloc (by simp) _⟩

end Go.Proofs.Ytokoopdkofgabaa
