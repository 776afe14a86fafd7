/- The line of package clearance and the reference's lists answer alike. -/
import Derived.Test.YtokoopdkofgabaaRef23H
namespace Go.Proofs.Ytokoopdkofgabaa
open Go.RowKit

structure Ru where
  age : Int
  jump : Int
  throw : Int
  most : Int

def refWhat (r : Ru) (q : Q23) (f : Fr) : Int × Int :=
  if f.kind = 3 then (0, 0) else if f.kind = 2 then refRadar r.jump r.throw r.most r.age q.l q.ws q.zs f.time f.a else (6, 0)

def refTake (r : Ru) (q : Q23) (f : Fr) : Q23 × Int × Int × Bool :=
  if f.kind < 1 ∨ 5 < f.kind then (q, 2, 0, false)
  else if lateOf q.l f.seq f.time then (q, 1, 0, false)
  else (⟨q.l ++ [f], q.ws ++ [(refWhat r q f).1], q.zs ++ [(refWhat r q f).2]⟩, (refWhat r q f).1, (refWhat r q f).2, f.kind == 2 && ((refWhat r q f).1 == 0 || (refWhat r q f).1 == 5))

theorem rtake_any (r : Ru) (v : Value) (q : Q23) (f : Fr) (w : World) (HL : Lists w w.heap.size v q.l q.ws q.zs) (hok : ∀ f ∈ q.l, f.ok) (hf : f.ok) (hzok : zsOk q.zs) (hn : q.l.length ≤ 1000) :
    Calls Try.prog 21 #[rul r.age r.jump r.throw r.most, v, frm f.kind f.seq f.time f.a f.b f.c] w (Took23 w (refTake r q f)) := by
  unfold refTake
  by_cases c1 : f.kind < 1 ∨ 5 < f.kind
  · rw [if_pos c1]; exact rtake_a r.age r.jump r.throw r.most v q.l q.ws q.zs f.kind f.seq f.time f.a f.b f.c w HL c1
  rw [if_neg c1]
  rcases Bool.eq_false_or_eq_true (lateOf q.l f.seq f.time) with c3 | c3
  · rw [if_pos c3]; exact rtake_b r.age r.jump r.throw r.most v q.l q.ws q.zs f w HL hok hf (by omega) (by omega) c3
  rw [if_neg (by simp [c3])]
  unfold refWhat
  by_cases d3 : f.kind = 3
  · have d2 : (f.kind == 2) = false := by simp [d3]
    rw [if_pos d3, d2]
    exact rtake_c r.age r.jump r.throw r.most v q.l q.ws q.zs f w HL hok hf hzok hn c3 (by omega) (by omega) (by simpa using d3) d2
  rw [if_neg d3]
  by_cases d2 : f.kind = 2
  · have d2' : (f.kind == 2) = true := by simpa using d2
    rw [if_pos d2, d2', Bool.true_and]
    by_cases c9 : (refRadar r.jump r.throw r.most r.age q.l q.ws q.zs f.time f.a).1 = 0
    · have h := rtake_e r.age r.jump r.throw r.most v q.l q.ws q.zs f w HL hok hf hzok hn c3 (by omega) (by omega) (by simpa using d3) d2' c9
      rw [c9]; exact h
    · have c9' : ((refRadar r.jump r.throw r.most r.age q.l q.ws q.zs f.time f.a).1 == 0) = false := by simpa using c9
      rw [c9', Bool.false_or]
      exact rtake_f r.age r.jump r.throw r.most v q.l q.ws q.zs f w HL hok hf hzok hn c3 (by omega) (by omega) (by simpa using d3) d2' c9'
  · have d2' : (f.kind == 2) = false := by simpa using d2
    rw [if_neg d2, d2']
    exact rtake_d r.age r.jump r.throw r.most v q.l q.ws q.zs f w HL hok hf hzok hn c3 (by omega) (by omega) (by simpa using d3) d2'

/-! The plain law. -/
theorem lastIdx_congr {p q : Nat → Bool} {n : Nat} (h : ∀ k, k < n → p k = q k) : lastIdx p n = lastIdx q n := by
  induction n with
  | zero => rfl
  | succ n ih =>
    simp only [lastIdx]
    rw [h n (by omega), ih (fun k hk => h k (by omega))]
theorem cnt_congr {p q : Nat → Bool} {a n : Nat} (h : ∀ k, k < n → p (a + k) = q (a + k)) : cnt p a n = cnt q a n := by
  induction n with
  | zero => rfl
  | succ n ih =>
    simp only [cnt]
    rw [h n (by omega), ih (fun k hk => h k (by omega))]

theorem kindAt_snoc (l : List Fr) (f : Fr) (k : Nat) (hk : k < l.length) : kindAt (l ++ [f]) k = kindAt l k := by simp [kindAt, List.getElem?_append_left hk]
theorem kindAt_last (l : List Fr) (f : Fr) : kindAt (l ++ [f]) l.length = f.kind := by simp [kindAt]
theorem baroIdx_snoc (l : List Fr) (f : Fr) : baroIdx (l ++ [f]) = if f.kind = 3 then (l.length : Int) else baroIdx l := by
  unfold baroIdx
  rw [List.length_append, List.length_singleton]
  simp only [lastIdx, kindAt_last]
  rw [lastIdx_congr (q := fun k => kindAt l k == 3) (fun k hk => by rw [kindAt_snoc l f k hk])]
  by_cases h : f.kind = 3 <;> simp [h]
theorem getD_snoc (ws : List Int) (u : Int) (k : Nat) (hk : k < ws.length) : (ws ++ [u]).getD k 0 = ws.getD k 0 := by
  simp [List.getD, List.getElem?_append_left hk]
theorem getD_last (ws : List Int) (u : Int) : (ws ++ [u]).getD ws.length 0 = u := by simp [List.getD]
theorem groundAt_snoc (l : List Fr) (ws : List Int) (f : Fr) (u : Int) (hw : ws.length = l.length) (k : Nat) (hk : k < l.length) : groundAt (l ++ [f]) (ws ++ [u]) k = groundAt l ws k := by
  unfold groundAt
  rw [kindAt_snoc l f k hk, getD_snoc ws u k (by omega)]
theorem groundAt_last (l : List Fr) (ws : List Int) (f : Fr) (u : Int) (hw : ws.length = l.length) : groundAt (l ++ [f]) (ws ++ [u]) l.length = (f.kind == 2 && (u == 0 || u == 5)) := by
  unfold groundAt
  rw [kindAt_last, ← hw, getD_last]
theorem groundIdx_snoc (l : List Fr) (ws : List Int) (f : Fr) (u : Int) (hw : ws.length = l.length) :
    groundIdx (l ++ [f]) (ws ++ [u]) = if (f.kind == 2 && (u == 0 || u == 5)) = true then (l.length : Int) else groundIdx l ws := by
  unfold groundIdx
  rw [List.length_append, List.length_singleton]
  simp only [lastIdx, groundAt_last l ws f u hw]
  rw [lastIdx_congr (groundAt_snoc l ws f u hw)]
theorem threwOf_ground (l : List Fr) (ws : List Int) (f : Fr) (u : Int) (hw : ws.length = l.length) (h : (f.kind == 2 && (u == 0 || u == 5)) = true) : threwOf (l ++ [f]) (ws ++ [u]) = 0 := by
  have e := groundIdx_snoc l ws f u hw
  rw [if_pos h] at e
  unfold groundIdx at e
  unfold threwOf
  rw [e, List.length_append, List.length_singleton]
  have : (l.length + 1 - ((l.length : Int) + 1).toNat) = 0 := by omega
  rw [this]; rfl
theorem threwOf_more (l : List Fr) (ws : List Int) (f : Fr) (u : Int) (hw : ws.length = l.length) (h : (f.kind == 2 && (u == 0 || u == 5)) = false) : threwOf (l ++ [f]) (ws ++ [u]) = threwOf l ws + if u = 4 then 1 else 0 := by
  have e := groundIdx_snoc l ws f u hw
  rw [if_neg (by simp [h])] at e
  have bd := lastIdx_bd (groundAt l ws) l.length
  unfold groundIdx at e
  unfold threwOf
  rw [e, List.length_append, List.length_singleton]
  generalize lastIdx (groundAt l ws) l.length = g at *
  obtain ⟨j, hj⟩ : ∃ j : Nat, g + 1 = j := ⟨(g + 1).toNat, by omega⟩
  rw [hj, Int.toNat_natCast, show l.length + 1 - j = (l.length - j) + 1 from by omega]
  simp only [cnt]
  rw [cnt_congr (q := fun k => ws.getD k 0 == 4) (fun k hk => by rw [getD_snoc ws u _ (by omega)])]
  have e2 : (ws ++ [u]).getD (j + (l.length - j)) 0 = u := by rw [show j + (l.length - j) = ws.length from by omega]; exact getD_last ws u
  simp only [e2]
  by_cases h4 : u = 4 <;> simp [h4]

/-- The line's state tells what the lists hold. -/
structure Inv (r : Ru) (s : Ln) (q : Q23) : Prop where
  ru : s.age = r.age ∧ s.jump = r.jump ∧ s.throw = r.throw ∧ s.most = r.most
  lw : q.ws.length = q.l.length
  lz : q.zs.length = q.l.length
  fok : ∀ f ∈ q.l, f.ok
  zok : zsOk q.zs
  sany : s.any = !(q.l.length == 0)
  sq : 0 < q.l.length → s.seq = seqAt q.l (q.l.length - 1) ∧ s.time = timeAt q.l (q.l.length - 1)
  shas : s.has = decide (0 ≤ baroIdx q.l)
  high : 0 ≤ baroIdx q.l → s.high = aAt q.l (baroIdx q.l).toNat ∧ s.since = timeAt q.l (baroIdx q.l).toNat
  sbased : s.based = decide (0 ≤ groundIdx q.l q.ws)
  last : 0 ≤ groundIdx q.l q.ws → s.last = q.zs.getD (groundIdx q.l q.ws).toNat 0 ∧ s.threw = threwOf q.l q.ws
  hok : s.ok
  tle : s.threw ≤ r.throw

/-- Rules that are right. -/
def Ru.ok (r : Ru) : Prop := 1 ≤ r.jump ∧ 0 ≤ r.throw ∧ r.throw ≤ 100 ∧ 1 ≤ r.most ∧ r.most ≤ 1048576

theorem Inv.new (r : Ru) (hr : r.ok) : Inv r (Ln.new r.age r.jump r.throw r.most) ⟨[], [], []⟩ := by
  obtain ⟨h1, h2, h3, h4, h5⟩ := hr
  refine ⟨⟨rfl, rfl, rfl, rfl⟩, rfl, rfl, by simp, by simp [zsOk], rfl, by simp, rfl, ?_, rfl, ?_, ?_, ?_⟩
  · intro h; simp [baroIdx, lastIdx] at h
  · intro h; simp [groundIdx, lastIdx] at h
  · simp [Ln.ok, Ln.new]; omega
  · simp [Ln.new]; omega

theorem late_eq (r : Ru) (s : Ln) (q : Q23) (f : Fr) (hf : f.ok) (h : Inv r s q) : s.late f.seq f.time = lateOf q.l f.seq f.time := by
  unfold Ln.late lateOf
  rw [h.sany]
  by_cases hn : q.l.length = 0
  · simp [hn]
  · obtain ⟨e1, e2⟩ := h.sq (by omega)
    rw [e1, e2]
    congr 1
    obtain ⟨g0, g1, _⟩ := hf
    have hb : 0 ≤ seqAt q.l (q.l.length - 1) ∧ seqAt q.l (q.l.length - 1) < 65536 := by
      have hlt : q.l.length - 1 < q.l.length := by omega
      have hq := h.fok _ (List.getElem_mem hlt)
      have : seqAt q.l (q.l.length - 1) = (q.l[q.l.length - 1]).seq := by simp [seqAt, List.getElem?_eq_getElem hlt]
      rw [this]; exact ⟨hq.1, hq.2.1⟩
    generalize seqAt q.l (q.l.length - 1) = b at *
    congr 1
    unfold newerB aheadOf
    rw [Bool.eq_iff_iff]
    simp
    omega
end Go.Proofs.Ytokoopdkofgabaa
