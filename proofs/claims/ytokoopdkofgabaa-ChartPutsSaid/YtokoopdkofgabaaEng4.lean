/- The engine: memory, calls, the way in and the way out. -/
import Derived.Test.YtokoopdkofgabaaEng3
import Derived.Great.BuildSlice
import Derived.Deep.AppendLies
import Derived.Laws.ResultCell

namespace Go.Proofs.Ytokoopdkofgabaa
open Go.RowKit

/-- A cell reads so, whatever the world told by the lists. -/
def Cell (w0 : World) (W : Nat → Prop) (H : List HE) (b o : Nat) (v : Value) : Prop := ∀ w, St w0 W H w → w.cell? ⟨b, o, none⟩ = some v
def Range (w0 : World) (W : Nat → Prop) (H : List HE) (b o : Nat) (cs : List Value) : Prop := ∀ w, St w0 W H w → w.rangeAt b o cs

section
variable {w0 w : World} {W : Nat → Prop} {H R : List HE} {b o : Nat} {t : TypeId} {cs : List Value} {v : Value}
theorem St.has {x : HE} (h : St w0 W H w) (hx : Has H x R) : x.holds w := (h.perm hx.perm).own.holds x (List.mem_cons_self ..)
theorem Cell.blk (hm : Has H (.blk b t cs) R) (hc : cs[o]? = some v) : Cell w0 W H b o v := fun w hw => by
  have : w.heap[b]? = some (.cells cs.toArray t (0, 0)) := hw.has hm
  rw [cell_of_row w b o _ t (0, 0) this]; simpa using hc
theorem Cell.row {n c e s : Nat} {xs : List Value} (hm : Has H (.row (.slice (some ⟨b, 0, none⟩) n c) e s n xs) R) (hc : xs[o]? = some v) : Cell w0 W H b o v := fun w hw => by
  obtain ⟨hl, h⟩ := hw.has hm
  rcases h with ⟨h0, _⟩ | ⟨g, cap, cur, hv, _, hg, hnc, _, hcs, hx⟩
  · cases h0
  · injection hv with h1 _ _; injection h1 with h1; injection h1 with h1 _ _; subst h1
    rw [cell_of_row w b o _ _ (0, 0) hg]
    have ho : o < n * s := by rw [← hl]; exact (List.getElem?_eq_some_iff.1 hc).1
    rw [← hx, List.getElem?_take_of_lt ho] at hc
    simpa using hc
theorem Cell.old (hb : b < w0.heap.size) (hW : ¬ W b) (hc : w0.cell? ⟨b, o, none⟩ = some v) : Cell w0 W H b o v := fun w hw =>
  (World.cell?_of_block (w := w0) (a := ⟨b, o, none⟩) (hw.old b hb hW)).trans hc
theorem Range.of_cells (h : ∀ j u, cs[j]? = some u → Cell w0 W H b (o + j) u) : Range w0 W H b o cs := fun w hw j u hu => h j u hu w hw
theorem Range.blk {all : List Value} (hm : Has H (.blk b t all) R) (hc : ∀ j u, cs[j]? = some u → all[o + j]? = some u) : Range w0 W H b o cs := .of_cells fun j u hu => .blk hm (hc j u hu)
theorem Range.cut {all : List Value} {sz : Nat} (hm : Has H (.blk b t all) R) (hc : (all.drop o).take sz = cs) : Range w0 W H b o cs := .blk hm fun j u hu => by
  subst hc
  rw [List.getElem?_take] at hu
  split at hu
  · rwa [List.getElem?_drop] at hu
  · cases hu
end

/-- A slice that reads as xs, in memory that nobody writes. -/
def Ro (w0 : World) (W : Nat → Prop) (size : Nat) (u : Value) (m : Nat) (xs : List Value) : Prop :=
  ∃ A c, u = .slice A m c ∧ m ≤ c ∧ c ≤ maxLen ∧ xs.length = m * size ∧ (0 < m → ∃ b off, A = some ⟨b, off, none⟩ ∧ b < w0.heap.size ∧ ¬ W b ∧ ∀ j v, xs[j]? = some v → w0.cell? ⟨b, off + j, none⟩ = some v)
/-- A slice that reads as xs, whatever the world told by the lists. -/
def Src (w0 : World) (W : Nat → Prop) (H : List HE) (size : Nat) (u : Value) (m : Nat) (xs : List Value) : Prop :=
  ∃ A c, u = .slice A m c ∧ m ≤ c ∧ c ≤ maxLen ∧ xs.length = m * size ∧ (0 < m → ∃ b off, A = some ⟨b, off, none⟩ ∧ ∀ j v, xs[j]? = some v → Cell w0 W H b (off + j) v)

theorem Ro.nil (w0 : World) (W : Nat → Prop) (size : Nat) : Ro w0 W size (.slice none 0 0) 0 [] := ⟨none, 0, rfl, Nat.le_refl _, by simp [maxLen], by simp, fun h => absurd h (by omega)⟩
theorem Ro.src {w0 : World} {W : Nat → Prop} {size m : Nat} {u : Value} {xs : List Value} (h : Ro w0 W size u m xs) (H : List HE) : Src w0 W H size u m xs := by
  obtain ⟨A, c, h1, h2, h3, h4, h5⟩ := h
  exact ⟨A, c, h1, h2, h3, h4, fun hm => let ⟨b, off, e1, e2, e3, e4⟩ := h5 hm; ⟨b, off, e1, fun j v hv => .old e2 e3 (e4 j v hv)⟩⟩
theorem Src.row {w0 : World} {W : Nat → Prop} {H R : List HE} {size m c e : Nat} {A : Option Addr} {xs : List Value} {w1 : World} (hw : St w0 W H w1) (hm : Has H (.row (.slice A m c) e size m xs) R) : Src w0 W H size (.slice A m c) m xs := by
  obtain ⟨hl, h⟩ := hw.has hm
  rcases h with ⟨h0, h1⟩ | ⟨g, cap, cur, hv, _, hg, hnc, hcm, hcs, hx⟩
  · injection h0 with e1 e2 e3; subst e1 e2 e3
    exact ⟨none, 0, rfl, Nat.le_refl _, by simp [maxLen], hl, fun h => absurd h (by omega)⟩
  · injection hv with e1 e2 e3; subst e1 e3
    exact ⟨_, _, rfl, hnc, hcm, hl, fun _ => ⟨g, 0, rfl, fun j v hv => by rw [Nat.zero_add]; exact .row hm hv⟩⟩
/-- For a callee: what it is not given to write, it may read. -/
theorem Ro.go {w0 w : World} {W : Nat → Prop} {H S R : List HE} {size m : Nat} {u : Value} {xs : List Value} (h : Ro w0 W size u m xs) (hw : St w0 W H w) (hs : Split H S R) : Ro w (blocks S) size u m xs := by
  obtain ⟨A, c, h1, h2, h3, h4, h5⟩ := h
  refine ⟨A, c, h1, h2, h3, h4, fun hm => ?_⟩
  obtain ⟨b, off, e1, e2, e3, e4⟩ := h5 hm
  refine ⟨b, off, e1, Nat.lt_of_lt_of_le e2 hw.size, ?_, fun j v hv => Cell.old e2 e3 (e4 j v hv) w hw⟩
  rintro ⟨x, hx, hxb⟩
  rcases (hw.perm hs.perm).mine x (List.mem_append_left _ hx) b hxb with h0 | h0
  · exact e3 h0
  · omega
theorem Ro.row {w0 w : World} {W : Nat → Prop} {H S R T : List HE} {size m c e : Nat} {A : Option Addr} {xs : List Value} (hw : St w0 W H w) (hs : Split H S R) (hm : Has R (.row (.slice A m c) e size m xs) T) : Ro w (blocks S) size (.slice A m c) m xs := by
  have h1 := hw.perm hs.perm
  have hmem : HE.row (.slice A m c) e size m xs ∈ R := hm.perm.mem_iff.2 (List.mem_cons_self ..)
  obtain ⟨hl, h⟩ := h1.own.holds _ (List.mem_append_right _ hmem)
  rcases h with ⟨h0, _⟩ | ⟨g, cap, cur, hv, _, hg, hnc, hcm, hcs, hx⟩
  · injection h0 with e1 e2 e3; subst e1 e2 e3
    exact ⟨none, 0, rfl, Nat.le_refl _, by simp [maxLen], hl, fun h => absurd h (by omega)⟩
  · injection hv with e1 e2 e3; subst e1 e3
    refine ⟨_, _, rfl, hnc, hcm, hl, fun _ => ⟨g, 0, rfl, (Array.getElem?_eq_some_iff.1 hg).1, ?_, fun j v hv => ?_⟩⟩
    · rintro ⟨x, hx', hxb⟩
      rcases (List.pairwise_append.1 h1.own.apart).2.2 x hx' _ hmem with h0 | h0
      · rw [h0] at hxb; cases hxb
      · exact h0 (by rw [hxb]; rfl)
    · rw [cell_of_row w g _ _ _ (0, 0) hg]
      have hj : j < m * size := by rw [← hl]; exact (List.getElem?_eq_some_iff.1 hv).1
      rw [← hx, List.getElem?_take_of_lt hj] at hv
      simpa using hv

section
variable {F : Fence} {n : Nat} {P : Program} {N : Nat} {ds : List Deferred} {w0 : World} {W : Nat → Prop} {σ : List (Nat × Value)} {H R : List HE} {Q : Exit → Act → World → Prop} {K : Act → World → Prop}
variable {d : Nat} {ty : TypeId} {pos : String} {aft : Array Edge} {gd : Option (Nat × Bool)} {o : Oper}

theorem run_loadPlain {t : TypeId} {dd : TypeDesc} (hu : P.underlying t = some dd) (ha : aggB dd = false) {p : Addr} {v : Value} {w : World} (hc : w.cell? p = some v) : (loadVar t p).run P w = .ok v w := by
  have hagg : (isAgg t).run P w = .ok false w := by
    unfold isAgg
    rw [Sem.run_bind, run_underlying hu w]
    cases dd <;> simp [aggB] at ha <;> rfl
  simp [loadVar, Sem.run_bind, hagg, hc]
theorem r_load [Wide F] {t : TypeId} {dd : TypeDesc} {x : Operand} {b q : Nat} {v : Value} [Und P t dd] (hx : ev σ x = some (.pointer (some ⟨b, q, none⟩))) (ha : aggB dd = false) (hc : Cell w0 W H b q v) (hdN : Nat.blt d N = true)
    (h : J N ds w0 W ((d, v) :: σ) H K) : OJ F n P N ds w0 W σ H ⟨some d, .load t x, ty, pos, aft, gd⟩ K Q :=
  o_val (by simp) rfl hdN (fun a w ha' hw => by
    simp [execOp, ha'.eval hx, Instr.loadAt, Instr.sureAddr, run_loadPlain (Und.h (P := P) (t := t)) ha (hc w hw)]) h
theorem Inf.size {t sz bs : Nat} {z : Value} [h : Inf P t sz bs z] : (P.info? t).map (·.size) = some sz := by
  obtain ⟨i, h1, -, h2, -⟩ := h.h; simp [h1, h2]
theorem r_loadAgg [Wide F] {t sz bs : Nat} {z : Value} {dd : TypeDesc} {x : Operand} {b q : Nat} {cs : List Value} [Und P t dd] [Inf P t sz bs z] (hx : ev σ x = some (.pointer (some ⟨b, q, none⟩))) (ha : aggB dd = true) (hc : Range w0 W H b q cs) (hl : cs.length = sz) (hdN : Nat.blt d N = true)
    (h : J N ds w0 W ((d, .agg cs.toArray) :: σ) H K) : OJ F n P N ds w0 W σ H ⟨some d, .load t x, ty, pos, aft, gd⟩ K Q :=
  o_val (by simp) rfl hdN (fun a w ha' hw => by
    have hr : dd.isRow = true := by cases dd <;> simp_all [aggB]
    have := run_loadAt_mid (P := P) w b q t cs dd (hc w hw) (Und.h (P := P) (t := t)) hr (by rw [hl]; exact Inf.size)
    simp [execOp, ha'.eval hx, this]) h

theorem o_new [hF : Wide F] {d : Nat} (hnd : ∀ c, o.op ≠ .defer c) (hd : o.dst = some d) (hdN : Nat.blt d N = true) (f : Nat → Value) (cs : List Value) (t : TypeId)
    (hrun : ∀ a w, Tm N ds σ a → St w0 W H w → (execOp a.eval o).run P w = .ok (.value (f w.heap.size)) (w.alloc (.cells cs.toArray t)))
    (h : ∀ b, J N ds w0 W ((d, f b) :: σ) (.blk b t cs :: H) K) : OJ F n P N ds w0 W σ H o K Q := by
  intro a w ha hw
  refine ⟨fun f _ => hF.out.fn f, ?_⟩
  rw [Oper.semAt_plain F _ _ hnd, hrun a w ha hw, Oper.uponIn_value, hd]
  exact h _ _ _ (ha.put d _ (by simpa using hdN)) (hw.alloc cs t)
theorem r_alloc [Wide F] {e sz bs : Nat} {z : Value} {zs : List Value} [hI : Inf P e sz bs z] (hz : z.cells.toList = zs) (hdN : Nat.blt d N = true)
    (h : ∀ b, J N ds w0 W ((d, .pointer (some ⟨b, 0, none⟩)) :: σ) (.blk b e zs :: H) K) : OJ F n P N ds w0 W σ H ⟨some d, .alloc e, ty, pos, aft, gd⟩ K Q :=
  o_new (by simp) rfl hdN (fun b => .pointer (some ⟨b, 0, none⟩)) zs e (fun a w _ _ => by
    obtain ⟨i, h1, h2, -⟩ := hI.h
    subst hz
    simp [execOp, Instr.alloc, zeroValue, typeInfo, h1, h2, newVar, newRow]) h
theorem r_box [Wide F] {e : Nat} {x : Operand} {v : Value} {vs : List Value} (hx : ev σ x = some v) (hv : v.cells.toList = vs) (hdN : Nat.blt d N = true)
    (h : ∀ b, J N ds w0 W ((d, .pointer (some ⟨b, 0, none⟩)) :: σ) (.blk b e vs :: H) K) : OJ F n P N ds w0 W σ H ⟨some d, .box e x, ty, pos, aft, gd⟩ K Q :=
  o_new (by simp) rfl hdN (fun b => .pointer (some ⟨b, 0, none⟩)) vs e (fun a w ha _ => by
    subst hv
    simp [execOp, ha.eval hx, Instr.box, newVar, newRow]) h

/-- A new block as a row that append may grow. -/
theorem St.rowed {w : World} {b e sz m : Nat} {cs : List Value} (h : St w0 W (.blk b e cs :: H) w) (hl : cs.length = m * sz) (hm : m ≤ maxLen) : St w0 W (.row (.slice (some ⟨b, 0, none⟩) m m) e sz m cs :: H) w := by
  refine h.turn (.here _ _) ?_ rfl rfl rfl (Nat.le_refl _) (fun _ _ _ => rfl) (.inl rfl)
  have := h.own.holds _ (List.mem_cons_self ..)
  exact ⟨hl, .inr ⟨b, m, cs.toArray, rfl, Nat.zero_le _, this, Nat.le_refl _, hm, by simpa using hl, by simp [← hl]⟩⟩
theorem j_rowed {b e sz m : Nat} {cs : List Value} {q : Act → World → Prop} (hl : cs.length = m * sz) (hm : m ≤ maxLen) (h : J N ds w0 W σ (.row (.slice (some ⟨b, 0, none⟩) m m) e sz m cs :: H) q) : J N ds w0 W σ (.blk b e cs :: H) q :=
  fun a w ha hw => h a w ha (hw.rowed hl hm)

def evs (σ : List (Nat × Value)) : List (Nat × Operand) → Option (List (Nat × Value))
  | [] => some []
  | (i, x) :: r => match ev σ x, evs σ r with
    | some v, some vs => some ((i, v) :: vs)
    | _, _ => none
theorem evs_map {a : Act} (ha : Tm N ds σ a) : ∀ {l : List (Nat × Operand)} {vs : List (Nat × Value)}, evs σ l = some vs → l.map (fun p => (p.1, a.eval p.2)) = vs
  | [], vs, h => by simp [evs] at h; simp [h]
  | (i, x) :: r, vs, h => by
    simp only [evs] at h
    cases hx : ev σ x with
    | none => simp [hx] at h
    | some v =>
      cases hr : evs σ r with
      | none => simp [hx, hr] at h
      | some us =>
        simp [hx, hr] at h
        subst h
        simp [ha.eval hx, evs_map ha hr]
/-- A slice literal, not empty. -/
theorem r_buildSlice [Wide F] {t e sz bs len : Nat} {z : Value} {parts : Array (Nat × Operand)} {vs : List (Nat × Value)} {cs : List Value} [Und P t (.slice e)] [hI : Inf P e sz bs z] (hv : evs σ parts.toList = some vs)
    (hs : Nat.ble (len * sz) 16777216 = true) (hp : Nat.beq (len * sz) 0 = false)
    (hf : Instr.fill (fun i => some (i * sz, sz)) ((Array.range (len * sz)).map (z.cells[· % z.cells.size]!)) vs = some cs.toArray) (hl : cs.length = len * sz) (hdN : Nat.blt d N = true)
    (h : ∀ b, J N ds w0 W ((d, .slice (some ⟨b, 0, none⟩) len len) :: σ) (.row (.slice (some ⟨b, 0, none⟩) len len) e sz len cs :: H) K) : OJ F n P N ds w0 W σ H ⟨some d, .buildSlice t len parts, ty, pos, aft, gd⟩ K Q :=
  o_new (by simp) rfl hdN (fun b => .slice (some ⟨b, 0, none⟩) len len) cs e (fun a w ha _ => by
    obtain ⟨i, h1, h2, h3, -⟩ := hI.h
    have hp' : ¬ len * sz = 0 := fun e0 => by rw [e0] at hp; cases hp
    have := run_buildSlice (P := P) w t e len (parts.map fun (i, x) => (i, a.eval x)) cs.toArray i z (Und.h (P := P) (t := t)) h1 h2 (by rw [h3]; have := Nat.le_of_ble_eq_true hs; omega) (by rw [h3]; exact hp')
      (by rw [h3, Array.toList_map]; rw [show (List.map (fun x : Nat × Operand => match x with | (i, x) => (i, a.eval x)) parts.toList) = vs from evs_map ha hv]; exact hf)
    simp only [execOp, Sem.run_bind, this, Result.andThen_ok, Sem.run_pure]) (fun b => j_rowed hl (by
      have h1 : len ≤ len * sz := by
        rcases Nat.eq_zero_or_pos sz with h0 | h0
        · subst h0; cases hp
        · exact Nat.le_mul_of_pos_right _ h0
      have := Nat.le_of_ble_eq_true hs
      simp only [maxLen]; omega) (h b))
/-- A slice literal, empty. -/
theorem r_buildSlice0 [Wide F] {t e sz bs : Nat} {z : Value} [Und P t (.slice e)] [hI : Inf P e sz bs z] (hdN : Nat.blt d N = true)
    (h : ∀ b, J N ds w0 W ((d, .slice (some ⟨b, 0, none⟩) 0 0) :: σ) (.row (.slice (some ⟨b, 0, none⟩) 0 0) e sz 0 [] :: H) K) : OJ F n P N ds w0 W σ H ⟨some d, .buildSlice t 0 #[], ty, pos, aft, gd⟩ K Q :=
  o_new (by simp) rfl hdN (fun b => .slice (some ⟨b, 0, none⟩) 0 0) [] e (fun a w ha _ => by
    obtain ⟨i, h1, h2, h3, -⟩ := hI.h
    simp [execOp, Instr.buildSlice, run_underlying (Und.h (P := P) (t := t)), sizeOf, typeInfo, h1, Instr.fill, newRow]
    have e0 : (Array.range 0).map (fun _ => (default : Value)) = #[] := by apply Array.ext <;> simp
    rw [e0]) (fun b => j_rowed (by simp) (by simp [maxLen]) (h b))

theorem r_slit [Wide F] {t e sz bs len : Nat} {z : Value} {parts : Array (Nat × Operand)} {vs : List (Nat × Value)} {cs : List Value} [Und P t (.slice e)] [hI : Inf P e sz bs z] (hv : evs σ parts.toList = some vs)
    (hcs : vs.flatMap (fun p => p.2.cells.toList) = cs) (hs : Nat.ble (len * sz) 16777216 = true) (hp : Nat.beq (len * sz) 0 = false)
    (hf : Instr.fill (fun i => some (i * sz, sz)) ((Array.range (len * sz)).map (z.cells[· % z.cells.size]!)) vs = some (vs.flatMap (fun p => p.2.cells.toList)).toArray) (hl : cs.length = len * sz) (hdN : Nat.blt d N = true)
    (h : ∀ b, J N ds w0 W ((d, .slice (some ⟨b, 0, none⟩) len len) :: σ) (.row (.slice (some ⟨b, 0, none⟩) len len) e sz len cs :: H) K) : OJ F n P N ds w0 W σ H ⟨some d, .buildSlice t len parts, ty, pos, aft, gd⟩ K Q := by
  subst hcs
  exact r_buildSlice hv hs hp hf hl hdN h

theorem o_skip [hF : Wide F] (hnd : ∀ c, o.op ≠ .defer c) (hd : o.dst = none) {H' : List HE}
    (hrun : ∀ a w, Tm N ds σ a → St w0 W H w → ∃ w', (execOp a.eval o).run P w = .ok .skip w' ∧ St w0 W H' w') (h : J N ds w0 W σ H' K) : OJ F n P N ds w0 W σ H o K Q := by
  intro a w ha hw
  obtain ⟨w', hr, hw'⟩ := hrun a w ha hw
  refine ⟨fun f _ => hF.out.fn f, ?_⟩
  rw [Oper.semAt_plain F _ _ hnd, hr, Oper.uponIn_skip, hd]
  exact h _ _ (ha.put_none _) hw'

theorem run_storeOne {t sz bs : Nat} {z : Value} [hI : Inf P t sz bs z] (hsz : sz = 1) {p : Addr} {v old : Value} {w : World} (h1 : v.oneCell' = true) (hc : w.cell? p = some old) (hf : w.frozen? p = false) : (Instr.storeAt t (.pointer (some p)) v).run P w = .ok () (w.setCell p v) := by
  obtain ⟨i, e1, -, e2, -⟩ := hI.h
  have hvs : v.cells = #[v] := by cases v <;> simp [Value.oneCell'] at h1 <;> rfl
  have ha : p.add 0 = p := by simp [Addr.add]
  simp [Instr.storeAt, Instr.sureAddr, storeVar, sizeOf, typeInfo, e1, e2, hsz, hvs, storeCells, ha, run_store P w p v _ h1, stored, hc, hf]

theorem setCell_blk {w : World} {b o : Nat} {t : TypeId} {cs : List Value} {v : Value} (h : w.heap[b]? = some (.cells cs.toArray t (0, 0))) : (w.setCell ⟨b, o, none⟩ v).heap[b]? = some (.cells (cs.set o v).toArray t (0, 0)) := by
  simp [World.setCell, Array.getElem?_modify, h]
theorem frozen_blk {w : World} {b o : Nat} {t : TypeId} {cs : Array Value} (h : w.heap[b]? = some (.cells cs t (0, 0))) : w.frozen? ⟨b, o, none⟩ = false := by
  simp [World.frozen?, h]

theorem r_store [Wide F] {t sz bs : Nat} {z : Value} {x y : Operand} {b q tb : Nat} {v : Value} {cs cs' : List Value} [Inf P t sz bs z] (hsz : Nat.beq sz 1 = true) (hx : ev σ x = some (.pointer (some ⟨b, q, none⟩))) (hy : ev σ y = some v) (h1 : v.oneCell' = true)
    (hm : Has H (.blk b tb cs) R) (hq' : Nat.blt q cs.length = true) (hcs : cs.set q v = cs')
    (h : J N ds w0 W σ (.blk b tb cs' :: R) K) : OJ F n P N ds w0 W σ H ⟨none, .store t x y, ty, pos, aft, gd⟩ K Q :=
  o_skip (by simp) rfl (fun a w ha hw => by
    have hq : q < cs.length := by simpa using hq'
    have hb : w.heap[b]? = some (.cells cs.toArray tb (0, 0)) := hw.has hm
    have hc : w.cell? ⟨b, q, none⟩ = some cs[q] := by rw [cell_of_row w b q _ tb (0, 0) hb]; simp [hq]
    refine ⟨w.setCell ⟨b, q, none⟩ v, by
      simp [execOp, ha.eval hx, ha.eval hy, run_storeOne (P := P) (t := t) (Nat.eq_of_beq_eq_true hsz) h1 hc (frozen_blk hb)], ?_⟩
    subst hcs
    refine hw.turn hm (setCell_blk hb) rfl rfl rfl (by simp [World.setCell]) (fun k _ hk => Below.heap_setCell _ _ _ _ (fun e => hk (by rw [e]; rfl))) (.inl rfl)) h
/-- An element of a row of one's own. -/
theorem r_storeRow [Wide F] {t sz bs : Nat} {z : Value} {x y : Operand} {b q e s m c : Nat} {v : Value} {xs : List Value} [Inf P t sz bs z] (hsz : Nat.beq sz 1 = true) (hx : ev σ x = some (.pointer (some ⟨b, q, none⟩))) (hy : ev σ y = some v) (h1 : v.oneCell' = true)
    (hm : Has H (.row (.slice (some ⟨b, 0, none⟩) m c) e s m xs) R) (hq : q < xs.length)
    (h : J N ds w0 W σ (.row (.slice (some ⟨b, 0, none⟩) m c) e s m (xs.set q v) :: R) K) : OJ F n P N ds w0 W σ H ⟨none, .store t x y, ty, pos, aft, gd⟩ K Q :=
  o_skip (by simp) rfl (fun a w ha hw => by
    obtain ⟨hl, h'⟩ := hw.has hm
    rcases h' with ⟨h0, _⟩ | ⟨g, cap, cur, hv, hb0, hg, hnc, hcm, hcs, hxx⟩
    · cases h0
    injection hv with e1 _ e3; injection e1 with e1; injection e1 with e1 _ _; subst e1; subst e3
    have hqc : q < cur.size := by rw [← hxx] at hq; simp at hq; omega
    have hc : w.cell? ⟨b, q, none⟩ = some cur[q] := by rw [cell_of_row w b q _ e (0, 0) hg]; simp [hqc]
    refine ⟨w.setCell ⟨b, q, none⟩ v, by
      simp [execOp, ha.eval hx, ha.eval hy, run_storeOne (P := P) (t := t) (Nat.eq_of_beq_eq_true hsz) h1 hc (frozen_blk hg)], ?_⟩
    refine hw.turn hm ?_ rfl rfl rfl (by simp [World.setCell]) (fun k _ hk => Below.heap_setCell _ _ _ _ (fun e => hk (by rw [e]; rfl))) (.inl rfl)
    refine ⟨by simpa using hl, .inr ⟨b, c, cur.setIfInBounds q v, rfl, hb0, ?_, hnc, hcm, by simpa using hcs, ?_⟩⟩
    · simp [World.setCell, Array.getElem?_modify, hg]
    · rw [Array.toList_setIfInBounds, List.take_set, hxx]) h

theorem own_slice {w : World} {base : Nat} {e : TypeId} {s m : Nat} {v : Value} {xs : List Value} (h : w.ownsRow base e s v m xs) : ∃ A c, v = .slice A m c := by
  rcases h.2 with ⟨rfl, rfl⟩ | ⟨g, cap, cur, rfl, _⟩
  · exact ⟨none, 0, rfl⟩
  · exact ⟨_, _, rfl⟩
theorem run_append_of_nil (w : World) (base : Nat) (t ty e : TypeId) (i : TypeInfo) (size : Nat) (ht : P.underlying t = some (.slice e)) (hi : P.info? e = some i)
    (v : Value) (m : Nat) (xs : List Value) (hown : w.ownsRow base e size v m xs) (c : Nat) : (Builtin.append_ #[t, t] ty #[v, .slice none 0 c]).run P w = .ok v w := by
  rcases hown.2 with ⟨rfl, rfl⟩ | ⟨g, cap, cur, rfl, _, _, hnc, _⟩
  · simp [Builtin.append_, run_underlying ht, sizeOf, typeInfo, hi, Builtin.lenOf, Builtin.firstCells]
  · simp [Builtin.append_, run_underlying ht, sizeOf, typeInfo, hi, Builtin.lenOf, Builtin.firstCells, hnc, storeCells]
/-- append onto a row of one's own. -/
theorem run_append_src {w : World} {t ty' e size bytes : Nat} {z : Value} [Und P t (.slice e)] [hI : Inf P e size bytes z] (hzs : z.cells.size = size) (hsz : 0 < size)
    {v : Value} {m : Nat} {xs : List Value} (hown : w.ownsRow 0 e size v m xs) {u : Value} {k : Nat} {news : List Value} (hw : St w0 W H w) (hr : Src w0 W H size u k news) (h1 : ∀ u ∈ news, u.oneCell' = true)
    (h63 : m + k ≤ maxLen) (hbytes : (m + k) * bytes ≤ 140737488355328) :
    ∃ v' w', (Builtin.append_ #[t, t] ty' #[v, u]).run P w = .ok v' w' ∧ w'.ownsRow 0 e size v' (m + k) (xs ++ news) ∧ w.grownBy w' v.ownBlock ∧ (v'.ownBlock = v.ownBlock ∨ v'.ownBlock = some w.heap.size) := by
  obtain ⟨i, hi, hz, hsize, hby⟩ := hI.h
  have ht := Und.h (P := P) (t := t)
  obtain ⟨A, c, rfl, hkc, hcm, hl, hc⟩ := hr
  rcases Nat.eq_zero_or_pos k with h0 | h0
  · subst h0
    have hn : news = [] := List.eq_nil_of_length_eq_zero (by simpa using hl)
    subst hn
    rcases A with _ | ad
    · exact ⟨v, w, run_append_of_nil w 0 t ty' e i size ht hi v m xs hown c, by simpa using hown, World.grownBy.refl w _, .inl rfl⟩
    · obtain ⟨v', w', hrun, h2, h3, _, h5⟩ := run_append_own_at (P := P) w 0 t ty' e i z size bytes ht hi hz hsize hby hzs hsz v m xs hown ad 0 c [] hl (by simp) h1 h63 hbytes (Nat.zero_le _)
      exact ⟨v', w', hrun, h2, h3, h5⟩
  · obtain ⟨b, off, rfl, hcell⟩ := hc h0
    obtain ⟨v', w', hrun, h2, h3, _, h5⟩ := run_append_own_at (P := P) w 0 t ty' e i z size bytes ht hi hz hsize hby hzs hsz v m xs hown ⟨b, off, none⟩ k c news hl
      (fun j u hu => by rw [add_none]; exact hcell j u hu w hw) h1 h63 hbytes (Nat.zero_le _)
    exact ⟨v', w', hrun, h2, h3, h5⟩
theorem r_append [hF : Wide F] {t e size bytes : Nat} {z : Value} {x y : Operand} {v u : Value} {m k : Nat} {xs news : List Value} [Und P t (.slice e)] [Inf P e size bytes z] (hx : ev σ x = some v) (hy : ev σ y = some u)
    (hm : Has H (.row v e size m xs) R) (hr : ∀ w, St w0 W H w → Src w0 W H size u k news) (h1 : ∀ u ∈ news, u.oneCell' = true) (hzs : Nat.beq z.cells.size size = true) (hsz : Nat.blt 0 size = true)
    (h63 : m + k ≤ maxLen) (hbytes : (m + k) * bytes ≤ 140737488355328) (hdN : Nat.blt d N = true)
    (h : ∀ A c, J N ds w0 W ((d, .slice A (m + k) c) :: σ) (.row (.slice A (m + k) c) e size (m + k) (xs ++ news) :: R) K) :
    OJ F n P N ds w0 W σ H ⟨some d, .call ⟨.builtin .append, #[x, y], #[t, t]⟩, ty, pos, aft, gd⟩ K Q := by
  intro a w ha hw
  have hown : w.ownsRow 0 e size v m xs := hw.has hm
  obtain ⟨v', w', hrun, h2, h3, h4⟩ := run_append_src (P := P) (t := t) (ty' := ty) (Nat.eq_of_beq_eq_true hzs) (by simpa using hsz) hown hw (hr w hw) h1 h63 hbytes
  obtain ⟨A, c, rfl⟩ := own_slice h2
  refine ⟨fun f _ => hF.out.fn f, ?_⟩
  rw [Oper.semAt_plain F _ _ (by simp)]
  simp only [execOp, resolve, invoke, builtin, Sem.run_bind, Sem.run_pure, Result.andThen_ok, List.map_toArray, List.map_cons, List.map_nil, ha.eval hx, ha.eval hy, hrun, Oper.uponIn_value]
  refine h A c _ _ (ha.put d _ (by simpa using hdN)) (hw.turn hm h2 h3.os h3.tape h3.output h3.size (fun b hb hne => h3.block b hb (fun e => hne e.symm)) ?_)
  rcases h4 with h4 | h4
  · exact .inl h4
  · exact .inr ⟨_, h4, Nat.le_refl _⟩

/-- A nil slice as a row of one's own. -/
theorem j_nil {e size : Nat} {q : Act → World → Prop} (h : J N ds w0 W σ (.row (.slice none 0 0) e size 0 [] :: H) q) : J N ds w0 W σ H q := fun a w ha hw =>
  h a w ha ⟨hw.os, hw.tape, hw.output, hw.size, hw.old, ⟨fun x hx => by
    rcases List.mem_cons.1 hx with rfl | hx
    · exact ⟨by simp, .inl ⟨rfl, rfl⟩⟩
    · exact hw.own.holds x hx, List.pairwise_cons.2 ⟨fun y _ => .inl rfl, hw.own.apart⟩⟩, fun x hx b hb => by
    rcases List.mem_cons.1 hx with rfl | hx
    · simp [HE.block, Value.ownBlock] at hb
    · exact hw.mine x hx b hb⟩
/-- A row that is not empty lies somewhere. -/
theorem j_open {A : Option Addr} {m c e s : Nat} {xs : List Value} {q : Act → World → Prop} (hm : Has H (.row (.slice A m c) e s m xs) R) (hpos : 0 < m) (h : ∀ g, A = some ⟨g, 0, none⟩ → J N ds w0 W σ H q) : J N ds w0 W σ H q := by
  intro a w ha hw
  obtain ⟨-, h'⟩ := hw.has hm
  rcases h' with ⟨h0, hm0⟩ | ⟨g, cap, cur, hv, -⟩
  · omega
  · injection hv with e1 _ _
    exact h g e1 a w ha hw

/-- The slots at the way in. -/
def slots (k : Nat) : List Value → List (Nat × Value)
  | [] => []
  | v :: r => (k, v) :: slots (k + 1) r
theorem look_slots : ∀ (l : List Value) (k t : Nat) (v : Value), look (slots k l) t = some v → k ≤ t ∧ l[t - k]? = some v
  | [], k, t, v, h => by simp [slots, look] at h
  | u :: r, k, t, v, h => by
    rw [slots, look_cons] at h
    by_cases hk : k = t
    · subst hk; rw [if_pos rfl] at h; simpa using h
    · rw [if_neg hk] at h
      obtain ⟨h1, h2⟩ := look_slots r (k + 1) t v h
      refine ⟨by omega, ?_⟩
      rw [show t - k = (t - (k + 1)) + 1 from by omega, List.getElem?_cons_succ]; exact h2
theorem j_enter {f : FuncId} {fn : Func} {c : Code} {S : List HE} {args : List Value} {w : World} {Rr : Ending → World → Prop} [hF : Wide F] (hf : P.funcs[f]? = some fn) (hb : fn.body = some c) (hN : fn.ntmps = N) (hle : Nat.ble args.length N = true) (hro : F.round = none) (hown : Own S w)
    (h : J N [] w (blocks S) (slots 0 args) S (c.wpIn F n P (bodyPost P fn Rr))) : CallsIn F n P f args.toArray w Rr := by
  refine callsIn_of_wp hf hb (hF.out.fn f) (h _ _ ⟨?_, rfl, fun t v ht => ?_⟩ (St.start hown)) hro
  · have := Nat.le_of_ble_eq_true hle
    simp [hN]; omega
  · obtain ⟨-, h2⟩ := look_slots _ _ _ _ ht
    rw [Nat.sub_zero] at h2
    rw [Array.getElem?_append_left (by simpa using (List.getElem?_eq_some_iff.1 h2).1)]
    simpa using h2
/-- The way out. -/
theorem j_out0 {fn : Func} {S' : List HE} {Rl : Value → List HE → Prop} (hres : fn.results = #[]) (hs : Sub S' H) (hR : Rl (.tuple #[]) S') : J N [] w0 W σ H (bodyPost P fn (fun e w' => ∃ v S', e = .returned v ∧ Rl v S' ∧ St w0 W S' w') .ret) :=
  fun a w ha hw => ⟨ha.defers, _, results_none hres _ _ _, _, S', rfl, hR, hw.sub hs⟩
theorem j_outN {fn : Func} {S' : List HE} {Rl : Value → List HE → Prop} (hres : fn.results = #[]) (hs : Sub S' H) (hR : Rl (.tuple #[]) S') : J N [] w0 W σ H (bodyPost P fn (fun e w' => ∃ v S', e = .returned v ∧ Rl v S' ∧ St w0 W S' w') .normal) :=
  fun a w ha hw => ⟨ha.defers, _, results_none hres _ _ _, _, S', rfl, hR, hw.sub hs⟩
theorem getD_of {a : Act} {t : Nat} {v : Value} (ha : Tm N ds σ a) (h : look σ t = some v) : a.tmps.getD t undef = v := by
  simp [ha.at_ t v h]
theorem j_out1 {fn : Func} {t : Tmp} {v : Value} {S' : List HE} {Rl : Value → List HE → Prop} (hres : fn.results = #[.tmp t]) (hv : look σ t = some v) (hs : Sub S' H) (hR : Rl v S') : J N [] w0 W σ H (bodyPost P fn (fun e w' => ∃ v S', e = .returned v ∧ Rl v S' ∧ St w0 W S' w') .ret) :=
  fun a w ha hw => ⟨ha.defers, _, results_tmp hres _ _ _, _, S', by rw [getD_of ha hv], hR, hw.sub hs⟩
theorem j_out2 {fn : Func} {t u : Tmp} {v x : Value} {S' : List HE} {Rl : Value → List HE → Prop} (hres : fn.results = #[.tmp t, .tmp u]) (hv : look σ t = some v) (hx : look σ u = some x) (hs : Sub S' H) (hR : Rl (.tuple #[v, x]) S') : J N [] w0 W σ H (bodyPost P fn (fun e w' => ∃ v S', e = .returned v ∧ Rl v S' ∧ St w0 W S' w') .ret) :=
  fun a w ha hw => ⟨ha.defers, _, results_tmp2 hres _ _ _, _, S', by rw [getD_of ha hv, getD_of ha hx], hR, hw.sub hs⟩
end
end Go.Proofs.Ytokoopdkofgabaa
