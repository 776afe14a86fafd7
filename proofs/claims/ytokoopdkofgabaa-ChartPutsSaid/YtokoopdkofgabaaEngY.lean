/- The engine: made slices, parts of slices, copies. -/
import Derived.Test.YtokoopdkofgabaaEngX
import Derived.Laws.MakeOwn
import Derived.Laws.Slices
namespace Go.Proofs.Ytokoopdkofgabaa
open Go.RowKit
theorem made_ints (k : IntKind) (m : Nat) : (madeCells (Value.int k 0).cells m).toList = ints k (List.replicate m 0) := by
  simp only [madeCells, ints, Value.cells, Array.toList_map, Array.toList_range, List.map_replicate]
  apply List.ext_getElem (by simp)
  intro i h1 h2
  simp [Nat.mod_one]
section
variable {P : Program} {w0 : World} {W : Nat → Prop} {H : List HE}
theorem r_make {F : Fence} {n N : Nat} {ds : List Deferred} {σ : List (Nat × Value)} {d : Nat} {ty : TypeId} {pos : String} {aft : Array Edge} {gd : Option (Nat × Bool)} {K : Act → World → Prop} {Q : Exit → Act → World → Prop} [Wide F] {t e bs : Nat} {k kl kc : IntKind} {x y : Operand} {m : Nat} {l c : Int} [Und P t (.slice e)] [hI : Inf P e 1 bs (.int k 0)]
    (hl : l = (m : Int)) (hcc : c = (m : Int)) (hc : bs * m ≤ 281474976710656 ∧ m ≤ 4611686018427387904) (hv : vals σ [x, y] = some [.int kl l, .int kc c]) (hdN : Nat.blt d N = true)
    (h : ∀ b, J N ds w0 W ((d, .slice (some ⟨b, 0, none⟩) m m) :: σ) (.row (.slice (some ⟨b, 0, none⟩) m m) e 1 m (ints k (List.replicate m 0)) :: H) K) : OJ F n P N ds w0 W σ H ⟨some d, .makeSlice t x y, ty, pos, aft, gd⟩ K Q :=
  o_new (by simp) rfl hdN (fun b => .slice (some ⟨b, 0, none⟩) m m) (ints k (List.replicate m 0)) e (fun a w ha _ => by
    subst hl; subst hcc
    obtain ⟨p, q⟩ := vals2 hv
    obtain ⟨i, e1, e2, e3, e4⟩ := hI.h
    have hrun := run_make (P := P) w t e i _ Und.h e1 e2 kl kc (m : Int) (m : Int) (by omega) (by omega) (by rw [e4]; have := hc.1; push_cast; omega) (by have := hc.2; omega)
    rw [Int.toNat_natCast, e3, Nat.mul_one] at hrun
    have em : madeCells (Value.int k 0).cells m = (ints k (List.replicate m 0)).toArray := by
      apply Array.ext'
      rw [made_ints]
    rw [em] at hrun
    simp only [execOp, ha.eval p, ha.eval q, Sem.run_bind, hrun, Result.andThen_ok, Sem.run_pure]) (fun b => j_rowed (by simp) (by have := hc.2; simp only [maxLen]; omega) (h b))
instance (t e bs : Nat) (k kl kc : IntKind) (x y : Operand) (m : Nat) [Und P t (.slice e)] [Inf P e 1 bs (.int k 0)] : NS P w0 W H (.makeSlice t x y) [.int kl (m : Int), .int kc (m : Int)] (fun b => .slice (some ⟨b, 0, none⟩) m m) (fun b => .row (.slice (some ⟨b, 0, none⟩) m m) e 1 m (ints k (List.replicate m 0)) :: H) (bs * m ≤ 281474976710656 ∧ m ≤ 4611686018427387904) :=
  ⟨fun hc _ _ _ _ _ _ _ _ _ _ _ _ _ k1 k2 k3 => r_make rfl rfl hc k1 k2 k3⟩
/-- Where a part of a slice begins. -/
def subA (A : Option Addr) (l c s : Nat) : Option Addr := if c = l then A else A.map (·.add (l * s))
theorem RoA.sub {A : Option Addr} {m c l h : Nat} {k : IntKind} {xs : List Int} (hr : RoA w0 W A m c 1 (ints k xs)) (hlh : l ≤ h) (hm : h ≤ m) : RoA w0 W (subA A l c 1) (h - l) (c - l) 1 (ints k ((xs.drop l).take (h - l))) := by
  obtain ⟨A', c', e1, h1, h2, h3, h4⟩ := hr.h
  injection e1 with e1 e2 e3; subst e1 e3
  have hxl : xs.length = m := by simpa using h3
  refine ⟨subA A l c 1, c - l, rfl, by omega, by omega, by simp; omega, fun hpos => ?_⟩
  obtain ⟨b, off, rfl, h5, h6, h7⟩ := h4 (by omega)
  refine ⟨b, off + l, ?_, h5, h6, fun j v hj => ?_⟩
  · unfold subA
    rw [if_neg (by omega)]
    simp [add_none]
  · rw [Nat.add_assoc]
    refine h7 (l + j) v ?_
    simp only [ints, List.getElem?_map, List.getElem?_take, List.getElem?_drop] at hj ⊢
    split at hj
    · exact hj
    · simp at hj
theorem run_part {w : World} {t e sz bs : Nat} {z : Value} [Und P t (.slice e)] [hI : Inf P e sz bs z] {A : Option Addr} {m c : Nat} (lo hi : Option Value) (l h : Nat)
    (hb : (Instr.sliceBounds true m c lo hi none).run P w = .ok (l, h, c) w) : (Instr.slice t (.slice A m c) lo hi none).run P w = .ok (.slice (subA A l c sz) (h - l) (c - l)) w := by
  obtain ⟨i, e1, -, e2, -⟩ := hI.h
  have ht := Und.h (P := P) (t := t)
  simp only [Instr.slice, Sem.run_bind, run_underlying ht, Result.andThen_ok, hb, sizeOf, typeInfo]
  simp [e1, e2, subA]
theorem elem_of {t e : TypeId} [h : Und P t (.slice e)] : P.underlying t = some (.slice (P.elem t)) := by
  have := h.h
  rw [this, Program.elem, this]
theorem run_partAt {w : World} {t e sz bs : Nat} {z : Value} [Und P t (.slice e)] [hI : Inf P e sz bs z] {A : Option Addr} {m c : Nat} (lo hi : Option Value) (l h : Nat)
    (hb : (Instr.sliceBounds true m c lo hi none).run P w = .ok (l, h, c) w) : (Instr.sliceAt t (.slice A m c) lo hi none).run P w = .ok (.slice (subA A l c sz) (h - l) (c - l)) w := by
  rw [run_sliceAt_slice w t _ _ _ _ (elem_of (e := e))]
  exact run_part (z := z) (bs := bs) lo hi l h hb
theorem bnd_lh {w : World} {m c l h : Nat} {k k' : IntKind} (h1 : l ≤ h) (h2 : h ≤ c) : (Instr.sliceBounds true m c (some (.int k (l : Int))) (some (.int k' (h : Int))) none).run P w = .ok (l, h, c) w := by
  simp [Instr.sliceBounds, run_sliceBound, (by omega : (0 : Int) ≤ (l : Int)), (by omega : (0 : Int) ≤ (h : Int)), h1, h2]
theorem bnd_l {w : World} {m c l : Nat} {k : IntKind} (h1 : l ≤ m) : (Instr.sliceBounds true m c (some (.int k (l : Int))) none none).run P w = .ok (l, m, c) w := by
  simp [Instr.sliceBounds, run_sliceBound, (by omega : (0 : Int) ≤ (l : Int)), h1]
theorem bnd_h {w : World} {m c h : Nat} {k' : IntKind} (h2 : h ≤ c) : (Instr.sliceBounds true m c none (some (.int k' (h : Int))) none).run P w = .ok (0, h, c) w := by
  simp [Instr.sliceBounds, run_sliceBound, (by omega : (0 : Int) ≤ (h : Int)), h2]
instance (t e sz bs m c l h : Nat) (z : Value) (k k' : IntKind) (x lo hi : Operand) (A : Option Addr) [Und P t (.slice e)] [Inf P e sz bs z] : MS P w0 W H (.slice t x (some lo) (some hi) none) [.slice A m c, .int k (l : Int), .int k' (h : Int)] (.slice (subA A l c sz) (h - l) (c - l)) (l ≤ h ∧ h ≤ c) :=
  ⟨fun hc _ _ _ _ _ _ _ _ _ _ _ _ _ h1 h2 h3 => o_val (by simp) rfl h2 (fun a w ha hw => by
    obtain ⟨p, q, r⟩ := vals3 h1
    simp only [execOp, Option.map_some, Option.map_none]
    rw [ha.eval p, show a.eval lo = _ from ha.eval q, show a.eval hi = _ from ha.eval r]
    simp only [Sem.run_bind, run_partAt (P := P) (t := t) (z := z) (bs := bs) _ _ l h (bnd_lh hc.1 hc.2), Result.andThen_ok, Sem.run_pure]) h3⟩
instance (t e sz bs m c l : Nat) (z : Value) (k : IntKind) (x lo : Operand) (A : Option Addr) [Und P t (.slice e)] [Inf P e sz bs z] : MS P w0 W H (.slice t x (some lo) none none) [.slice A m c, .int k (l : Int)] (.slice (subA A l c sz) (m - l) (c - l)) (l ≤ m) :=
  ⟨fun hc _ _ _ _ _ _ _ _ _ _ _ _ _ h1 h2 h3 => o_val (by simp) rfl h2 (fun a w ha hw => by
    obtain ⟨p, q⟩ := vals2 h1
    simp only [execOp, Option.map_some, Option.map_none]
    rw [ha.eval p, show a.eval lo = _ from ha.eval q]
    simp only [Sem.run_bind, run_partAt (P := P) (t := t) (z := z) (bs := bs) _ _ l m (bnd_l hc), Result.andThen_ok, Sem.run_pure]) h3⟩
instance (t e sz bs m c h : Nat) (z : Value) (k' : IntKind) (x hi : Operand) (A : Option Addr) [Und P t (.slice e)] [Inf P e sz bs z] : MS P w0 W H (.slice t x none (some hi) none) [.slice A m c, .int k' (h : Int)] (.slice (subA A 0 c sz) (h - 0) (c - 0)) (h ≤ c) :=
  ⟨fun hc _ _ _ _ _ _ _ _ _ _ _ _ _ h1 h2 h3 => o_val (by simp) rfl h2 (fun a w ha hw => by
    obtain ⟨p, q⟩ := vals2 h1
    simp only [execOp, Option.map_some, Option.map_none]
    rw [ha.eval p, show a.eval hi = _ from ha.eval q]
    simp only [Sem.run_bind, run_partAt (P := P) (t := t) (z := z) (bs := bs) _ _ 0 h (bnd_h hc), Result.andThen_ok, Sem.run_pure]) h3⟩

/-- Numbers laid over others. -/
def lay (zs : List Int) (l : Nat) (ys : List Int) : List Int := zs.take l ++ ys ++ zs.drop (l + ys.length)
theorem lay_len (zs : List Int) (l : Nat) (ys : List Int) (h : l + ys.length ≤ zs.length) : (lay zs l ys).length = zs.length := by simp [lay]; omega
theorem ints_take (k : IntKind) (xs : List Int) (n : Nat) : (ints k xs).take n = ints k (xs.take n) := by simp [ints, List.map_take]
theorem ints_drop (k : IntKind) (xs : List Int) (n : Nat) : (ints k xs).drop n = ints k (xs.drop n) := by simp [ints, List.map_drop]
theorem ints_app (k : IntKind) (xs ys : List Int) : ints k xs ++ ints k ys = ints k (xs ++ ys) := by simp [ints]
/-- copy into a row of one's own. -/
theorem r_copy {F : Fence} {n N : Nat} {ds : List Deferred} {σ : List (Nat × Value)} {d : Nat} {ty : TypeId} {pos : String} {aft : Array Edge} {gd : Option (Nat × Bool)} {K : Act → World → Prop} {Q : Exit → Act → World → Prop} [hF : Wide F] {t e bs m c l dl dc j : Nat} {z u : Value} {k : IntKind} {A : Option Addr} {zs ys : List Int} {x y : Operand} {kk : HE → List HE} [Und P t (.slice e)] [hI : Inf P e 1 bs z]
    [ho : OwnAt A m c H e 1 (ints k zs) kk] [hs : SrcC w0 W H e 1 u j (ints k ys)] (hv : vals σ [x, y] = some [.slice (subA A l c 1) dl dc, u]) (hc : l + dl ≤ m ∧ m ≤ c ∧ j ≤ dl) (hdN : Nat.blt d N = true)
    (h : J N ds w0 W ((d, .int .i64 j) :: σ) (kk (.row (.slice A m c) e 1 m (ints k (lay zs l ys)))) K) : OJ F n P N ds w0 W σ H ⟨some d, .call ⟨.builtin .copy, #[x, y], #[t, t]⟩, ty, pos, aft, gd⟩ K Q := by
  obtain ⟨R, h2, h3⟩ := ho.h
  intro a w ha hw
  obtain ⟨p, q⟩ := vals2 hv
  obtain ⟨A', c', rfl, -, -, e2, e3⟩ := hs.h w hw
  have hyl : ys.length = j := by simpa using e2
  obtain ⟨hzl0, hrow⟩ := hw.has h2
  have hzl : zs.length = m := by simpa using hzl0
  have hinf : (P.info? e).map (·.size) = some 1 := Inf.size (z := z) (bs := bs)
  have hut := Und.h (P := P) (t := t)
  have key : ∃ w', (Builtin.copy_ #[t, t] ty #[.slice (subA A l c 1) dl dc, .slice A' j c']).run P w = .ok (goInt j) w' ∧ St w0 W (.row (.slice A m c) e 1 m (ints k (lay zs l ys)) :: R) w' := by
    rcases Nat.eq_zero_or_pos j with h0 | h0
    · subst h0
      have hy0 : ys = [] := List.eq_nil_of_length_eq_zero hyl
      subst hy0
      refine ⟨w, ?_, ?_⟩
      · obtain ⟨i, q1, -, q2, -⟩ := hI.h
        cases hsa : subA A l c 1 with
        | none => simp [Builtin.copy_, run_underlying hut, Builtin.lenOf, Builtin.firstCells, sizeOf, typeInfo, q1, q2]; cases A' <;> simp [loadCells, loadCellsFrom]
        | some ad => simp [Builtin.copy_, run_underlying hut, Builtin.lenOf, Builtin.firstCells, sizeOf, typeInfo, q1, q2]; cases A' <;> simp [loadCells, loadCellsFrom, storeCells]
      · have : lay zs l [] = zs := by simp [lay]
        rw [this]
        exact hw.perm h2.perm
    · obtain ⟨b', off', rfl, hcell⟩ := e3 h0
      rcases hrow with ⟨hn, -⟩ | ⟨g, cap, cur, hA, hb0, hg, hnc, hcm, hcs, hxx⟩
      · injection hn with hn1 hn2 _; omega
      injection hA with hA1 _ hA3; subst hA1; subst hA3
      have hsub : subA (some ⟨g, 0, none⟩) l c 1 = some ⟨g, l, none⟩ := by
        unfold subA
        rw [if_neg (by omega)]
        simp [add_none]
      have hcl : cur.size = c := by simpa using hcs
      have hrun := run_copy_row P w t t ty e g l dl dc ⟨b', off', none⟩ j c' cur e (ints k ys) hut hinf hg (by rw [ints_len, hyl]; exact (Nat.min_eq_left hc.2.2).symm) (fun q v hq => by rw [add_none]; exact hcell q v hq w hw) (by rw [ints_len, hyl, hcl]; omega) (by
        intro v hv
        obtain ⟨x, -, rfl⟩ := List.mem_map.1 hv
        rfl)
      rw [hsub]
      refine ⟨_, by rw [ints_len, hyl] at hrun; exact hrun, ?_⟩
      refine hw.turn h2 ?_ rfl rfl rfl (by simp) (fun b _ hk => setRow_other _ _ _ _ (fun e => hk (by rw [e]; rfl))) (.inl rfl)
      refine ⟨by rw [ints_len, lay_len _ _ _ (by omega)]; omega, .inr ⟨g, c, _, rfl, hb0, setRow_heap w g _ _ e _ hg, hnc, hcm, ?_, ?_⟩⟩
      · simp only [List.size_toArray, List.length_append, List.length_take, List.length_drop, Array.length_toList, ints_len]; omega
      · rw [Nat.mul_one] at hxx ⊢
        have hcur : cur.toList = ints k zs ++ cur.toList.drop m := by rw [← hxx, List.take_append_drop]
        rw [List.toList_toArray]
        have e5 : cur.toList.take l = ints k (zs.take l) := by rw [← ints_take, ← hxx, List.take_take, Nat.min_eq_left (by omega)]
        have e6 : (cur.toList.drop (l + (ints k ys).length)).take (m - (l + ys.length)) = ints k (zs.drop (l + ys.length)) := by
          rw [← ints_drop, ← hxx, ints_len, List.drop_take]
        have e7 : m = (ints k (zs.take l) ++ ints k ys).length + (m - (l + ys.length)) := by simp; omega
        rw [e5]
        conv => lhs; rw [e7]
        rw [List.take_append, List.take_of_length_le (by omega), Nat.add_sub_cancel_left]
        rw [ints_len, hyl] at e6
        rw [hyl, e6, ints_app, ints_app, lay, hyl]
  obtain ⟨w', hrun, hst⟩ := key
  refine ⟨fun f _ => hF.out.fn f, ?_⟩
  rw [Oper.semAt_plain F _ _ (by simp)]
  simp only [execOp, resolve, invoke, builtin, Sem.run_bind, Sem.run_pure, Result.andThen_ok, List.map_toArray, List.map_cons, List.map_nil, ha.eval p, ha.eval q, hrun, Oper.uponIn_value]
  exact h _ _ (ha.put d _ (by simpa using hdN)) (hst.sub (h3 _))
end
section
variable {F : Fence} {n : Nat} {P : Program} {N : Nat} {ds : List Deferred} {w0 : World} {W : Nat → Prop} {σ : List (Nat × Value)} {H : List HE} {Q : Exit → Act → World → Prop}
variable {ops : Array Oper} {rest : List Oper} {d : Nat} {ty : TypeId} {pos : String} {aft : Array Edge} {gd : Option (Nat × Bool)} {q : Act → World → Prop}
/-- copy, at the head of the list. -/
theorem lcp [Wide F] {t e bs m c l dl dc j : Nat} {z u : Value} {k : IntKind} {A : Option Addr} {zs ys : List Int} {x y : Operand} {kk : HE → List HE} [Und P t (.slice e)] [Inf P e 1 bs z]
    (hw : wantd ops σ ⟨some d, .call ⟨.builtin .copy, #[x, y], #[t, t]⟩, ty, pos, aft, gd⟩ = some true) (hv : vals σ [x, y] = some [.slice (subA A l c 1) dl dc, u]) [ho : OwnAt A m c H e 1 (ints k zs) kk] [hs : SrcC w0 W H e 1 u j (ints k ys)] (hc : l + dl ≤ m ∧ m ≤ c ∧ j ≤ dl) (hdN : Nat.blt d N = true)
    (h : J N ds w0 W ((d, .int .i64 j) :: σ) (kk (.row (.slice A m c) e 1 m (ints k (lay zs l ys)))) (wpListIn F n P ops Q rest)) :
    J N ds w0 W σ H (wpListIn F n P ops Q (⟨some d, .call ⟨.builtin .copy, #[x, y], #[t, t]⟩, ty, pos, aft, gd⟩ :: rest)) := l_run hw (r_copy (z := z) (bs := bs) hv hc hdN h)
/-- A part of a slice that is read alone. -/
theorem j_sub {A : Option Addr} {m c : Nat} {k : IntKind} {xs : List Int} (l h : Nat) (hr : RoA w0 W A m c 1 (ints k xs)) (hlh : l ≤ h ∧ h ≤ m) (hq : RoA w0 W (subA A l c 1) (h - l) (c - l) 1 (ints k ((xs.drop l).take (h - l))) → J N ds w0 W σ H q) : J N ds w0 W σ H q := hq (hr.sub hlh.1 hlh.2)
end
section
variable {n : Nat} {P : Program} {N : Nat} {w0 : World} {W : Nat → Prop} {σ : List (Nat × Value)} {H : List HE}
theorem results_t4 {fn : Func} {t u v x : Tmp} (h : fn.results = #[.tmp t, .tmp u, .tmp v, .tmp x]) (tmps : Array Value) (P : Program) (w : World) : (results fn tmps).run P w = .ok (.tuple #[tmps.getD t undef, tmps.getD u undef, tmps.getD v undef, tmps.getD x undef]) w := by
  simp [results, h]
theorem j_out3 {fn : Func} {t u y : Tmp} {v x z : Value} {S' : List HE} {Rl : Value → List HE → Prop} (hres : fn.results = #[.tmp t, .tmp u, .tmp y]) (hv : look σ t = some v) (hx : look σ u = some x) (hz : look σ y = some z) (hs : Sub S' H) (hR : Rl (.tuple #[v, x, z]) S') : J N [] w0 W σ H (bodyPost P fn (fun e w' => ∃ v S', e = .returned v ∧ Rl v S' ∧ St w0 W S' w') .ret) :=
  fun a w ha hw => ⟨ha.defers, _, Go.results_tmp3 hres _ _ _, _, S', by rw [getD_of ha hv, getD_of ha hx, getD_of ha hz], hR, hw.sub hs⟩
theorem j_out4 {fn : Func} {t u y q : Tmp} {v x z k : Value} {S' : List HE} {Rl : Value → List HE → Prop} (hres : fn.results = #[.tmp t, .tmp u, .tmp y, .tmp q]) (hv : look σ t = some v) (hx : look σ u = some x) (hz : look σ y = some z) (hk : look σ q = some k) (hs : Sub S' H) (hR : Rl (.tuple #[v, x, z, k]) S') : J N [] w0 W σ H (bodyPost P fn (fun e w' => ∃ v S', e = .returned v ∧ Rl v S' ∧ St w0 W S' w') .ret) :=
  fun a w ha hw => ⟨ha.defers, _, results_t4 hres _ _ _, _, S', by rw [getD_of ha hv, getD_of ha hx, getD_of ha hz, getD_of ha hk], hR, hw.sub hs⟩
end
end Go.Proofs.Ytokoopdkofgabaa
