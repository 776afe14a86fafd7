import Derived.ProofKit
import Derived.Deep.Slices
import Derived.Deep.Fields
import Derived.ChangeSame
import Derived.Lib.SmallJoins
import Derived.Carry
import Derived.RangeFuncRecord
import Derived.Test.YtemmnpgebpffbaaGreatMG12
set_option linter.unusedVariables false
set_option linter.unusedSimpArgs false
/- Layer 21: what the statements' own check reckons. -/
namespace Go.Proofs.YtemmnpgebpffbaaGreat
open Go.RowKit
instance (priority := 60) {P : Program} {w0 : World} {W : Nat → Prop} {H : List HE} (x y : Operand) (t e b q m c sz bs j r r' : Nat) (a : Int) (z : Value) (k : IntKind) [hu : Und P t (.slice e)] [hI : Inf P e sz bs z] [ha : LitI a j] [hm : NMul j sz r] [hr : NAdd q r r'] : MS P w0 W H (.indexAddr t x y) [.slice (some ⟨b, q, none⟩) m c, .int k a] (.pointer (some ⟨b, r', none⟩)) (j < m) := by
  have h0 : MS P w0 W H (.indexAddr t x y) [.slice (some ⟨b, q, none⟩) m c, .int k (j : Int)] (.pointer (some ⟨b, r', none⟩)) (j < m) := inferInstance
  rw [ha.h]
  exact h0
instance (b : Nat) : NMul 1 b b := ⟨Nat.one_mul b⟩
theorem pv_funNil {P : Program} {t : TypeId} {us vs : Array TypeId} {b : Bool} (hS : P.underlying t = some (.func us vs b)) (u : TypeId) (x y : Operand) (fn : Fn) (xs ys : Array Value) : PV P (.binOp .eql t x y u) [.func fn xs ys, .nilFunc] (.bool false) True := ⟨by
  rintro _ ρ ⟨dst, op', ty, pos, aft, gd⟩ rfl h w
  obtain ⟨h1, h2⟩ := map2 h
  have e : (Op.equalIn 10000 t (.func fn xs ys) .nilFunc).run P w = .ok false w := by
    rw [show (10000 : Nat) = 9999 + 1 from rfl, Op.equalIn]
    simp [run_underlying hS]
  simp [execOp, h1, h2, eqGuard, binOp, Op.equal, Op.maxDepth, e]⟩
instance {w0 : World} {W : Nat → Prop} {H : List HE} (u : TypeId) (x y : Operand) (fn : Fn) (xs ys : Array Value) : MS Tryz.prog w0 W H (.binOp .eql 78 x y u) [.func fn xs ys, .nilFunc] (.bool false) True := ⟨by
  intro _ F n N ds σ dd ty pos aft gd K Q _ hv hdN h
  have hp := pv_funNil Tryz.underlying78 u x y fn xs ys
  exact o_val (by simp) rfl hdN (fun a w ha _ => pq_of (o := ⟨some dd, _, ty, pos, aft, gd⟩) hv trivial a.eval (fun x _ u hu => ha.eval hu) w) h⟩
attribute [local irreducible] OJ J HdJ Code.wpIn wpListIn Oper.wpIn bodyPost CallsIn Does
set_option maxRecDepth 4000
set_option maxHeartbeats 64000000 in
theorem field21_any (w : World) : Does Tryz.prog 31 [] [] w (fun v S' => ∃ A c, v = .agg #[.int .i64 12, .int .i64 12, .slice A z21.length c] ∧ S' = [.row (.slice A z21.length c) 92 1 z21.length (ints .i16 z21)]) := by
  refine does_of Tryz.func31 rfl Tryz.ntmps31 rfl ⟨by simp, .nil⟩ (fun n => ?_)
  simp only [slots]
  refine j_nil (e := 92) (size := 1) ?_
  refine z_tas
  rename_i b0 b1
  refine c_loop (X := Nat × Option Addr × Nat) (fun q => q.1 ≤ 144) (fun q => [(0, .pointer (some ⟨b0, 0, none⟩)), (1, .pointer (some ⟨b1, 0, none⟩)), (2, .int .i64 q.1)])
    (fun q => [.blk b0 31 [.int .i64 0, .int .i64 0, .slice none 0 0], .blk b1 31 [.int .i64 12, .int .i64 12, .slice q.2.1 (zTo21 q.1).length q.2.2], .row (.slice q.2.1 (zTo21 q.1).length q.2.2) 92 1 (zTo21 q.1).length (ints .i16 (zTo21 q.1))]) (fun q => 144 - q.1) (0, none, 0) (Nat.zero_le _) ⟨rfl, rfl, rfl, trivial⟩ (by simp only [zTo21, ints, List.map_nil, List.length_nil]; exact Sub.au) ?_
  rintro ⟨i, A1, c1⟩ hi
  dsimp only at hi ⊢
  have hwl := zTo21_len i
  rcases Nat.lt_or_ge i 144 with h | h
  · have hm : 0 ≤ (i : Int) % 12 ∧ (i : Int) % 12 ≤ 11 := by omega
    have hd : 0 ≤ (i : Int) / 12 ∧ (i : Int) / 12 ≤ 11 := by omega
    have e : zTo21 (i + 1) = zTo21 i ++ [zF21 i] := rfl
    unfold zF21 at e
    have h1 := mulB 77 11 (a := 7 * ((i : Int) % 12)) (b := (i : Int) % 12) (by omega) (by omega)
    have h2 := mulB 143 11 (a := 13 * ((i : Int) / 12)) (b := (i : Int) / 12) (by omega) (by omega)
    have h3 := mulB 33 11 (a := 3 * ((i : Int) % 12)) (b := (i : Int) / 12) (by omega) (by omega)
    refine z_tas
    rename_i A2 c2
    exact c_round (i + 1, A2, c2) h (by show 144 - (i + 1) < 144 - i; omega) ⟨rfl, rfl, by simp [look], trivial⟩ (by simp only [zTo21, zF21]; exact Sub.au)
  · obtain rfl : i = 144 := by omega
    rw [zTo21_all]
    refine z_tas
    refine j_outK (S' := [.row (.slice A1 z21.length c1) 92 1 z21.length (ints .i16 z21)]) Sub.au ?_
    refine z_rk
    exact ⟨A1, c1, rfl, rfl⟩
theorem clr_cv (a b c d : Int) (r : Bool) (h : clrB a b c d = r) (h1 : InR .i64 a) (h2 : InR .i64 b) (h3 : InR .i64 c) (h4 : InR .i64 d) : CV Tryz.prog 36 [.int .i64 a, .int .i64 b, .int .i64 c, .int .i64 d] (.bool r) True := ⟨fun _ w => by
  have := clear21_any a b c d h1 h2 h3 h4 w
  rwa [h] at this⟩
set_option maxHeartbeats 64000000 in
theorem works21 (w : World) : Does Tryz.prog 8 [] [] w (fun v S' => v = .bool true ∧ S' = []) := by
  have hc1 := clr_cv 2 5 2 1 true (by decide) (by decide) (by decide) (by decide) (by decide)
  have hc2 := clr_cv 2 4 2 1 false (by decide) (by decide) (by decide) (by decide) (by decide)
  have hc3 := clr_cv 0 (-1) 9 1 true (by decide) (by decide) (by decide) (by decide) (by decide)
  have hlz : z21.length = 144 := rfl
  have hcb : 2 ≤ 12 ∧ 12 ≤ 256 ∧ 2 ≤ 12 ∧ 12 ≤ 256 ∧ 1 ≤ 30 ∧ 30 ≤ 1000 := by omega
  refine does_ofM Tryz.func8 rfl Tryz.ntmps8 rfl ⟨by simp, .nil⟩ (fun n => ?_)
  simp only [slots]
  refine z_tas
  refine lf rfl rfl rfl (S := []) (fun w hw ho => field21_any w) ?_
  rintro v S' ⟨Af, cf, rfl, rfl⟩
  refine z_tas
  refine lf rfl rfl rfl (S := []) (fun w hw ho => open10 12 12 30 Af cf z21 0 0 4 w ⟨Ro.row hw (Split.nil _) (by refine z_hs)⟩ hcb hlz z21_in (by decide) (by decide) (by omega)) ?_
  rintro v S' ⟨K, hys, hrm, rfl, rfl⟩
  have hF : CaF K.ys z21 K.room := by rw [hys, hrm]; exact caF_of hcb hlz z21_in (by omega)
  have hh : wY K.ys = 12 ∧ hY K.ys = 12 := by rw [hys]; decide +kernel
  have k0 : CaOk K.ys z21 K.room (newV 4) 0 := by rw [hrm]; exact newV_ok (by omega)
  have p1 := w21_h1
  have p2 := w21_h2
  have p3 := w21_all
  have p4 := w21_n
  have p5 := w21_on
  have p6 := w21_ap
  clear hlz
  generalize z21 = f at *
  refine z_tas
  rename_i bl
  refine lf rfl rfl rfl (S := K.H (newV 4)) (fun w hw ho => height_t K (newV 4) f 768 1024 0 w ho hF k0 (by omega)) ?_
  rintro v S' ⟨s1, rfl, k1, rfl⟩
  rw [hh.1, hh.2, p1.1, p1.2]
  refine z_tas
  refine lf rfl rfl rfl (S := K.H s1) (fun w hw ho => height_t K s1 f 1024 1024 (0 + 4) w ho hF k1 (by omega)) ?_
  rintro v S' ⟨s2, rfl, k2, rfl⟩
  rw [hh.1, hh.2, p2.1, p2.2]
  refine z_tas
  rename_i b3
  refine j_perm (H' := K.HC s2 [.blk b3 26 (schE s21), .row (.slice (some ⟨bl, 0, none⟩) l21.length 2) 73 3 l21.length (flat smpE l21)]) (by show Sub (K.HC s2 [.blk b3 26 [.int .i64 1280, .int .i64 1280, .int .i64 3, .int .i64 256], .row (.slice (some ⟨bl, 0, none⟩) 2 2) 73 3 2 [.int .i64 0, .int .i64 0, .int .i64 4912, .int .i64 256, .int .i64 0, .int .i64 5888]]) _; exact Sub.au) ?_
  refine lf rfl rfl rfl (S := K.H s2) (fun w hw ho => mbest_t K s2 f s21 (some ⟨bl, 0, none⟩) 2 l21 1 1 (0 + 4 + 4) w ho hF k2 (by omega) ⟨Ro.row hw Split.au (by refine z_hs)⟩ (by decide)) ?_
  rintro v S' ⟨s3, k3, rfl, rfl⟩
  rw [hh.1, hh.2, p3, w21_b, w21_s, show L21.length = 49 from rfl]
  dsimp only [stpE]
  refine z_tas
  rename_i b4 bd1
  refine lfv rfl rfl rfl (fun w hw => mcost_any (some ⟨bd1, 0, none⟩) 2 [3, -5] 2 w ⟨Ro.row hw (Split.nil _) (by refine z_hs)⟩ (by decide)) ?_
  rw [w21_c1]
  dsimp only
  refine z_tas
  rename_i bd2
  refine lfv rfl rfl rfl (fun w hw => mcost_any (some ⟨bd2, 0, none⟩) 2 [3, -5] 1 w ⟨Ro.row hw (Split.nil _) (by refine z_hs)⟩ (by decide)) ?_
  rw [w21_c2]
  dsimp only
  refine z_tas
  refine lfv rfl rfl rfl (fun w hw => mcost_any none 0 [] 4 w ⟨Ro.nil _ _ _⟩ (by decide)) ?_
  rw [w21_c3]
  dsimp only
  refine z_tas
  refine lf rfl rfl rfl (S := []) (fun w hw ho => all21_any K.g s21 (some ⟨bl, 0, none⟩) l21.length 2 0 w) ?_
  rintro v S' ⟨gs, gl, gc, gm, rfl, rfl⟩
  refine z_tas
  rename_i b14
  refine c_allsO (Al := some ⟨bl, 0, none⟩) (cl := 2) (K := K) (s0 := s3) (s := s21) (l := l21) (m := 0) (f := f) (S := [.blk b14 3 [.int .i64 0]]) (fun i S => S = [.blk b14 3 [.int .i64 i]]) (fun _ _ => False) rfl Split.au hF k3 (by omega) ?_ (by decide) rfl ?_ ?_ ?_
  · exact ⟨_, by refine z_hs⟩
  · rintro lp i S1 hi rfl w1 ho
    rw [hh.1, hh.2, p4] at hi
    refine yields_of (N := 160) ho rfl (by simp) (fun n => ?_)
    simp only [over]
    refine z_tas
    refine c_beg ?_
    refine z_tas
    refine c_rnH (S' := [_, .blk b14 3 [.int .i64 ((i + 1 : Nat) : Int)]]) ?_ (.inl ⟨rfl, _, rfl, rfl⟩)
    rw [show ((i + 1 : Nat) : Int) = (i : Int) + 1 by omega]
    exact Sub.au
  · rintro d s4 S1 k4 rfl
    rw [hh.1, hh.2, p4]
    refine z_tas
    refine lf rfl rfl rfl (S := K.H s4) (fun w hw ho => apart_t K s4 f 768 1024 _ (some ⟨bl, 0, none⟩) 2 l21 w ho hF k4 (by omega) ⟨Ro.row hw Split.au (by refine z_hs)⟩ (by decide) (by decide) (by decide) (chk21_ok chk21_w).2.2) ?_
    rintro v S' ⟨s5, k5, h5⟩
    rw [hh.1, hh.2] at h5
    rcases h5 with ⟨-, Aa, ca, rfl, rfl⟩ | ⟨hon, -, -⟩
    rotate_left
    · rw [p5] at hon; cases hon
    rw [p6]
    refine z_tas
    refine lfv rfl rfl rfl (fun w hw => mcheck_any s21 (some ⟨bl, 0, none⟩) 2 l21 w ⟨Ro.row hw (Split.nil _) (by refine z_hs)⟩ (by decide)) ?_
    rw [chk21_w]
    refine z_tas
    refine lfv rfl rfl rfl (fun w hw => mcheck_any s21 none 0 [] w ⟨Ro.nil _ _ _⟩ (by decide)) ?_
    rw [chk21_n]
    refine j_opn (A := Aa) (m := [(0 : Int), 0].length) (cc := ca) (by decide) (fun ga hga => ?_)
    subst hga
    rw [show [(0 : Int), 0].length = 2 from rfl, show ints .i64 [(0 : Int), 0] = [.int .i64 0, .int .i64 0] from rfl]
    refine z_tas
    refine j_outMS (Ds := [d]) (S' := []) (S2 := []) ?_ ?_ ?_
    · show Sub [.obj d (.deferred (some []))] _
      exact Sub.au
    · exact .nil _
    · refine z_rk
      exact ⟨rfl, rfl⟩
  · rintro d c s1 S1 hk1 h
    exact h.elim
end Go.Proofs.YtemmnpgebpffbaaGreat
/- The way from a contract of a law's function to the given statement: what the arguments are, and what is left of them. -/
namespace Go.Proofs.YtemmnpgebpffbaaGreat
open Go.ChangeShapes Go.WideShapes Go.ChangeAt Go.RowKit Go.Deep Go.Joins

theorem below_of {P : Program} {f : FuncId} {args : List Value} {w : World} {v0 : Value} (h : Does P f args [] w (fun v _ => v = v0)) : Calls P f args.toArray w fun e w' => e = .returned v0 ∧ Below w.heap.size w w' := by
  refine h.calls.mono ?_
  rintro e w' ⟨v, S', rfl, rfl, hst⟩
  exact ⟨rfl, hst.os, hst.tape, hst.output, hst.size, fun k hk => hst.old k hk (by rintro ⟨x, hx, _⟩; cases hx)⟩

section
variable {H : Type} {enc : TypeId × Value → H} {P : Program} {w : World} {base : Nat} {spare : Nat → Bool} {held : Bool}
theorem post_below {f : Func} {s : ChangeSpec} {apart fresh handsOn again : Bool} {W W' : World} {args : Array Value} {v : Value} {ds gs : List (DataW H)} {before pa pv : List MemPlace}
    (hW : DataW.Whole enc P f.params.toList s.vars apart W args.toList ds gs before)
    (hres : ∀ (b : Nat) (sp : Nat → Bool) (hd : Bool), DataW.TrodAll enc P W' b sp hd f.resultTypes.toList (v.resultList f.resultTypes.size) (s.fn H (ds ++ gs)).results [])
    (hargs : ∀ sp : Nat → Bool, (∀ p ∈ before, sp p.block = true) → DataW.TrodAll enc P W' 0 sp true f.params.toList args.toList (s.fn H (ds ++ gs)).args pa)
    (hvars : ∀ sp : Nat → Bool, (∀ p ∈ before, sp p.block = true) → DataW.TrodVars enc P W' sp s.vars (s.fn H (ds ++ gs)).vars pv)
    (hps : before = pa ++ pv) (hb : Below W.heap.size W W')
    (hok : ∀ (j : Nat) (t : TypeId) (r : Value), f.resultTypes[j]? = some t → (v.resultList f.resultTypes.size)[j]? = some r → Value.okWide P W' .any 0 t r) :
    s.post enc P f apart fresh handsOn again W args v W' := by
  have hlt : ∀ p ∈ before, p.block < W.heap.size := fun p hp => hW.lt p hp
  have hold : ∀ p ∈ before, (fun b => decide (b < W.heap.size)) p.block = true := fun p hp => by simpa using hlt p hp
  refine ⟨ds, gs, before, [], pa, pv, hW, hres _ _ _, hargs _ hold, hvars _ hold, World.keptBut_mono (fun p hp => ⟨hp, ?_⟩) (hb.frame (· ∈ before)), fun _ => ?_⟩
  · rw [hps, List.mem_append] at hp
    exact Or.inr hp
  · obtain ⟨_, _, _, _, _, hz, hn⟩ := hW
    refine ⟨hok, _, _, ([] ++ pa) ++ pv, ⟨[] ++ pa, pv, trodAll_append (hargs _ (fun _ _ => rfl)) (hres _ _ _), hvars _ (fun _ _ => rfl), rfl, ?_, ?_⟩, ?_⟩
    · intro b off hp
      have hin : MemPlace.cell b off ∈ before := by rw [hps]; simpa using hp
      rw [hb.frozen (hlt _ hin)]
      exact hz b off hin
    · intro ha
      have := hn ha
      rw [hps] at this
      simpa using this
    · intro p hp _
      rw [hps]
      simpa using hp
theorem trodAll_stays (hl : laidOutB P = true) {W W' : World} {sp' : Nat → Bool} : ∀ (ts : List TypeId) (vs : List Value) (ds : List (DataW H)) (ps : List MemPlace), (∀ t ∈ ts, P.readableRec t = true ∧ t < P.types.size) →
    DataW.TrodAll enc P W base (fun _ => true) true ts vs ds ps → (∀ p ∈ ps, W.sameAt W' p) → (∀ p ∈ ps, sp' p.block = true) → DataW.TrodAll enc P W' base sp' true ts vs ds ps
  | [], [], [], ps, _, h, _, _ => h
  | t :: ts, v :: vs, d :: ds, ps, hr, h, hs, hsp => by
    obtain ⟨p, q, h1, h2, rfl⟩ := h
    have ht := hr t (by simp)
    exact ⟨p, q, Go.WideElems.Trod_stays hl ht.1 ht.2 h1 (fun x hx => hs x (by simp [hx])) (fun x hx => hsp x (by simp [hx])), trodAll_stays hl ts vs ds q (fun t ht => hr t (by simp [ht])) h2 (fun x hx => hs x (by simp [hx])) (fun x hx => hsp x (by simp [hx])), rfl⟩
  | [], _ :: _, _, _, _, h, _, _ => h.elim
  | [], [], _ :: _, _, _, h, _, _ => h.elim
  | _ :: _, [], _, _, _, h, _, _ => h.elim
  | _ :: _, _ :: _, [], _, _, h, _, _ => h.elim
theorem trodAll_len : ∀ (ts : List TypeId) (vs : List Value) (ds : List (DataW H)) (ps : List MemPlace), DataW.TrodAll enc P w base spare held ts vs ds ps → ds.length = ts.length
  | [], [], [], _, _ => rfl
  | t :: ts, v :: vs, d :: ds, ps, h => by
    obtain ⟨p, q, h1, h2, rfl⟩ := h
    rw [List.length_cons, List.length_cons, trodAll_len ts vs ds q h2]
  | [], _ :: _, _, _, h => h.elim
  | [], [], _ :: _, _, h => h.elim
  | _ :: _, [], _, _, h => h.elim
  | _ :: _, _ :: _, [], _, h => h.elim
/-- A law that returned true, and left all below as it was. -/
theorem gate_post {f : Func} {s : ChangeSpec} {W W' : World} {args : Array Value} {ds gs : List (DataW H)} {before : List MemPlace} {tb : TypeId} (hl : laidOutB P = true) (hub : P.underlying tb = some .bool)
    (hW : DataW.Whole enc P f.params.toList s.vars false W args.toList ds gs before) (hvars : s.vars = []) (hrt : f.resultTypes = #[tb])
    (hsp : ∀ es : List (DataW H), es.length = f.params.size → s.fn H es = { results := [.lit (.bool true)], args := es })
    (hread : ∀ t ∈ f.params.toList, P.readableRec t = true ∧ t < P.types.size) (hb : Below W.heap.size W W') : s.post enc P f false true false false W args (.bool true) W' := by
  have hW' := hW
  obtain ⟨p, q, hA, hV, hbe, hfz, hnd⟩ := hW
  rw [hvars] at hV
  obtain ⟨rfl, rfl⟩ := trodVars_none hV
  have hlen := trodAll_len _ _ _ _ hA
  have hfn := hsp ds (by rw [hlen]; simp)
  have hlt : ∀ x ∈ p, x.block < W.heap.size := fun x hx => hW'.lt x (by rw [hbe]; simp [hx])
  refine post_below (pa := p) (pv := []) hW' (fun _ _ _ => ?_) (fun sp hs => ?_) (fun _ _ => ?_) (by simpa using hbe) hb ?_
  · rw [List.append_nil, hfn, hrt]
    exact trodAll_mk1 (shut_bool hub true)
  · rw [List.append_nil, hfn]
    exact trodAll_stays hl _ _ _ _ hread hA (fun x hx => hb.same (hlt x hx)) (fun x hx => hs x (by rw [hbe]; simp [hx]))
  · rw [List.append_nil, hfn, hvars]
    rfl
  · exact ok_one hrt rfl (okWide_bool_mk hub true)

theorem wf_in {k : IntKind} {n : Int} (h : (Lit.int k n).wf = true) : InR k n := by
  cases k <;> simp [Lit.wf, IntKind.min, IntKind.max, IntKind.signed, IntKind.bits] at h <;> simp only [InR] <;> omega
theorem gate_int {r : Reach} {b0 : Nat} {t : TypeId} {k : IntKind} {v : Value} {d : DataW H} {ps : List MemPlace} (ht : P.underlying t = some (.int k)) (hval : Value.okWide P w r b0 t v) (hd : DataW.Trod enc P w base spare held t v d ps) : ∃ n, v = .int k n ∧ InR k n := by
  obtain ⟨n, h1, -, -, h4⟩ := open_int ht hval hd
  exact ⟨n, h1, wf_in h4⟩
theorem gate_bool {r : Reach} {b0 : Nat} {t : TypeId} {v : Value} {d : DataW H} {ps : List MemPlace} (ht : P.underlying t = some .bool) (hval : Value.okWide P w r b0 t v) (hd : DataW.Trod enc P w base spare held t v d ps) : ∃ b, v = .bool b := by
  obtain ⟨n, h1, -, -⟩ := open_bool ht hval hd
  exact ⟨n, h1⟩
theorem gate_ints {r : Reach} {b0 : Nat} {t e : TypeId} {k : IntKind} {v : Value} {d : DataW H} {ps : List MemPlace} (ht : P.underlying t = some (.slice e)) (he : P.underlying e = some (.int k)) (hC : P.cellsOf e = 1) (hv : Value.okWide P w r b0 t v) (h : DataW.Trod enc P w 0 (fun _ => true) true t v d ps) :
    ∃ (A : Option Addr) (c : Nat) (xs : List Int), v = .slice A xs.length c ∧ RoA w (blocks []) A xs.length c 1 (ints k xs) ∧ ∀ x ∈ xs, InR k x := by
  obtain ⟨a0, len, cap, rfl⟩ := okWide_slice ht hv
  obtain ⟨fuel, hf⟩ := h
  have hf' : DataW.trod enc P w 0 (fun _ => true) true fuel t [.slice a0 len cap] = some (d, ps) := by simpa [Value.cells] using hf
  rcases open_ints ht he hC hf' with ⟨hcs, -⟩ | ⟨a, len', cap', zs, hcs, -, hl, hm, hmm, -, hcell, hwf⟩
  · simp at hcs
    obtain ⟨rfl, rfl, rfl⟩ := hcs
    exact ⟨none, 0, [], rfl, ⟨Ro.nil _ _ _⟩, by simp⟩
  · simp at hcs hmm
    obtain ⟨rfl, rfl, rfl⟩ := hcs
    have hlen : (zs.take len).length = len := by rw [List.length_take]; omega
    refine ⟨some a, cap, zs.take len, by rw [hlen], ⟨some a, cap, rfl, by omega, hm, by simp, fun hpos => ?_⟩, fun x hx => wf_in (hwf x (List.mem_of_mem_take hx))⟩
    rw [hlen] at hpos
    have hc0 := hcell 0 (by omega)
    obtain ⟨b, off, spot⟩ := a
    have hspot : spot = none := by simpa [Addr.add] using World.cell?_spot hc0
    subst hspot
    have hblt : b < w.heap.size := by
      rcases Nat.lt_or_ge b w.heap.size with hlt | hge
      · exact hlt
      · rw [add_none] at hc0; simp [World.cell?, Array.getElem?_eq_none hge] at hc0
    refine ⟨b, off, rfl, hblt, (by rintro ⟨x, hx, _⟩; cases hx), fun j u hu => ?_⟩
    have hj : j < len := by
      have := (List.getElem?_eq_some_iff.1 hu).1
      simpa [hlen] using this
    have := hcell j (by omega)
    rw [add_none] at this
    rw [this]
    simp only [ints, List.getElem?_map, List.getElem?_take, if_pos hj] at hu
    rw [List.getElem?_eq_getElem (by omega)] at hu
    simp at hu
    rw [← hu, List.getD_eq_getElem?_getD, List.getElem?_eq_getElem (by omega)]
    rfl
end
theorem own : ownKnob Tryz.prog.godebug = none := by kernel_rfl
theorem laidOut : laidOutB Tryz.prog = true := by kernel_rfl
end Go.Proofs.YtemmnpgebpffbaaGreat
/- The way from a contract to the given statement: arguments that are structs, and rows of structs; up to eight arguments. -/
namespace Go.Proofs.YtemmnpgebpffbaaGreat
open Go.ChangeShapes Go.WideShapes Go.ChangeAt Go.RowKit Go.Deep Go.Joins
section
variable {H : Type} {enc : TypeId × Value → H} {P : Program} {w : World} {base : Nat} {spare : Nat → Bool} {held : Bool}
theorem trodAll_five {t0 t1 t2 t3 t4 : TypeId} {args : Array Value} {ds : List (DataW H)} {ps : List MemPlace} (h : DataW.TrodAll enc P w base spare held [t0, t1, t2, t3, t4] args.toList ds ps) :
    ∃ v0 v1 v2 v3 v4 d0 d1 d2 d3 d4 p0 p1 p2 p3 p4, args = #[v0, v1, v2, v3, v4] ∧ ds = [d0, d1, d2, d3, d4] ∧ ps = p0 ++ p1 ++ p2 ++ p3 ++ p4 ∧ DataW.Trod enc P w base spare held t0 v0 d0 p0 ∧ DataW.Trod enc P w base spare held t1 v1 d1 p1 ∧ DataW.Trod enc P w base spare held t2 v2 d2 p2 ∧ DataW.Trod enc P w base spare held t3 v3 d3 p3 ∧ DataW.Trod enc P w base spare held t4 v4 d4 p4 := by
  obtain ⟨v0, vs0, d0, ds0, p0, q0, hargs, rfl, rfl, k0, h0⟩ := trodAll_cons h
  obtain ⟨v1, vs1, d1, ds1, p1, q1, rfl, rfl, rfl, k1, h1⟩ := trodAll_cons h0
  obtain ⟨v2, vs2, d2, ds2, p2, q2, rfl, rfl, rfl, k2, h2⟩ := trodAll_cons h1
  obtain ⟨v3, vs3, d3, ds3, p3, q3, rfl, rfl, rfl, k3, h3⟩ := trodAll_cons h2
  obtain ⟨v4, vs4, d4, ds4, p4, q4, rfl, rfl, rfl, k4, h4⟩ := trodAll_cons h3
  obtain ⟨rfl, rfl, rfl⟩ := trodAll_nil h4
  exact ⟨v0, v1, v2, v3, v4, d0, d1, d2, d3, d4, p0, p1, p2, p3, p4, by cases args; simp_all, rfl, by simp, k0, k1, k2, k3, k4⟩
theorem trodAll_six {t0 t1 t2 t3 t4 t5 : TypeId} {args : Array Value} {ds : List (DataW H)} {ps : List MemPlace} (h : DataW.TrodAll enc P w base spare held [t0, t1, t2, t3, t4, t5] args.toList ds ps) :
    ∃ v0 v1 v2 v3 v4 v5 d0 d1 d2 d3 d4 d5 p0 p1 p2 p3 p4 p5, args = #[v0, v1, v2, v3, v4, v5] ∧ ds = [d0, d1, d2, d3, d4, d5] ∧ ps = p0 ++ p1 ++ p2 ++ p3 ++ p4 ++ p5 ∧ DataW.Trod enc P w base spare held t0 v0 d0 p0 ∧ DataW.Trod enc P w base spare held t1 v1 d1 p1 ∧ DataW.Trod enc P w base spare held t2 v2 d2 p2 ∧ DataW.Trod enc P w base spare held t3 v3 d3 p3 ∧ DataW.Trod enc P w base spare held t4 v4 d4 p4 ∧ DataW.Trod enc P w base spare held t5 v5 d5 p5 := by
  obtain ⟨v0, vs0, d0, ds0, p0, q0, hargs, rfl, rfl, k0, h0⟩ := trodAll_cons h
  obtain ⟨v1, vs1, d1, ds1, p1, q1, rfl, rfl, rfl, k1, h1⟩ := trodAll_cons h0
  obtain ⟨v2, vs2, d2, ds2, p2, q2, rfl, rfl, rfl, k2, h2⟩ := trodAll_cons h1
  obtain ⟨v3, vs3, d3, ds3, p3, q3, rfl, rfl, rfl, k3, h3⟩ := trodAll_cons h2
  obtain ⟨v4, vs4, d4, ds4, p4, q4, rfl, rfl, rfl, k4, h4⟩ := trodAll_cons h3
  obtain ⟨v5, vs5, d5, ds5, p5, q5, rfl, rfl, rfl, k5, h5⟩ := trodAll_cons h4
  obtain ⟨rfl, rfl, rfl⟩ := trodAll_nil h5
  exact ⟨v0, v1, v2, v3, v4, v5, d0, d1, d2, d3, d4, d5, p0, p1, p2, p3, p4, p5, by cases args; simp_all, rfl, by simp, k0, k1, k2, k3, k4, k5⟩
theorem trodAll_seven {t0 t1 t2 t3 t4 t5 t6 : TypeId} {args : Array Value} {ds : List (DataW H)} {ps : List MemPlace} (h : DataW.TrodAll enc P w base spare held [t0, t1, t2, t3, t4, t5, t6] args.toList ds ps) :
    ∃ v0 v1 v2 v3 v4 v5 v6 d0 d1 d2 d3 d4 d5 d6 p0 p1 p2 p3 p4 p5 p6, args = #[v0, v1, v2, v3, v4, v5, v6] ∧ ds = [d0, d1, d2, d3, d4, d5, d6] ∧ ps = p0 ++ p1 ++ p2 ++ p3 ++ p4 ++ p5 ++ p6 ∧ DataW.Trod enc P w base spare held t0 v0 d0 p0 ∧ DataW.Trod enc P w base spare held t1 v1 d1 p1 ∧ DataW.Trod enc P w base spare held t2 v2 d2 p2 ∧ DataW.Trod enc P w base spare held t3 v3 d3 p3 ∧ DataW.Trod enc P w base spare held t4 v4 d4 p4 ∧ DataW.Trod enc P w base spare held t5 v5 d5 p5 ∧ DataW.Trod enc P w base spare held t6 v6 d6 p6 := by
  obtain ⟨v0, vs0, d0, ds0, p0, q0, hargs, rfl, rfl, k0, h0⟩ := trodAll_cons h
  obtain ⟨v1, vs1, d1, ds1, p1, q1, rfl, rfl, rfl, k1, h1⟩ := trodAll_cons h0
  obtain ⟨v2, vs2, d2, ds2, p2, q2, rfl, rfl, rfl, k2, h2⟩ := trodAll_cons h1
  obtain ⟨v3, vs3, d3, ds3, p3, q3, rfl, rfl, rfl, k3, h3⟩ := trodAll_cons h2
  obtain ⟨v4, vs4, d4, ds4, p4, q4, rfl, rfl, rfl, k4, h4⟩ := trodAll_cons h3
  obtain ⟨v5, vs5, d5, ds5, p5, q5, rfl, rfl, rfl, k5, h5⟩ := trodAll_cons h4
  obtain ⟨v6, vs6, d6, ds6, p6, q6, rfl, rfl, rfl, k6, h6⟩ := trodAll_cons h5
  obtain ⟨rfl, rfl, rfl⟩ := trodAll_nil h6
  exact ⟨v0, v1, v2, v3, v4, v5, v6, d0, d1, d2, d3, d4, d5, d6, p0, p1, p2, p3, p4, p5, p6, by cases args; simp_all, rfl, by simp, k0, k1, k2, k3, k4, k5, k6⟩
theorem trodAll_eight {t0 t1 t2 t3 t4 t5 t6 t7 : TypeId} {args : Array Value} {ds : List (DataW H)} {ps : List MemPlace} (h : DataW.TrodAll enc P w base spare held [t0, t1, t2, t3, t4, t5, t6, t7] args.toList ds ps) :
    ∃ v0 v1 v2 v3 v4 v5 v6 v7 d0 d1 d2 d3 d4 d5 d6 d7 p0 p1 p2 p3 p4 p5 p6 p7, args = #[v0, v1, v2, v3, v4, v5, v6, v7] ∧ ds = [d0, d1, d2, d3, d4, d5, d6, d7] ∧ ps = p0 ++ p1 ++ p2 ++ p3 ++ p4 ++ p5 ++ p6 ++ p7 ∧ DataW.Trod enc P w base spare held t0 v0 d0 p0 ∧ DataW.Trod enc P w base spare held t1 v1 d1 p1 ∧ DataW.Trod enc P w base spare held t2 v2 d2 p2 ∧ DataW.Trod enc P w base spare held t3 v3 d3 p3 ∧ DataW.Trod enc P w base spare held t4 v4 d4 p4 ∧ DataW.Trod enc P w base spare held t5 v5 d5 p5 ∧ DataW.Trod enc P w base spare held t6 v6 d6 p6 ∧ DataW.Trod enc P w base spare held t7 v7 d7 p7 := by
  obtain ⟨v0, vs0, d0, ds0, p0, q0, hargs, rfl, rfl, k0, h0⟩ := trodAll_cons h
  obtain ⟨v1, vs1, d1, ds1, p1, q1, rfl, rfl, rfl, k1, h1⟩ := trodAll_cons h0
  obtain ⟨v2, vs2, d2, ds2, p2, q2, rfl, rfl, rfl, k2, h2⟩ := trodAll_cons h1
  obtain ⟨v3, vs3, d3, ds3, p3, q3, rfl, rfl, rfl, k3, h3⟩ := trodAll_cons h2
  obtain ⟨v4, vs4, d4, ds4, p4, q4, rfl, rfl, rfl, k4, h4⟩ := trodAll_cons h3
  obtain ⟨v5, vs5, d5, ds5, p5, q5, rfl, rfl, rfl, k5, h5⟩ := trodAll_cons h4
  obtain ⟨v6, vs6, d6, ds6, p6, q6, rfl, rfl, rfl, k6, h6⟩ := trodAll_cons h5
  obtain ⟨v7, vs7, d7, ds7, p7, q7, rfl, rfl, rfl, k7, h7⟩ := trodAll_cons h6
  obtain ⟨rfl, rfl, rfl⟩ := trodAll_nil h7
  exact ⟨v0, v1, v2, v3, v4, v5, v6, v7, d0, d1, d2, d3, d4, d5, d6, d7, p0, p1, p2, p3, p4, p5, p6, p7, by cases args; simp_all, rfl, by simp, k0, k1, k2, k3, k4, k5, k6, k7⟩
/-- Cells of numbers of these kinds. -/
def IsRow : List IntKind → List Value → Prop
  | [], cs => cs = []
  | k :: ks, cs => ∃ n r, cs = .int k n :: r ∧ InR k n ∧ IsRow ks r
theorem IsRow.len : ∀ {ks : List IntKind} {cs : List Value}, IsRow ks cs → cs.length = ks.length
  | [], _, h => by rw [show _ = [] from h]; rfl
  | k :: ks, _, ⟨n, r, e, _, h⟩ => by rw [e]; simp [h.len]
theorem IsRow.app : ∀ {ks ls : List IntKind} {cs ds : List Value}, IsRow ks cs → IsRow ls ds → IsRow (ks ++ ls) (cs ++ ds)
  | [], _, _, _, h, g => by rw [show _ = [] from h]; simpa using g
  | k :: ks, _, _, _, ⟨n, r, e, hn, h⟩, g => ⟨n, r ++ _, by rw [e]; rfl, hn, h.app g⟩
/-- A type whose cells are numbers of these kinds. -/
structure CellsT (P : Program) (t : TypeId) (ks : List IntKind) : Prop where
  len : P.cellsOf t = ks.length
  h : ∀ {H : Type} {enc : TypeId × Value → H} {w : World} {base : Nat} {spare : Nat → Bool} {held : Bool} {fuel : Nat} {cs : List Value} {x : DataW H × List MemPlace}, DataW.trod enc P w base spare held fuel t cs = some x → IsRow ks cs
theorem cells_int {t : TypeId} {k : IntKind} (ht : P.underlying t = some (.int k)) (hc : P.cellsOf t = 1) : CellsT P t [k] := ⟨hc, fun h => by
  obtain ⟨n, rfl, -, hwf⟩ := DataW.trod_int ht h
  exact ⟨n, [], rfl, wf_in hwf, rfl⟩⟩
def FieldsOk (P : Program) : List Field → Nat → List (List IntKind) → Prop
  | [], _, kss => kss = []
  | f :: fs, off, kss => ∃ ks r, kss = ks :: r ∧ f.offset = off ∧ CellsT P f.type ks ∧ FieldsOk P fs (off + ks.length) r
theorem fields_row {cs : List Value} : ∀ (fs : List Field) (off : Nat) (kss : List (List IntKind)), FieldsOk P fs off kss → off + kss.flatten.length ≤ cs.length →
    (∀ f ∈ fs, ∃ (n : Nat) (x : DataW H × List MemPlace), DataW.trod enc P w base spare held n f.type ((cs.drop f.offset).take (P.cellsOf f.type)) = some x) → IsRow kss.flatten ((cs.drop off).take kss.flatten.length)
  | [], off, kss, h, _, _ => by rw [show kss = [] from h]; simp [IsRow]
  | f :: fs, off, _, ⟨ks, r, rfl, ho, hk, hr⟩, hl, hf => by
    obtain ⟨n, x, hx⟩ := hf f (List.mem_cons_self ..)
    have h1 := hk.h hx
    rw [ho, hk.len] at h1
    rw [List.flatten_cons, List.length_append] at hl ⊢
    have h2 := fields_row fs (off + ks.length) r hr (by omega) (fun g hg => hf g (List.mem_cons_of_mem _ hg))
    have e : (cs.drop off).take (ks.length + r.flatten.length) = (cs.drop off).take ks.length ++ (cs.drop (off + ks.length)).take r.flatten.length := by
      rw [List.take_add, List.drop_drop]
    rw [e]
    exact h1.app h2
theorem cells_struct {t : TypeId} {fs : Array Field} (kss : List (List IntKind)) (ht : P.underlying t = some (.struct fs)) (hf : FieldsOk P fs.toList 0 kss) (hc : P.cellsOf t = kss.flatten.length) : CellsT P t kss.flatten := ⟨hc, fun {H enc w base spare held fuel cs x} h => by
  obtain ⟨xs, n, -, -, hl, hxl, hat⟩ := DataW.trod_struct ht h
  have := fields_row (enc := enc) (w := w) (base := base) (spare := spare) (held := held) (cs := cs) fs.toList 0 kss hf (by omega) (fun f hf => by
    obtain ⟨i, hi, rfl⟩ := List.getElem_of_mem hf
    have hi' : i < fs.size := by simpa using hi
    have h1 := hat i fs[i] (Array.getElem?_eq_getElem hi')
    rw [List.getElem?_eq_getElem (by omega : i < xs.length)] at h1
    exact ⟨n, _, by simpa using h1⟩)
  rw [List.drop_zero, List.take_of_length_le (by omega)] at this
  exact this⟩
theorem gate_row {r : Reach} {b0 : Nat} {t : TypeId} {fs : Array Field} {ks : List IntKind} {v : Value} {d : DataW H} {ps : List MemPlace} (ht : P.underlying t = some (.struct fs)) (hk : CellsT P t ks) (hv : Value.okWide P w r b0 t v) (h : DataW.Trod enc P w base spare held t v d ps) :
    ∃ cs : List Value, v = .agg cs.toArray ∧ IsRow ks cs := by
  obtain ⟨cs, rfl, hsz⟩ := okWide_struct ht hv
  obtain ⟨fuel, hf⟩ := h
  exact ⟨cs.toList, by simp, hk.h hf⟩
theorem list_ofP {α : Type} {Q : Nat → α → Prop} {n : Nat} (h : ∀ i, i < n → ∃ f, Q i f) : ∃ l : List α, l.length = n ∧ ∀ i f, l[i]? = some f → Q i f := by
  induction n with
  | zero => exact ⟨[], rfl, by simp⟩
  | succ n ih =>
    obtain ⟨l, hl, hp⟩ := ih (fun i hi => h i (by omega))
    obtain ⟨f, hf⟩ := h n (by omega)
    refine ⟨l ++ [f], by simp [hl], fun i g hg => ?_⟩
    by_cases hi : i < l.length
    · rw [List.getElem?_append_left hi] at hg; exact hp i g hg
    · have hb : i < (l ++ [f]).length := (List.getElem?_eq_some_iff.1 hg).1
      have : i = l.length := by simp at hb; omega
      subst this
      simp at hg; subst hg; rw [hl]; exact hf
theorem gate_rows {α : Type} [Inhabited α] {en : α → List Value} {s : Nat} [hR : RowE en s] {ok : α → Prop} {r : Reach} {b0 : Nat} {t e : TypeId} {ks : List IntKind} {v : Value} {d : DataW H} {ps : List MemPlace} (ht : P.underlying t = some (.slice e)) (hk : CellsT P e ks) (hs : ks.length = s)
    (hun : ∀ cs, IsRow ks cs → ∃ a, ok a ∧ en a = cs) (hv : Value.okWide P w r b0 t v) (h : DataW.Trod enc P w 0 (fun _ => true) true t v d ps) :
    ∃ (A : Option Addr) (c : Nat) (l : List α), v = .slice A l.length c ∧ RoA w (blocks []) A l.length c s (flat en l) ∧ ∀ x ∈ l, ok x := by
  obtain ⟨a0, len, cap, rfl⟩ := okWide_slice ht hv
  obtain ⟨fuel, hf⟩ := h
  have hf' : DataW.trod enc P w 0 (fun _ => true) true fuel t [.slice a0 len cap] = some (d, ps) := by simpa [Value.cells] using hf
  rcases open_slice ht hf' with ⟨hcs, -⟩ | ⟨a, len', cap', m, n, D, Pl, hcs, hb, hl, hm, hmm, hx, hi⟩
  · simp at hcs
    obtain ⟨rfl, rfl, rfl⟩ := hcs
    exact ⟨none, 0, [], rfl, ⟨Ro.nil _ _ _⟩, by simp⟩
  · simp at hcs hmm
    obtain ⟨rfl, rfl, rfl⟩ := hcs
    subst hmm
    have hel : ∀ i, i < len → ∃ f : α, ok f ∧ ∀ k u, (en f)[k]? = some u → w.cell? (a.add (i * s + k)) = some u := by
      intro i hil
      obtain ⟨cs', hc, ht'⟩ := hi i (by omega)
      obtain ⟨f, hok, he⟩ := hun cs' (hk.h ht')
      obtain ⟨-, hcl, hat⟩ := World.cells?_some hc
      rw [hk.len, hs] at hcl hat
      refine ⟨f, hok, fun k u hu => ?_⟩
      have hks : k < s := by rw [← hR.h.1 f]; exact (List.getElem?_eq_some_iff.1 hu).1
      rw [← Go.Deep.add_add, hat k hks, ← he]; exact hu
    obtain ⟨l, rfl, hp⟩ := list_ofP hel
    refine ⟨some a, _, l, rfl, ⟨some a, _, rfl, hl, hm, flat_len l, fun hn => ?_⟩, fun f hf => ?_⟩
    · obtain ⟨f0, hf0⟩ : ∃ f, l[0]? = some f := ⟨l[0], List.getElem?_eq_getElem hn⟩
      obtain ⟨u0, hu0⟩ : ∃ u, (en f0)[0]? = some u := ⟨(en f0)[0]'(by rw [hR.h.1]; exact hR.h.2), List.getElem?_eq_getElem _⟩
      have hc0 := (hp 0 f0 hf0).2 0 _ hu0
      obtain ⟨b, off, spot⟩ := a
      have hspot : spot = none := by simpa [Addr.add] using World.cell?_spot hc0
      subst hspot
      have hblt : b < w.heap.size := by
        rcases Nat.lt_or_ge b w.heap.size with hlt | hge
        · exact hlt
        · rw [add_none] at hc0; simp [World.cell?, Array.getElem?_eq_none hge] at hc0
      refine ⟨b, off, rfl, hblt, (by rintro ⟨x, hx, _⟩; cases hx), fun j u hu => ?_⟩
      have hjl : j < l.length * s := by rw [← flat_len (e := en) l]; exact (List.getElem?_eq_some_iff.1 hu).1
      have hpos := hR.h.2
      have hi2 : j / s < l.length := Nat.div_lt_of_lt_mul (by rw [Nat.mul_comm]; exact hjl)
      have hj : j / s * s + j % s = j := by rw [Nat.mul_comm]; exact Nat.div_add_mod j s
      have h1 := flat_at (e := en) l (j / s) (j % s) hi2 (Nat.mod_lt _ hpos)
      rw [hj, hu] at h1
      have hge : l[j / s]? = some (l.getD (j / s) default) := by rw [List.getD_eq_getElem?_getD, List.getElem?_eq_getElem hi2]; rfl
      have := (hp _ _ hge).2 _ u h1.symm
      rw [hj, add_none] at this
      exact this
    · obtain ⟨i, hi', rfl⟩ := List.getElem_of_mem hf
      exact (hp i _ (List.getElem?_eq_getElem hi')).1
end
theorem cells_i64 : CellsT Tryz.prog 2 [.i64] := cells_int Tryz.underlying2 (by kernel_rfl)
theorem cells_in : CellsT Tryz.prog 3 [.i64] := cells_int Tryz.underlying3 (by kernel_rfl)
theorem cells_u16 : CellsT Tryz.prog 35 [.u16] := cells_int Tryz.underlying35 (by kernel_rfl)
theorem cells_u32 : CellsT Tryz.prog 196 [.u32] := cells_int Tryz.underlying196 (by kernel_rfl)
theorem cells_i32 : CellsT Tryz.prog 21 [.i32] := cells_int Tryz.underlying21 (by kernel_rfl)
theorem cells_spot : CellsT Tryz.prog 24 [.i64, .i64] := cells_struct [[.i64], [.i64]] Tryz.underlying24 ⟨_, _, rfl, rfl, cells_i64, _, _, rfl, rfl, cells_i64, rfl⟩ (by kernel_rfl)
def Frm.ok (f : Frm) : Prop := InR .i64 f.kind ∧ InR .u16 f.seq ∧ InR .u32 f.time ∧ InR .i32 f.a ∧ InR .i32 f.b ∧ InR .i32 f.c
theorem un_spot : ∀ cs, IsRow [.i64, .i64] cs → ∃ a : Int × Int, (InR .i64 a.1 ∧ InR .i64 a.2) ∧ spotE a = cs := by
  rintro _ ⟨x, _, rfl, hx, y, _, rfl, hy, rfl⟩
  exact ⟨(x, y), ⟨hx, hy⟩, rfl⟩
theorem un_frame : ∀ cs, IsRow [.i64, .u16, .u32, .i32, .i32, .i32] cs → ∃ a : Frm, a.ok ∧ frmE a = cs := by
  rintro _ ⟨x0, _, rfl, h0, x1, _, rfl, h1, x2, _, rfl, h2, x3, _, rfl, h3, x4, _, rfl, h4, x5, _, rfl, h5, rfl⟩
  exact ⟨⟨x0, x1, x2, x3, x4, x5⟩, ⟨h0, h1, h2, h3, h4, h5⟩, rfl⟩
end Go.Proofs.YtemmnpgebpffbaaGreat
/- The gate of layer 21's laws: searches, heights of a profile. -/
namespace Go.Proofs.YtemmnpgebpffbaaGreat
open Go.RowKit
def Smp.ok (s : Smp) : Prop := InR .i64 s.dx ∧ InR .i64 s.dy ∧ InR .i64 s.z
theorem cells_smp : CellsT Tryz.prog 73 [.i64, .i64, .i64] := cells_struct [[.i64], [.i64], [.i64]] Tryz.underlying73 ⟨_, _, rfl, rfl, cells_i64, _, _, rfl, rfl, cells_i64, _, _, rfl, rfl, cells_i64, rfl⟩ (by kernel_rfl)
theorem un_smp : ∀ cs, IsRow [.i64, .i64, .i64] cs → ∃ a : Smp, a.ok ∧ smpE a = cs := by
  rintro _ ⟨x0, _, rfl, h0, x1, _, rfl, h1, x2, _, rfl, h2, rfl⟩
  exact ⟨⟨x0, x1, x2⟩, ⟨h0, h1, h2⟩, rfl⟩
theorem cells_sch : CellsT Tryz.prog 26 [.i64, .i64, .i64, .i64] := cells_struct [[.i64, .i64], [.i64], [.i64]] Tryz.underlying26 ⟨_, _, rfl, rfl, cells_spot, _, _, rfl, rfl, cells_in, _, _, rfl, rfl, cells_i64, rfl⟩ (by kernel_rfl)
end Go.Proofs.YtemmnpgebpffbaaGreat
/- The engine: a range over a function in a round of another one. -/
namespace Go.Proofs.YtemmnpgebpffbaaGreat
open Go.RowKit
theorem run_enterIn {P : Program} {w : World} {l₀ : Nat} {r₀ : Loop} (h : w.heap[l₀]? = some (.loop r₀)) (fn : FuncId) (tmps : Array Value) (ps : Array Tmp) (assign body : Code) :
    (Instr.enterLoop fn tmps ps assign body (some l₀)).run P w =
      .ok (w.heap.size, []) (w.alloc (.loop { state := .ready, pending := none, fn, tmps, params := ps, assign, body, defers := r₀.defers })) := by
  unfold Instr.enterLoop
  simp only [Sem.run_bind, run_getLoop h, run_newObj_alloc, Result.andThen, Sem.run_pure]
theorem has_mem {H R : List HE} {x : HE} (h : Has H x R) : x ∈ H := by
  induction h with
  | here x r => exact List.mem_cons_self ..
  | there y _ ih => exact List.mem_cons_of_mem _ ih
theorem split_push {H S R : List HE} (y : HE) (h : Split H S R) : Split (y :: H) S (y :: R) := by
  induction h with
  | nil H => exact .nil _
  | cons h _ ih => exact .cons (.there y h) ih
section
variable {n : Nat} {P : Program} {N : Nat} {ds : List Deferred} {w0 : World} {W : Nat → Prop} {σ : List (Nat × Value)} {H R : List HE} {Q : Exit → Act → World → Prop}
theorem c_rangeIn {l0 N0 : Nat} {σ0 : List (Nat × Value)} {ps0 : Array Tmp} {as0 bd0 : Code} {st0 : LoopState} {pe0 : Option Code} {R0 : List HE} {g : Operand} {ps : Array Tmp} {assign body : Code} {f : FuncId} {captured : Array Value} [hcl : Cl P f] {S0 : List HE} {Rp : Nat → Option Code → List HE → Prop}
    (hl : Has H (.loop l0 N0 σ0 ps0 as0 bd0 st0 pe0) R0) (hx : ev σ g = some (.func (.func f) #[] captured)) (hs : Split H S0 R)
    (hc : ∀ (l : Nat) (w : World) (LE : HE), LE = .loop l N σ ps assign body .ready none → St w0 W (LE :: H) w → Own (LE :: S0) w →
      Does P f (.func (.yield l) #[] #[] :: captured.toList) (LE :: S0) w fun _ S' => ∃ st pend S1, S' = .loop l N σ ps assign body st pend :: S1 ∧ st ≠ .busy ∧ Rp l pend S1)
    (h : ∀ l pend S1, Rp l pend S1 → (pend = none → J N ds w0 W σ (S1 ++ R) (Q .normal)) ∧ (∀ c, pend = some c → J N ds w0 W σ (S1 ++ R) (c.wpIn (Fence.wide.inRound l0) n P Q))) :
    J N ds w0 W σ H ((Code.rangeFunc g ps assign body).wpIn (Fence.wide.inRound l0) n P Q) := by
  intro a w ha hw
  refine wpIn_rangeFunc fun fn _ => ?_
  obtain ⟨r0, hr0, -⟩ := hw.own.holds _ (has_mem hl)
  have h2 : St w0 W (.loop w.heap.size N σ ps assign body .ready none :: H) (w.alloc (.loop { state := .ready, pending := none, fn, tmps := a.tmps, params := ps, assign, body, defers := r0.defers })) := by
    refine hw.newObj _ _ rfl ⟨_, World.alloc_heap_new _ _, rfl, rfl, rfl, rfl, rfl, ha.size, ha.at_⟩
  have hen := run_enterIn (P := P) hr0 fn a.tmps ps assign body
  generalize (w.alloc (.loop { state := .ready, pending := none, fn, tmps := a.tmps, params := ps, assign, body, defers := r0.defers })) = W2 at h2 hen
  refine ⟨w.heap.size, [], W2, { target := .fn (.func f) captured, args := #[.func (.yield w.heap.size) #[] #[]] }, W2, f, #[.func (.yield w.heap.size) #[] #[]] ++ captured, W2, hen, ?_, ?_, ?_, ?_⟩
  · have hg := ha.eval hx
    have hy : a.eval (.const (.func (.yield w.heap.size) #[] #[])) = .func (.yield w.heap.size) #[] #[] := rfl
    simp only [resolve, rangeCall, Deferred.ofValue, hg, List.map_toArray, List.map_cons, List.map_nil, hy, Sem.run_pure, Array.empty_append]
  · exact fun _ _ => trivial
  · simp only [invoke]; exact hcl.h _ _
  · refine ⟨fun hd => (by cases hd), ?_⟩
    have hspl : Split (.loop w.heap.size N σ ps assign body .ready none :: H) (.loop w.heap.size N σ ps assign body .ready none :: S0) R := .cons (.here _ _) hs
    have hd := hc _ _ _ rfl h2 (h2.sub_own hspl) (n - 1)
    have e0 : (.func (.yield w.heap.size) #[] #[] :: captured.toList : List Value).toArray = #[.func (.yield w.heap.size) #[] #[]] ++ captured := by
      apply Array.ext'; simp
    rw [e0] at hd
    refine WF.h (hd.mono ?_)
    rintro e w3 ⟨v, S', rfl, ⟨st, pend, S1, rfl, hnb, hRp⟩, hst⟩
    have h3 : St w0 W (.loop w.heap.size N σ ps assign body st pend :: (S1 ++ R)) w3 := h2.call hspl hst
    obtain ⟨r, hr, k1, k2, k3⟩ := h3.own.holds _ (List.mem_cons_self ..)
    have hlt : w.heap.size < w3.heap.size := (Array.getElem?_eq_some_iff.1 hr).1
    refine ⟨pend, w3.putObj w.heap.size (.loop { r with state := .exhausted }), by rw [← k2]; exact run_endLoop hr (by rw [k1]; exact hnb), ?_⟩
    have h4 : St w0 W (.loop w.heap.size N σ ps assign body .exhausted pend :: (S1 ++ R)) (w3.putObj w.heap.size (.loop { r with state := .exhausted })) :=
      h3.turn (.here _ _) ⟨_, putObj_holds hlt, rfl, k2, k3⟩ rfl rfl rfl (by simp) (fun b _ hb => World.putObj_heap_other (fun e => hb (by rw [e]; rfl))) (.inl rfl)
    have h5 := h4.sub ((Sub.refl _).skip _)
    have ha' : Tm N ds σ { a with defers := [] ++ a.defers } := ⟨ha.size, by simp [ha.defers], ha.at_⟩
    obtain ⟨q1, q2⟩ := h _ _ _ hRp
    cases pend with
    | none => exact q1 rfl _ _ ha' h5
    | some c => exact q2 c rfl _ _ ha' h5
end
end Go.Proofs.YtemmnpgebpffbaaGreat
/- Package drift: the steps of a search, one by one. -/
namespace Go.Proofs.YtemmnpgebpffbaaGreat
open Go.RowKit
abbrev dE (p : Int × Int) : List Value := [.int .i64 p.1, .int .i64 p.2]
theorem one_perm (x b : HE) (S : List HE) : (x :: b :: S).Perm (b :: x :: S) := List.Perm.swap _ _ _
/-- What could be read can be read still. -/
def RoTo (w0 : World) (W : Nat → Prop) (w1 : World) (W1 : Nat → Prop) : Prop := ∀ size u m xs, Ro w0 W size u m xs → Ro w1 W1 size u m xs
attribute [local irreducible] OJ J HdJ Code.wpIn wpListIn Oper.wpIn bodyPost CallsIn Does
set_option maxRecDepth 4000
set_option maxHeartbeats 64000000 in
theorem steps_any (s : Sch) (w : World) : Does Tryz.prog 51 [.agg (schE s).toArray] [] w
    (fun v S' => ∃ gs, v = .func (.func 89) #[] #[.pointer (some ⟨gs, 0, none⟩)] ∧ S' = [.blk gs 26 (schE s)]) := by
  refine does_of Tryz.func51 rfl Tryz.ntmps51 rfl ⟨by simp, .nil⟩ (fun _ => ?_)
  simp only [slots]
  refine z_tas
  exact j_out1 rfl rfl Sub.au ⟨_, rfl, rfl⟩
set_option maxHeartbeats 64000000 in
theorem steps1_any (lp gs : Nat) (s : Sch) (hf : 0 ≤ s.far ∧ s.far ≤ 32) (w : World) (S : List HE) (I : Nat → List HE → Prop) (D : List HE → Prop)
    (hown : Own (.blk gs 26 (schE s) :: S) w) (h0 : I 0 S)
    (hy : ∀ i S', i < sideN s.far * sideN s.far → I i S' → ∀ w', Own S' w' → RoTo w (blocks (.blk gs 26 (schE s) :: S)) w' (blocks S') → Yields Tryz.prog lp [.int .i64 i, .agg (dE (pS s.far i)).toArray] S' w' (fun v S'' => (v = .bool true ∧ I (i + 1) S'') ∨ (v = .bool false ∧ D S''))) :
    Does Tryz.prog 89 [.func (.yield lp) #[] #[], .pointer (some ⟨gs, 0, none⟩)] (.blk gs 26 (schE s) :: S) w
      (fun v S' => v = .tuple #[] ∧ ∃ S1, S' = .blk gs 26 (schE s) :: S1 ∧ (I (sideN s.far * sideN s.far) S1 ∨ D S1)) := by
  refine does_of Tryz.func89 rfl Tryz.ntmps89 rfl hown (fun n => ?_)
  simp only [slots]
  have hside : ((sideN s.far : Nat) : Int) = 2 * s.far + 1 := by unfold sideN; omega
  have hpa := fun i j hi => pS_at (far := s.far) (i := i) (j := j) hi
  generalize hsd : sideN s.far = sd at *
  refine z_tas
  refine c_loop (X := Nat × List HE) (fun q => q.1 ≤ sd ∧ I (q.1 * sd) q.2)
    (fun q => [(0, .func (.yield lp) #[] #[]), (1, .pointer (some ⟨gs, 0, none⟩)), (3, .int .i64 ((q.1 * sd : Nat) : Int)), (4, .int .i64 ((q.1 : Int) - s.far))])
    (fun q => .blk gs 26 (schE s) :: q.2) (fun q => sd - q.1) (0, S) ⟨by omega, by rw [Nat.zero_mul]; exact h0⟩ ⟨rfl, rfl, by simp [look], by simp [look], trivial⟩ (Sub.refl _) ?_
  rintro ⟨j, S1⟩ ⟨hj, hI⟩
  dsimp only at hj hI ⊢
  rcases Nat.lt_or_ge j sd with hlt | hge
  · have hjs : j * sd + sd ≤ sd * sd := by have := Nat.mul_le_mul_right sd (show j + 1 ≤ sd from hlt); rw [Nat.add_mul, Nat.one_mul] at this; exact this
    have hss : sd * sd ≤ 4225 := by have := Nat.mul_le_mul (show sd ≤ 65 by omega) (show sd ≤ 65 by omega); omega
    have hsj : (j + 1) * sd = j * sd + sd := by rw [Nat.add_mul, Nat.one_mul]
    refine z_tas
    refine c_loop (X := Nat × List HE) (fun q => q.1 ≤ sd ∧ I (j * sd + q.1) q.2)
      (fun q => [(0, .func (.yield lp) #[] #[]), (1, .pointer (some ⟨gs, 0, none⟩)), (3, .int .i64 ((j * sd + q.1 : Nat) : Int)), (4, .int .i64 ((j : Int) - s.far)), (5, .int .i64 ((q.1 : Int) - s.far))])
      (fun q => .blk gs 26 (schE s) :: q.2) (fun q => sd - q.1) (0, S1) ⟨by omega, hI⟩ ⟨rfl, rfl, rfl, rfl, by simp [look], trivial⟩ (Sub.refl _) ?_
    rintro ⟨i, S2⟩ ⟨hi, hI2⟩
    dsimp only at hi hI2 ⊢
    rcases Nat.lt_or_ge i sd with hlt2 | hge2
    · have hps := hpa i j hlt2
      refine z_tas
      refine lyl rfl rfl rfl (Split.preT S2 [.blk gs 26 (schE s)]) rfl (fun w hw ho => by have := hy (j * sd + i) S2 (by omega) hI2 w ho (fun _ _ _ _ h => h.go hw (Split.preT S2 [.blk gs 26 (schE s)])); rw [hps] at this; exact this) ?_
      rintro v S3 (⟨rfl, hI3⟩ | ⟨rfl, hD⟩)
      · refine j_swapT ?_
        show J _ _ _ _ _ (.blk gs 26 (schE s) :: S3) _
        refine z_tas
        exact c_round (i + 1, S3) ⟨hlt2, hI3⟩ (by show sd - (i + 1) < sd - i; omega) ⟨rfl, rfl, by simp [look]; omega, rfl, by simp [look]; omega, trivial⟩ (Sub.refl _)
      · refine j_swapT ?_
        show J _ _ _ _ _ (.blk gs 26 (schE s) :: S3) _
        refine z_tas
        exact j_out0 rfl (Sub.refl _) ⟨rfl, S3, rfl, .inr hD⟩
    · obtain rfl : i = sd := by omega
      refine z_tas
      exact c_round (j + 1, S2) ⟨hlt, by dsimp only; rw [hsj]; exact hI2⟩ (by show i - (j + 1) < i - j; omega) ⟨rfl, rfl, by dsimp only; rw [hsj]; rfl, by simp [look]; omega, trivial⟩ (Sub.refl _)
  · obtain rfl : j = sd := by omega
    refine z_tas
    exact j_outN rfl (Sub.refl _) ⟨rfl, S1, rfl, .inl hI⟩
section
variable {n N : Nat} {ds : List Deferred} {w0 : World} {W : Nat → Prop} {σ : List (Nat × Value)} {H : List HE} {Q : Exit → Act → World → Prop} {g : Operand} {ps : Array Tmp} {assign body : Code} {gs : Nat} {s : Sch} {S R : List HE}
/-- A range over the steps of a search. -/
theorem c_steps (I : Nat → List HE → Prop) (D : Code → List HE → Prop)
    (hx : ev σ g = some (.func (.func 89) #[] #[.pointer (some ⟨gs, 0, none⟩)])) (hs : Split H (.blk gs 26 (schE s) :: S) R) (hf : 0 ≤ s.far ∧ s.far ≤ 32) (h0 : I 0 S)
    (hy : ∀ lp i S1, i < sideN s.far * sideN s.far → I i S1 → ∀ w1, Own (.loop lp N σ ps assign body .ready none :: S1) w1 → RoTo w0 W w1 (blocks (.loop lp N σ ps assign body .ready none :: S1)) → Yields Tryz.prog lp [.int .i64 i, .agg (dE (pS s.far i)).toArray] (.loop lp N σ ps assign body .ready none :: S1) w1
      (fun v S2 => (v = .bool true ∧ ∃ S3, S2 = .loop lp N σ ps assign body .ready none :: S3 ∧ I (i + 1) S3) ∨ (v = .bool false ∧ ∃ c S3, S2 = .loop lp N σ ps assign body .done (some c) :: S3 ∧ D c S3)))
    (hn : ∀ d S1, I (sideN s.far * sideN s.far) S1 → J N (mk d :: ds) w0 W σ (S1 ++ .obj d (.deferred (some [])) :: R) (Q .normal))
    (hd : ∀ d c S1, D c S1 → J N (mk d :: ds) w0 W σ (S1 ++ .obj d (.deferred (some [])) :: R) (c.wpIn Fence.wide n Tryz.prog Q)) : J N ds w0 W σ H ((Code.rangeFunc g ps assign body).wpIn Fence.wide n Tryz.prog Q) := by
  refine c_range (Rp := fun d lp pend S1 => ∃ S2, S1 = .blk gs 26 (schE s) :: S2 ∧ ((pend = none ∧ I (sideN s.far * sideN s.far) S2) ∨ ∃ c, pend = some c ∧ D c S2)) hx hs (fun d lp w1 LE hLE hw ho => ?_) ?_
  · have hp := one_perm LE (.blk gs 26 (schE s)) S
    refine Does.conv (steps1_any lp gs s hf w1 (LE :: S) (fun i S' => ∃ S1, S' = LE :: S1 ∧ I i S1) (fun S' => ∃ c S1, S' = .loop lp N σ ps assign body .done (some c) :: S1 ∧ D c S1) (ho.perm hp) ⟨S, rfl, h0⟩ ?_) hp.symm ?_
    · rintro i S' hi ⟨S1, rfl, hI⟩ w2 ho2 hro
      rw [← blocks_perm hp] at hro
      subst hLE
      exact hy lp i S1 hi hI w2 ho2 (fun _ _ _ _ h => hro _ _ _ _ (h.go hw (.cons (.here _ _) (split_push _ hs))))
    · rintro v S' ⟨-, S1, rfl, ⟨S2, rfl, hI⟩ | ⟨c, S2, rfl, hD⟩⟩
      · exact ⟨_, one_perm _ _ _, .ready, none, _, by rw [hLE], by simp, S2, rfl, .inl ⟨rfl, hI⟩⟩
      · exact ⟨_, one_perm _ _ _, .done, some c, _, rfl, by simp, S2, rfl, .inr ⟨c, rfl, hD⟩⟩
  · rintro d lp pend S1 ⟨S2, rfl, ⟨rfl, hI⟩ | ⟨c, rfl, hD⟩⟩
    · exact ⟨fun _ => j_perm (Sub.skip (Sub.refl _) _) (hn d S2 hI), fun c h => by cases h⟩
    · exact ⟨fun h => (by cases h), fun c' h => (by injection h with h; subst h; exact j_perm (Sub.skip (Sub.refl _) _) (hd d c S2 hD))⟩
/-- The same, in a round of another range. -/
theorem c_stepsIn {l0 N0 : Nat} {σ0 : List (Nat × Value)} {ps0 : Array Tmp} {as0 bd0 : Code} {st0 : LoopState} {pe0 : Option Code} {R0 : List HE} (I : Nat → List HE → Prop) (D : Code → List HE → Prop)
    (hl : Has H (.loop l0 N0 σ0 ps0 as0 bd0 st0 pe0) R0)
    (hx : ev σ g = some (.func (.func 89) #[] #[.pointer (some ⟨gs, 0, none⟩)])) (hs : Split H (.blk gs 26 (schE s) :: S) R) (hf : 0 ≤ s.far ∧ s.far ≤ 32) (h0 : I 0 S)
    (hy : ∀ lp i S1, i < sideN s.far * sideN s.far → I i S1 → ∀ w1, Own (.loop lp N σ ps assign body .ready none :: S1) w1 → RoTo w0 W w1 (blocks (.loop lp N σ ps assign body .ready none :: S1)) → Yields Tryz.prog lp [.int .i64 i, .agg (dE (pS s.far i)).toArray] (.loop lp N σ ps assign body .ready none :: S1) w1
      (fun v S2 => (v = .bool true ∧ ∃ S3, S2 = .loop lp N σ ps assign body .ready none :: S3 ∧ I (i + 1) S3) ∨ (v = .bool false ∧ ∃ c S3, S2 = .loop lp N σ ps assign body .done (some c) :: S3 ∧ D c S3)))
    (hn : ∀ S1, I (sideN s.far * sideN s.far) S1 → J N ds w0 W σ (S1 ++ R) (Q .normal))
    (hd : ∀ c S1, D c S1 → J N ds w0 W σ (S1 ++ R) (c.wpIn (Fence.wide.inRound l0) n Tryz.prog Q)) : J N ds w0 W σ H ((Code.rangeFunc g ps assign body).wpIn (Fence.wide.inRound l0) n Tryz.prog Q) := by
  refine c_rangeIn (Rp := fun lp pend S1 => ∃ S2, S1 = .blk gs 26 (schE s) :: S2 ∧ ((pend = none ∧ I (sideN s.far * sideN s.far) S2) ∨ ∃ c, pend = some c ∧ D c S2)) hl hx hs (fun lp w1 LE hLE hw ho => ?_) ?_
  · have hp := one_perm LE (.blk gs 26 (schE s)) S
    refine Does.conv (steps1_any lp gs s hf w1 (LE :: S) (fun i S' => ∃ S1, S' = LE :: S1 ∧ I i S1) (fun S' => ∃ c S1, S' = .loop lp N σ ps assign body .done (some c) :: S1 ∧ D c S1) (ho.perm hp) ⟨S, rfl, h0⟩ ?_) hp.symm ?_
    · rintro i S' hi ⟨S1, rfl, hI⟩ w2 ho2 hro
      rw [← blocks_perm hp] at hro
      subst hLE
      exact hy lp i S1 hi hI w2 ho2 (fun _ _ _ _ h => hro _ _ _ _ (h.go hw (.cons (.here _ _) hs)))
    · rintro v S' ⟨-, S1, rfl, ⟨S2, rfl, hI⟩ | ⟨c, S2, rfl, hD⟩⟩
      · exact ⟨_, one_perm _ _ _, .ready, none, _, by rw [hLE], by simp, S2, rfl, .inl ⟨rfl, hI⟩⟩
      · exact ⟨_, one_perm _ _ _, .done, some c, _, rfl, by simp, S2, rfl, .inr ⟨c, rfl, hD⟩⟩
  · rintro lp pend S1 ⟨S2, rfl, ⟨rfl, hI⟩ | ⟨c, rfl, hD⟩⟩
    · exact ⟨fun _ => j_perm (Sub.skip (Sub.refl _) _) (hn S2 hI), fun c h => by cases h⟩
    · exact ⟨fun h => (by cases h), fun c' h => (by injection h with h; subst h; exact j_perm (Sub.skip (Sub.refl _) _) (hd c S2 hD))⟩
end
end Go.Proofs.YtemmnpgebpffbaaGreat
/- Packages drift and theodoliteref40: what is wrong with a search, how far the ground is from a height at each step. -/
namespace Go.Proofs.YtemmnpgebpffbaaGreat
open Go.RowKit
/-- Numbers, one by one. -/
def tab (g : Nat → Int) : Nat → List Int
  | 0 => []
  | i + 1 => tab g i ++ [g i]
theorem tab_len (g : Nat → Int) : ∀ n, (tab g n).length = n
  | 0 => rfl
  | n + 1 => by rw [tab, List.length_append, tab_len g n]; rfl
theorem tab_get (g : Nat → Int) {i : Nat} : ∀ {n : Nat}, i < n → (tab g n).getD i 0 = g i
  | n + 1, h => by
    rw [tab]
    rcases Nat.lt_or_ge i n with h1 | h1
    · rw [List.getD_eq_getElem?_getD, List.getElem?_append_left (by rw [tab_len]; exact h1), ← List.getD_eq_getElem?_getD, tab_get g h1]
    · obtain rfl : i = n := by omega
      rw [List.getD_eq_getElem?_getD, List.getElem?_append_right (by rw [tab_len]; exact Nat.le_refl _), tab_len, Nat.sub_self]
      rfl
/-- By how much the ground is from a height, at a step; -1: there is none. -/
def offF (W H : Nat) (f : List Int) (s : Sch) (x : Smp) (i k : Int) : Int :=
  if codeF W H f (s.x + i * s.step + x.dx) (s.y + k * s.step + x.dy) = 0 then max (heightT W H f (s.x + i * s.step + x.dx) (s.y + k * s.step + x.dy) - x.z) (-(heightT W H f (s.x + i * s.step + x.dx) (s.y + k * s.step + x.dy) - x.z)) else -1
def cstF (W H : Nat) (f : List Int) (s : Sch) (l : List Smp) (n a : Nat) : Int := offF W H f s (l.getD n default) (pS s.far a).1 (pS s.far a).2
theorem onTo_one (W H : Nat) (f : List Int) (X Y : Int) (x : Smp) : onTo W H f X Y [x] [x].length = (codeF W H f (X + x.dx) (Y + x.dy) == 0) := rfl
theorem apTo_one (W H : Nat) (f : List Int) (X Y : Int) (x : Smp) : apTo W H f X Y [x] [x].length = [heightT W H f (X + x.dx) (Y + x.dy) - x.z] := rfl
theorem RoA.sub1 {w0 : World} {W : Nat → Prop} {A : Option Addr} {c n : Nat} {l : List Smp} (hr : RoA w0 W A l.length c 3 (flat smpE l)) (hn : n < l.length) : RoA w0 W (subA A n c 3) [l.getD n default].length (c - n) 3 (flat smpE [l.getD n default]) := by
  obtain ⟨A', c', e1, h1, h2, h3, h4⟩ := hr.h
  injection e1 with e1 e2 e3; subst e1 e3
  refine ⟨subA A n c 3, c - n, rfl, by simp only [List.length_cons, List.length_nil]; omega, by omega, by simp [flat_len], fun _ => ?_⟩
  obtain ⟨b, off, rfl, h5, h6, h7⟩ := h4 (by omega)
  refine ⟨b, off + n * 3, ?_, h5, h6, fun j v hj => ?_⟩
  · unfold subA
    rw [if_neg (by omega)]
    simp [add_none]
  · rw [Nat.add_assoc]
    refine h7 (n * 3 + j) v ?_
    rw [flat_one] at hj
    have hj3 : j < 3 := by
      have := (List.getElem?_eq_some_iff.1 hj).1
      simpa using this
    rw [flat_at l n j hn hj3]
    exact hj
def chk40 (s : Sch) (l : List Smp) (turn : Int) : Int := if chk21 s l ≠ 0 then chk21 s l else if 8 < s.far then 12 else if turn < 0 ∨ 1048576 < turn then 1 else 0
instance (priority := 60) {P : Program} {w0 : World} {W : Nat → Prop} {H : List HE} (t e sz bs m c l h : Nat) (z : Value) (k k' : IntKind) (a : Int) (x lo hi : Operand) (A : Option Addr) [hu : Und P t (.slice e)] [hI : Inf P e sz bs z] [ha : LitI a h] : MS P w0 W H (.slice t x (some lo) (some hi) none) [.slice A m c, .int k (l : Int), .int k' a] (.slice (subA A l c sz) (h - l) (c - l)) (l ≤ h ∧ h ≤ c) := by
  have h0 : MS P w0 W H (.slice t x (some lo) (some hi) none) [.slice A m c, .int k (l : Int), .int k' (h : Int)] (.slice (subA A l c sz) (h - l) (c - l)) (l ≤ h ∧ h ≤ c) := inferInstance
  rw [ha.h]
  exact h0
attribute [local irreducible] OJ J HdJ Code.wpIn wpListIn Oper.wpIn bodyPost CallsIn Does
set_option maxRecDepth 4000
set_option maxHeartbeats 64000000 in
theorem dcheck_any (s : Sch) (Al : Option Addr) (cl : Nat) (l : List Smp) (turn : Int) (w : World) (hr : RoA w (blocks []) Al l.length cl 3 (flat smpE l)) (hm : l.length ≤ 1000000) :
    Does Tryz.prog 48 [.agg (schE s).toArray, .slice Al l.length cl, .int .i64 turn] [] w (fun v S' => v = .int .i64 (chk40 s l turn) ∧ S' = []) := by
  refine does_of Tryz.func48 rfl Tryz.ntmps48 rfl ⟨by simp, .nil⟩ (fun n => ?_)
  simp only [slots]
  refine z_tas
  refine lfv rfl rfl rfl (fun w hw => mcheck_any s Al cl l w ⟨hr.h.go hw (Split.nil _)⟩ hm) ?_
  unfold chk40
  generalize chk21 s l = e at *
  refine z_tas
  all_goals exact j_out1 rfl rfl (.nil _) ⟨congrArg (Value.int .i64) (by split <;> (try split) <;> (try split) <;> omega), rfl⟩
set_option maxHeartbeats 64000000 in
theorem rcheck40_any (s : Sch) (Al : Option Addr) (cl : Nat) (l : List Smp) (turn : Int) (w : World) (hr : RoA w (blocks []) Al l.length cl 3 (flat smpE l)) (hm : l.length ≤ 1000000) :
    Does Tryz.prog 16 [.agg (schE s).toArray, .slice Al l.length cl, .int .i64 turn] [] w (fun v S' => v = .int .i64 (chk40 s l turn) ∧ S' = []) := by
  refine does_of Tryz.func16 rfl Tryz.ntmps16 rfl ⟨by simp, .nil⟩ (fun n => ?_)
  simp only [slots]
  refine z_tas
  refine lfv rfl rfl rfl (fun w hw => rcheck21_any s Al cl l w ⟨hr.h.go hw (Split.nil _)⟩ hm) ?_
  unfold chk40
  generalize chk21 s l = e at *
  refine z_tas
  all_goals exact j_out1 rfl rfl (.nil _) ⟨congrArg (Value.int .i64) (by split <;> (try split) <;> (try split) <;> omega), rfl⟩
set_option maxHeartbeats 64000000 in
theorem roff_any (W H : Nat) (A : Option Addr) (c : Nat) (f : List Int) (s : Sch) (x : Smp) (i k : Int) (w : World) (hr : RoA w (blocks []) A f.length c 1 (ints .i16 f)) (hW : 1 ≤ W ∧ W ≤ 256 ∧ 1 ≤ H ∧ H ≤ 256) (hz : f.length = W * H) (hf : In16 f) (hs : SchOk s) (hx : SmpOk x) (hi : -32 ≤ i ∧ i ≤ 32) (hk : -32 ≤ k ∧ k ≤ 32) :
    Does Tryz.prog 52 [.agg #[.int .i64 W, .int .i64 H, .slice A f.length c], .agg (schE s).toArray, .agg (smpE x).toArray, .int .i64 i, .int .i64 k] [] w (fun v S' => v = .int .i64 (offF W H f s x i k) ∧ S' = []) := by
  obtain ⟨⟨a1, a2⟩, ⟨a3, a4⟩, ⟨a5, a6⟩, a7, a8⟩ := hs
  obtain ⟨⟨x1, x2⟩, ⟨x3, x4⟩, x5, x6⟩ := hx
  have h1 := mulB 32 4096 (a := i) (b := s.step) (by omega) (by omega)
  have h2 := mulB 32 4096 (a := k) (b := s.step) (by omega) (by omega)
  have hz1 := heightT_in hf (W := W) (H := H) (s.x + i * s.step + x.dx) (s.y + k * s.step + x.dy)
  refine does_of Tryz.func52 rfl Tryz.ntmps52 rfl ⟨by simp, .nil⟩ (fun n => ?_)
  simp only [slots]
  refine z_tas
  refine lfv rfl rfl rfl (fun w hw => rheight11_any W H A c f (s.x + i * s.step + x.dx) (s.y + k * s.step + x.dy) w ⟨hr.h.go hw (Split.nil _)⟩ hW hz hf) ?_
  unfold offF
  generalize heightT W H f (s.x + i * s.step + x.dx) (s.y + k * s.step + x.dy) = z at *
  generalize codeF W H f (s.x + i * s.step + x.dx) (s.y + k * s.step + x.dy) = e at *
  refine z_tas
  all_goals exact j_out1 rfl rfl (.nil _) ⟨congrArg (Value.int .i64) (by split <;> omega), rfl⟩
set_option maxHeartbeats 64000000 in
theorem dcosts_bad (K : CaT) (s0 : CaV) (s : Sch) (Al : Option Addr) (cl : Nat) (l : List Smp) (n : Int) (w : World) (hown : Own (K.H s0) w) (hr : RoA w (blocks (K.H s0)) Al l.length cl 3 (flat smpE l)) (hm : l.length ≤ 1000000) (hbad : chk21 s l ≠ 0 ∨ 8 < s.far ∨ n < 0 ∨ l.length ≤ n) :
    Does Tryz.prog 46 [.pointer (some ⟨K.g, 0, none⟩), .agg (schE s).toArray, .slice Al l.length cl, .int .i64 n] (K.H s0) w (fun v S' => v = .slice none 0 0 ∧ S' = K.H s0) := by
  refine does_ofM Tryz.func46 rfl Tryz.ntmps46 rfl hown (fun _ => ?_)
  simp only [slots]
  refine z_tas
  refine lfv rfl rfl rfl (fun w hw => mcheck_any s Al cl l w ⟨hr.h.go hw (Split.nil _)⟩ hm) ?_
  generalize chk21 s l = e at *
  refine z_tas
  all_goals first
    | (refine j_outMK (Ds := []) (S' := K.H s0) (by show Sub (K.HC s0 []) _; exact Sub.au) ?_; refine z_rk; exact ⟨rfl, rfl⟩)
    | (exfalso; omega)
set_option maxHeartbeats 128000000 in
theorem dcosts_t (K : CaT) (s0 : CaV) (f : List Int) (s : Sch) (Al : Option Addr) (cl : Nat) (l : List Smp) (n : Nat) (b : Int) (w : World) (hown : Own (K.H s0) w) (hF : CaF K.ys f K.room) (hk0 : CaOk K.ys f K.room s0 b) (hb : b ≤ 700000000000000000) (hr : RoA w (blocks (K.H s0)) Al l.length cl 3 (flat smpE l)) (hc : chk21 s l = 0) (h8 : s.far ≤ 8) (hn : n < l.length) :
    Does Tryz.prog 46 [.pointer (some ⟨K.g, 0, none⟩), .agg (schE s).toArray, .slice Al l.length cl, .int .i64 n] (K.H s0) w
      (fun v S' => ∃ s' A c, CaOk K.ys f K.room s' (b + 1156) ∧ v = .slice A (tab (cstF (wY K.ys) (hY K.ys) f s l n) (sideN s.far * sideN s.far)).length c ∧
        S' = .row (.slice A (tab (cstF (wY K.ys) (hY K.ys) f s l n) (sideN s.far * sideN s.far)).length c) 2 1 (tab (cstF (wY K.ys) (hY K.ys) f s l n) (sideN s.far * sideN s.far)).length (ints .i64 (tab (cstF (wY K.ys) (hY K.ys) f s l n) (sideN s.far * sideN s.far))) :: K.H s') := by
  obtain ⟨⟨⟨a1, a2⟩, ⟨a3, a4⟩, ⟨a5, a6⟩, a7, a8⟩, ⟨l1, l2⟩, hl⟩ := chk21_ok hc
  have hsx := hl n hn
  have hsx' := hsx
  obtain ⟨⟨x1, x2⟩, ⟨x3, x4⟩, x5, x6⟩ := hsx'
  have hss : sideN s.far * sideN s.far ≤ 289 := Nat.mul_le_mul (show sideN s.far ≤ 17 by unfold sideN; omega) (show sideN s.far ≤ 17 by unfold sideN; omega)
  have hlc : l.length ≤ cl := by obtain ⟨A', c', e1, h1, -⟩ := hr.h; injection e1 with e1 e2 e3; omega
  refine does_ofM Tryz.func46 rfl Tryz.ntmps46 rfl hown (fun _ => ?_)
  simp only [slots]
  refine j_nil (e := 2) (size := 1) ?_
  refine z_tas
  rename_i b4 b5 b6 b7
  refine lfv rfl rfl rfl (fun w hw => mcheck_any s Al cl l w ⟨hr.h.go hw (Split.nil _)⟩ (by omega)) ?_
  rw [hc]
  refine z_tas
  rename_i b9
  refine lf rfl rfl rfl (S := []) (fun w hw ho => steps_any s w) ?_
  rintro v S' ⟨gs, rfl, rfl⟩
  refine z_tas
  refine c_steps (s := s) (S := K.HC s0 [.blk b4 36 [.pointer (some ⟨K.g, 0, none⟩)], .blk b5 26 (schE s), .blk b6 27 [.slice Al l.length cl], .blk b7 3 [.int .i64 n], .blk b9 58 [.slice none 0 0], .row (.slice none 0 0) 2 1 0 []])
    (fun i S => ∃ s' A c, CaOk K.ys f K.room s' (b + 4 * (i : Int)) ∧ S = K.HC s' [.blk b4 36 [.pointer (some ⟨K.g, 0, none⟩)], .blk b5 26 (schE s), .blk b6 27 [.slice Al l.length cl], .blk b7 3 [.int .i64 n], .blk b9 58 [.slice A (tab (cstF (wY K.ys) (hY K.ys) f s l n) i).length c], .row (.slice A (tab (cstF (wY K.ys) (hY K.ys) f s l n) i).length c) 2 1 (tab (cstF (wY K.ys) (hY K.ys) f s l n) i).length (ints .i64 (tab (cstF (wY K.ys) (hY K.ys) f s l n) i))])
    (fun _ _ => False) rfl Split.au ⟨a1, a2⟩ ⟨s0, none, 0, by simpa using hk0, rfl⟩ ?_ ?_ ?_
  · rintro lp i S1 hi ⟨s1, A1, c1, hk1, rfl⟩ w1 ho hro
    have hr1 := (⟨hro _ _ _ _ hr.h⟩ : RoA w1 _ Al l.length cl 3 (flat smpE l))
    have hrs := hr1.sub1 hn
    clear hro
    have hp := pS_in a1 hi
    have htl := tab_len (cstF (wY K.ys) (hY K.ys) f s l n) i
    have e : tab (cstF (wY K.ys) (hY K.ys) f s l n) (i + 1) = tab (cstF (wY K.ys) (hY K.ys) f s l n) i ++ [cstF (wY K.ys) (hY K.ys) f s l n i] := rfl
    have ec : cstF (wY K.ys) (hY K.ys) f s l n i = if codeF (wY K.ys) (hY K.ys) f (s.x + (pS s.far i).1 * s.step + (l.getD n default).dx) (s.y + (pS s.far i).2 * s.step + (l.getD n default).dy) = 0 then max (heightT (wY K.ys) (hY K.ys) f (s.x + (pS s.far i).1 * s.step + (l.getD n default).dx) (s.y + (pS s.far i).2 * s.step + (l.getD n default).dy) - (l.getD n default).z) (-(heightT (wY K.ys) (hY K.ys) f (s.x + (pS s.far i).1 * s.step + (l.getD n default).dx) (s.y + (pS s.far i).2 * s.step + (l.getD n default).dy) - (l.getD n default).z)) else -1 := rfl
    generalize hgx : l.getD n default = x at *
    generalize pS s.far i = p at *
    obtain ⟨p1, p2⟩ := p
    dsimp only at hp ec ⊢
    have h1 := mulB 32 4096 (a := p1) (b := s.step) (by omega) (by omega)
    have h2 := mulB 32 4096 (a := p2) (b := s.step) (by omega) (by omega)
    have hz1 := heightT_in hF.good.1 (W := wY K.ys) (H := hY K.ys) (s.x + p1 * s.step + x.dx) (s.y + p2 * s.step + x.dy)
    have hl1 : ∀ j, j < [x].length → SmpOk ([x].getD j default) := fun j hj => by
      have h0 : j = 0 := by simp only [List.length_cons, List.length_nil] at hj; omega
      subst h0
      exact hsx
    show Yields _ _ [.int .i64 i, .agg #[.int .i64 p1, .int .i64 p2]] _ _ _
    refine yields_of (N := 83) ho rfl (by simp) (fun _ => ?_)
    simp only [over]
    refine z_tas
    refine c_beg ?_
    refine z_tas
    rename_i b11
    refine c_dvL [.blk b4 36 [.pointer (some ⟨K.g, 0, none⟩)], .blk b5 26 (schE s), .blk b6 27 [.slice Al l.length cl], .blk b7 3 [.int .i64 n], .blk b11 94 [.int .i64 p1, .int .i64 p2]] (0 :: 1 :: 2 :: 3 :: 4 :: 5 :: 6 :: 7 :: 8 :: 9 :: 10 :: 11 :: 12 :: 13 :: 14 :: 15 :: 16 :: 17 :: 18 :: 19 :: 20 :: 21 :: 22 :: 23 :: 24 :: 25 :: 26 :: 27 :: 28 :: 29 :: 30 :: []) Sub.au ?_
    intro _
    refine z_govG
    all_goals
      rw [show n + 1 - n = [x].length by simp]
      refine lf rfl rfl rfl (S := K.H s1) (fun w hw ho => apart_t K s1 f (s.x + p1 * s.step) (s.y + p2 * s.step) (b + 4 * (i : Int)) (subA Al n cl 3) (cl - n) [x] w ho hF hk1 (by omega) ⟨hrs.h.go hw Split.au⟩ (by simp) (by omega) (by omega) hl1) ?_
      rintro v S' ⟨s2, hk2, hap⟩
      rw [show ([x].length : Int) = 1 from rfl] at hk2
      unfold ApR at hap
      rw [onTo_one, apTo_one] at hap
      generalize heightT (wY K.ys) (hY K.ys) f (s.x + p1 * s.step + x.dx) (s.y + p2 * s.step + x.dy) = zz at *
      generalize codeF (wY K.ys) (hY K.ys) f (s.x + p1 * s.step + x.dx) (s.y + p2 * s.step + x.dy) = ee at *
      generalize hgt : tab (cstF (wY K.ys) (hY K.ys) f s l n) i = gt at *
      rcases hap with ⟨hon, Ad, cd, rfl, rfl⟩ | ⟨hon, rfl, rfl⟩
      · have he0 : ee = 0 := by simpa using hon
        rw [if_pos he0] at ec
        rw [show [zz - x.z].length = 1 from rfl, show ints .i64 [zz - x.z] = [.int .i64 (zz - x.z)] from rfl]
        refine z_govG
        refine j_opn (A := Ad) (m := 1) (cc := cd) (by decide) (fun gd hgd => ?_)
        subst hgd
        refine c_dvL [.row (.slice (some ⟨gd, 0, none⟩) 1 cd) 2 1 1 [.int .i64 (zz - x.z)]] (0 :: 1 :: 2 :: 3 :: 4 :: 5 :: 6 :: 7 :: 8 :: 9 :: 10 :: 11 :: []) Sub.au ?_
        intro _
        refine z_govG
        all_goals
          rename_i A2 c2
          refine c_rnH (S' := _ :: K.HC s2 [.blk b4 36 [.pointer (some ⟨K.g, 0, none⟩)], .blk b5 26 (schE s), .blk b6 27 [.slice Al l.length cl], .blk b7 3 [.int .i64 n], .blk b9 58 [.slice A2 (tab (cstF (wY K.ys) (hY K.ys) f s l n) (i + 1)).length c2], .row (.slice A2 (tab (cstF (wY K.ys) (hY K.ys) f s l n) (i + 1)).length c2) 2 1 (tab (cstF (wY K.ys) (hY K.ys) f s l n) (i + 1)).length (ints .i64 (tab (cstF (wY K.ys) (hY K.ys) f s l n) (i + 1)))]) ?_ (.inl ⟨rfl, _, rfl, s2, A2, c2, hk2.mono (by omega), rfl⟩)
          rw [e, ec]
          exact Sub.au
      · have he0 : ee ≠ 0 := by simpa using hon
        rw [if_neg he0] at ec
        refine z_govG
        rename_i A2 c2
        refine c_rnH (S' := _ :: K.HC s2 [.blk b4 36 [.pointer (some ⟨K.g, 0, none⟩)], .blk b5 26 (schE s), .blk b6 27 [.slice Al l.length cl], .blk b7 3 [.int .i64 n], .blk b9 58 [.slice A2 (tab (cstF (wY K.ys) (hY K.ys) f s l n) (i + 1)).length c2], .row (.slice A2 (tab (cstF (wY K.ys) (hY K.ys) f s l n) (i + 1)).length c2) 2 1 (tab (cstF (wY K.ys) (hY K.ys) f s l n) (i + 1)).length (ints .i64 (tab (cstF (wY K.ys) (hY K.ys) f s l n) (i + 1)))]) ?_ (.inl ⟨rfl, _, rfl, s2, A2, c2, hk2.mono (by omega), rfl⟩)
        rw [e, ec]
        exact Sub.au
  · rintro d S1 ⟨s1, A1, c1, hk1, rfl⟩
    refine z_tas
    refine j_outMK (Ds := [d]) (S' := .row (.slice A1 (tab (cstF (wY K.ys) (hY K.ys) f s l n) (sideN s.far * sideN s.far)).length c1) 2 1 (tab (cstF (wY K.ys) (hY K.ys) f s l n) (sideN s.far * sideN s.far)).length (ints .i64 (tab (cstF (wY K.ys) (hY K.ys) f s l n) (sideN s.far * sideN s.far))) :: K.H s1) ?_ ?_
    · show Sub (_ :: K.HC s1 [.obj d (.deferred (some []))]) _
      exact Sub.au
    · refine z_rk
      exact ⟨s1, A1, c1, hk1.mono (by omega), rfl, rfl⟩
  · rintro d c S1 h
    exact h.elim
end Go.Proofs.YtemmnpgebpffbaaGreat
/- Package drift: what it costs to go from one step to another one; the trellis, in memory. -/
namespace Go.Proofs.YtemmnpgebpffbaaGreat
open Go.RowKit
def absD (a b : Int) : Int := max (a - b) (b - a)
/-- What it costs to go from a step to another one, and whether they are near enough. -/
def trnF (t : Int) (p q : Int × Int) : Int × Bool := ((absD p.1 q.1 + absD p.2 q.2) * t, decide (absD p.1 q.1 ≤ 1 ∧ absD p.2 q.2 ≤ 1))
/-- The best way to a step, by the first so many steps ahead of it: what it costs, and from where it comes. -/
def growTo (t far : Int) (last : Nat → Int) (c : Int) (a : Nat) : Nat → Int × Int
  | 0 => (-1, -1)
  | k + 1 => if (trnF t (pS far k) (pS far a)).2 = false ∨ last k = -1 then growTo t far last c a k else
    if (growTo t far last c a k).1 = -1 ∨ last k + (trnF t (pS far k) (pS far a)).1 + c < (growTo t far last c a k).1 then (last k + (trnF t (pS far k) (pS far a)).1 + c, (k : Int)) else growTo t far last c a k
def cellT (t far : Int) (N : Nat) (last : Option (Nat → Int)) (c : Int) (a : Nat) : Int × Int := if c = -1 then (-1, -1) else
  match last with
  | none => (c, -1)
  | some l => growTo t far l c a N
/-- The trellis: height by height. -/
def tre (t far : Int) (N : Nat) (cst : Nat → Nat → Int) : Nat → Nat → Int × Int
  | 0, a => cellT t far N none (cst 0 a) a
  | n + 1, a => cellT t far N (some fun k => (tre t far N cst n k).1) (cst (n + 1) a) a
abbrev slE (N : Nat) : Nat → List Value := fun b => [.slice (some ⟨b, 0, none⟩) N N]
instance (N : Nat) : RowE (slE N) 1 := ⟨fun _ => rfl, by decide⟩
instance (N : Nat) : OneE (slE N) := ⟨fun a u hu => by simp [slE] at hu; subst hu; rfl⟩
instance (N b : Nat) : UnE (slE N) [.slice (some ⟨b, 0, none⟩) N N] b := ⟨rfl⟩
/-- A row of which the first so many are told. -/
def prt (g : Nat → Int) (N i : Nat) : List Int := tab g i ++ List.replicate (N - i) 0
theorem prt_len (g : Nat → Int) {N i : Nat} (h : i ≤ N) : (prt g N i).length = N := by
  unfold prt
  rw [List.length_append, tab_len, List.length_replicate]
  omega
theorem prt_zero (g : Nat → Int) (N : Nat) : prt g N 0 = List.replicate N 0 := rfl
theorem prt_all (g : Nat → Int) (N : Nat) : prt g N N = tab g N := by unfold prt; rw [Nat.sub_self]; simp
theorem prt_set (g : Nat → Int) {N i : Nat} (h : i < N) : (prt g N i).set i (g i) = prt g N (i + 1) := by
  unfold prt
  rw [List.set_append_right _ _ (by rw [tab_len]; exact Nat.le_refl _), tab_len, Nat.sub_self, tab, List.append_assoc]
  congr 1
  rw [show N - i = (N - (i + 1)) + 1 by omega, List.replicate_succ]
  rfl
/-- The rows of a trellis, the last ones first. -/
def rowsT (g : Nat → Nat → Int × Int) (N : Nat) : List (Nat × Nat) → List HE
  | [] => []
  | p :: r => .row (.slice (some ⟨p.1, 0, none⟩) N N) 2 1 N (ints .i64 (tab (fun a => (g r.length a).1) N)) :: .row (.slice (some ⟨p.2, 0, none⟩) N N) 3 1 N (ints .i64 (tab (fun a => (g r.length a).2) N)) :: rowsT g N r
instance (g : Nat → Nat → Int × Int) (N : Nat) (rs : List (Nat × Nat)) : SubC (rowsT g N rs) (rowsT g N rs) := ⟨Sub.refl _⟩
instance (priority := 50) (g : Nat → Nat → Int × Int) (N : Nat) (rs : List (Nat × Nat)) (y : HE) (R : List HE) [h : SubC (rowsT g N rs) R] : SubC (rowsT g N rs) (y :: R) := ⟨h.h.skip y⟩
theorem split_self : ∀ T : List HE, Split T T []
  | [] => .nil _
  | x :: T => .cons (.here _ _) (split_self T)
instance (g : Nat → Nat → Int × Int) (N : Nat) (rs : List (Nat × Nat)) : SplitC (rowsT g N rs) (rowsT g N rs) [] := ⟨split_self _⟩
instance (priority := 50) (g : Nat → Nat → Int × Int) (N : Nat) (rs : List (Nat × Nat)) (y : HE) (R R' : List HE) [h : SplitC R (rowsT g N rs) R'] : SplitC (y :: R) (rowsT g N rs) (y :: R') := ⟨split_push y h.h⟩
instance lit_pred (n : Nat) : LitI (((n + 1 : Nat) : Int) - 1) n := ⟨by omega⟩
instance (priority := 60) {P : Program} {w0 : World} {W : Nat → Prop} {H : List HE} (x y : Operand) (t e b q m c sz bs j r r' : Nat) (a : Int) (z : Value) (k : IntKind) [hu : Und P t (.slice e)] [hI : Inf P e sz bs z] [ha : LitI a j] [hm : NMul j sz r] [hr : NAdd q r r'] : MS P w0 W H (.indexAddr t x y) [.slice (some ⟨b, q, none⟩) m c, .int k a] (.pointer (some ⟨b, r', none⟩)) (j < m) := by
  have h0 : MS P w0 W H (.indexAddr t x y) [.slice (some ⟨b, q, none⟩) m c, .int k (j : Int)] (.pointer (some ⟨b, r', none⟩)) (j < m) := inferInstance
  rw [ha.h]
  exact h0
instance (priority := 60) {P : Program} {w0 : World} {W : Nat → Prop} {H : List HE} (x y : Operand) (t e b q m c sz bs j r r' : Nat) (a : Int) (z : Value) (k : IntKind) [hu : Und P t (.slice e)] [hI : Inf P e sz bs z] [ha : LitI a j] [hm : NMul j sz r] [hr : NAdd q r r'] : LV P w0 W H (.indexAddr t x y) [.slice (some ⟨b, q, none⟩) m c, .int k a] (.pointer (some ⟨b, r', none⟩)) (j < m) := by
  have h0 : LV P w0 W H (.indexAddr t x y) [.slice (some ⟨b, q, none⟩) m c, .int k (j : Int)] (.pointer (some ⟨b, r', none⟩)) (j < m) := inferInstance
  rw [ha.h]
  exact h0
theorem slE_last (N : Nat) (f : Nat × Nat → Nat) (p : Nat × Nat) (r : List (Nat × Nat)) : Elem (flat (slE N) ((p :: r).reverse.map f)) r.length (.slice (some ⟨f p, 0, none⟩) N N) True := ⟨fun _ => by
  rw [List.reverse_cons, List.map_append, flat_app, List.getElem?_append_right (by rw [flat_len, List.length_map, List.length_reverse, Nat.mul_one]; exact Nat.le_refl _), flat_len, List.length_map, List.length_reverse, Nat.mul_one, Nat.sub_self]
  rfl⟩
@[reducible] def trlE (s : Sch) (t : Int) (Ac : Option Addr) (cc : Nat) (Ab : Option Addr) (cb : Nat) (n : Nat) : List Value := [.int .i64 s.x, .int .i64 s.y, .int .i64 s.far, .int .i64 s.step, .int .i64 t, .slice Ac n cc, .slice Ab n cb]
/-- The memory of a trellis. -/
@[reducible] def TrH (tb : Nat) (s : Sch) (t : Int) (Ac : Option Addr) (cc : Nat) (Ab : Option Addr) (cb : Nat) (g : Nat → Nat → Int × Int) (N : Nat) (rs : List (Nat × Nat)) : List HE :=
  .blk tb 100 (trlE s t Ac cc Ab cb rs.length) :: .row (.slice Ac rs.length cc) 58 1 rs.length (flat (slE N) (rs.reverse.map (·.1))) :: .row (.slice Ab rs.length cb) 106 1 rs.length (flat (slE N) (rs.reverse.map (·.2))) :: rowsT g N rs
theorem pv_eqD (neg : Bool) (t u : TypeId) (x y : Operand) (a b c d : Int) (ht : t = 94) : PV Tryz.prog (.binOp (if neg then .neq else .eql) t x y u) [.agg #[.int .i64 a, .int .i64 b], .agg #[.int .i64 c, .int .i64 d]] (.bool (neg != (a == c && b == d))) True := ⟨by
  subst ht
  rintro _ ρ ⟨dst, op', ty, pos, aft, gd⟩ rfl h w
  obtain ⟨h1, h2⟩ := map2 h
  have hS : Tryz.prog.underlying 94 = some (.array 2 3) := by kernel_rfl
  have hE : Tryz.prog.underlying 3 = some (.int .i64) := by kernel_rfl
  obtain ⟨i, hi⟩ := info_of_underlying hE
  have hc : Tryz.prog.cellsOf 3 = 1 := by kernel_rfl
  have hm2 : Tryz.prog.eqGuardType Tryz.prog.depth 94 = false := by kernel_rfl
  have key : (Op.equalIn 10000 94 (.agg #[.int .i64 a, .int .i64 b]) (.agg #[.int .i64 c, .int .i64 d])).run Tryz.prog w = .ok (a == c && b == d) w := by
    rw [show (10000 : Nat) = 9999 + 1 from rfl, run_equalIn_array w 9999 _ _ hS hi, hc, show (9999 : Nat) = 9998 + 1 from rfl]
    have := eqItems_ints w 9998 (k := .i64) hE [a, b] [c, d] (List.range 2) (fun i hi => by have := List.mem_range.1 hi; simp; omega)
    rw [show (#[.int .i64 a, .int .i64 b] : Array Value) = (ints .i64 [a, b]).toArray from rfl, show (#[.int .i64 c, .int .i64 d] : Array Value) = (ints .i64 [c, d]).toArray from rfl, this]
    simp [List.range, List.range.loop]
  cases neg
  · simp only [Bool.false_eq_true, if_false, execOp, h1, h2, Sem.run_bind, run_eqGuard_agg w _ _ _ _ _ _ hm2, Result.andThen_ok]
    rw [run_eql_struct, key]
    simp
  · simp only [if_true, execOp, h1, h2, Sem.run_bind, run_eqGuard_agg w _ _ _ _ _ _ hm2, Result.andThen_ok]
    rw [run_neq_struct, key]
    simp⟩
instance eqD_pv (u : TypeId) (x y : Operand) (a b c d : Int) : PV Tryz.prog (.binOp .eql 94 x y u) [.agg #[.int .i64 a, .int .i64 b], .agg #[.int .i64 c, .int .i64 d]] (.bool (a == c && b == d)) True := by
  have hp := pv_eqD false 94 u x y a b c d rfl
  simp only [Bool.false_bne, Bool.false_eq_true, if_false] at hp
  exact hp
instance {w0 : World} {W : Nat → Prop} {H : List HE} (u : TypeId) (x y : Operand) (a b c d : Int) : MS Tryz.prog w0 W H (.binOp .eql 94 x y u) [.agg #[.int .i64 a, .int .i64 b], .agg #[.int .i64 c, .int .i64 d]] (.bool (a == c && b == d)) True := ⟨by
  intro _ F n N ds σ dd ty pos aft gd K Q _ hv hdN h
  exact o_val (by simp) rfl hdN (fun a w ha _ => pq_of (o := ⟨some dd, _, ty, pos, aft, gd⟩) hv trivial a.eval (fun x _ u hu => ha.eval hu) w) h⟩
attribute [local irreducible] OJ J HdJ Code.wpIn wpListIn Oper.wpIn bodyPost CallsIn Does
set_option maxRecDepth 4000
set_option maxHeartbeats 64000000 in
instance turned_cv (p1 p2 q1 q2 t : Int) : CV Tryz.prog 88 [.agg #[.int .i64 p1, .int .i64 p2], .agg #[.int .i64 q1, .int .i64 q2], .int .i64 t] (.tuple #[.int .i64 (trnF t (p1, p2) (q1, q2)).1, .bool (trnF t (p1, p2) (q1, q2)).2]) (((-32 ≤ p1 ∧ p1 ≤ 32) ∧ (-32 ≤ p2 ∧ p2 ≤ 32)) ∧ ((-32 ≤ q1 ∧ q1 ≤ 32) ∧ (-32 ≤ q2 ∧ q2 ≤ 32)) ∧ (0 ≤ t ∧ t ≤ 1048576)) := ⟨fun hc w => by
  have hx : 0 ≤ max (p1 - q1) (q1 - p1) ∧ max (p1 - q1) (q1 - p1) ≤ 64 := by omega
  have hy : 0 ≤ max (p2 - q2) (q2 - p2) ∧ max (p2 - q2) (q2 - p2) ≤ 64 := by omega
  have hm := mulB 128 1048576 (a := max (p1 - q1) (q1 - p1) + max (p2 - q2) (q2 - p2)) (b := t) (by omega) (by omega)
  have e0 : p1 = q1 ∧ p2 = q2 → (max (p1 - q1) (q1 - p1) + max (p2 - q2) (q2 - p2)) * t = 0 := fun ⟨h1, h2⟩ => by
    rw [show max (p1 - q1) (q1 - p1) + max (p2 - q2) (q2 - p2) = 0 by omega, Int.zero_mul]
  refine does_of Tryz.func88 rfl Tryz.ntmps88 rfl ⟨by simp, .nil⟩ (fun n => ?_)
  simp only [slots]
  unfold trnF absD
  dsimp only
  refine z_tas
  all_goals try (refine c_dv (0 :: 1 :: 2 :: 3 :: 4 :: 5 :: 6 :: 7 :: 8 :: 9 :: 10 :: 11 :: 12 :: 13 :: 14 :: 15 :: 16 :: 17 :: 18 :: 19 :: 20 :: 21 :: []) ?_; intro _)
  all_goals try (refine z_govG)
  · refine j_out2 rfl rfl rfl (.nil _) ⟨?_, rfl⟩
    rename_i h
    rw [e0 h, decide_eq_true (by omega)]
  all_goals exact j_out2 rfl rfl rfl (.nil _) ⟨congrArg (fun q => Value.tuple #[.int .i64 ((max (p1 - q1) (q1 - p1) + max (p2 - q2) (q2 - p2)) * t), .bool q]) (by rw [Bool.eq_iff_iff]; simp only [decide_eq_true_eq, Bool.false_eq_true, false_iff, true_iff]; omega), rfl⟩⟩
end Go.Proofs.YtemmnpgebpffbaaGreat
/- Grids, the plain part: what places are believed together, grids weighed. -/
namespace Go.Proofs.YtemmnpgebpffbaaGreat
open Go.RowKit
/-- A grid: columns and rows, where it lies, how far its places are apart, what each is believed. -/
structure Grd where
  w : Int
  h : Int
  x : Int
  y : Int
  st : Int
  p : List Int
/-- A grid as a value, whose places lie in a row. -/
@[reducible] def grE (g : Grd) (A : Option Addr) (c : Nat) : List Value := [.int .i64 g.w, .int .i64 g.h, .int .i64 g.x, .int .i64 g.y, .int .i64 g.st, .slice A g.p.length c]
@[reducible] def grN : List Value := [.int .i64 0, .int .i64 0, .int .i64 0, .int .i64 0, .int .i64 0, .slice none 0 0]
def sumL (l : List Int) : Nat → Int
  | 0 => 0
  | i + 1 => sumL l i + l.getD i 0
def Pos30 (l : List Int) : Prop := ∀ i, i < l.length → 0 ≤ l.getD i 0 ∧ l.getD i 0 ≤ 1073741824
theorem sumL_in {l : List Int} {B : Int} (h : ∀ i, i < l.length → 0 ≤ l.getD i 0 ∧ l.getD i 0 ≤ B) : ∀ n, n ≤ l.length → 0 ≤ sumL l n ∧ sumL l n ≤ B * (n : Int)
  | 0, _ => by simp [sumL]
  | n + 1, hn => by
    have ih := sumL_in h n (by omega)
    have h1 := h n (by omega)
    have e : B * ((n + 1 : Nat) : Int) = B * (n : Int) + B := by push_cast; rw [Int.mul_add, Int.mul_one]
    rw [sumL, e]
    omega
theorem sumL_ge {l : List Int} {B : Int} (h : ∀ i, i < l.length → 0 ≤ l.getD i 0 ∧ l.getD i 0 ≤ B) {i : Nat} : ∀ n, n ≤ l.length → i < n → l.getD i 0 ≤ sumL l n
  | n + 1, hn, hi => by
    have h0 := (sumL_in h n (by omega)).1
    have h1 := h n (by omega)
    rcases Nat.lt_or_ge i n with h2 | h2
    · have := sumL_ge h n (by omega) h2
      rw [sumL]
      omega
    · obtain rfl : i = n := by omega
      rw [sumL]
      omega
/-- What is believed of all places, weighed. -/
def wsTo (p l : List Int) : Nat → Int
  | 0 => 0
  | i + 1 => wsTo p l i + p.getD i 0 * l.getD i 0
def mostTo (l : List Int) : Nat → Int
  | 0 => 0
  | i + 1 => max (mostTo l i) (l.getD i 0)
def Wt (l : List Int) : Prop := ∀ i, i < l.length → 0 ≤ l.getD i 0 ∧ l.getD i 0 ≤ 65536
theorem mul_in {a b A B : Int} (ha : 0 ≤ a ∧ a ≤ A) (hb : 0 ≤ b ∧ b ≤ B) : 0 ≤ a * b ∧ a * b ≤ A * B :=
  ⟨Int.mul_nonneg ha.1 hb.1, Int.mul_le_mul ha.2 hb.2 hb.1 (by omega)⟩
theorem ws_in {p l : List Int} (hp : Pos30 p) (hl : Wt l) (he : l.length = p.length) : ∀ n, n ≤ p.length → 0 ≤ wsTo p l n ∧ wsTo p l n ≤ 70368744177664 * (n : Int)
  | 0, _ => by simp [wsTo]
  | n + 1, hn => by
    have ih := ws_in hp hl he n (by omega)
    have h1 := mul_in (hp n (by omega)) (hl n (by omega))
    rw [wsTo]
    push_cast
    omega
theorem ws_ge {p l : List Int} (hp : Pos30 p) (hl : Wt l) (he : l.length = p.length) {i : Nat} : ∀ n, n ≤ p.length → i < n → p.getD i 0 * l.getD i 0 ≤ wsTo p l n
  | n + 1, hn, hi => by
    have h0 := (ws_in hp hl he n (by omega)).1
    have h1 := mul_in (hp n (by omega)) (hl n (by omega))
    rw [wsTo]
    rcases Nat.lt_or_ge i n with h2 | h2
    · have := ws_ge hp hl he n (by omega) h2
      omega
    · obtain rfl : i = n := by omega
      omega
theorem most_in {l : List Int} (hl : Wt l) : ∀ n, n ≤ l.length → 0 ≤ mostTo l n ∧ mostTo l n ≤ 65536
  | 0, _ => by simp [mostTo]
  | n + 1, hn => by
    have ih := most_in hl n (by omega)
    have h1 := hl n (by omega)
    rw [mostTo]
    omega
/-- A grid's places, weighed, made whole. -/
def wgh (p l : List Int) (z : Int) (i : Nat) : Int := p.getD i 0 * l.getD i 0 * 1073741824 / z
def wghL (p l : List Int) : List Int := tab (wgh p l (wsTo p l p.length)) p.length
theorem wgh_in {p l : List Int} (hp : Pos30 p) (hl : Wt l) (he : l.length = p.length) (hz : 0 < wsTo p l p.length) {i : Nat} (hi : i < p.length) : 0 ≤ wgh p l (wsTo p l p.length) i ∧ wgh p l (wsTo p l p.length) i ≤ 1073741824 := by
  have h1 := mul_in (hp i hi) (hl i (by omega))
  have h2 := ws_ge hp hl he p.length (Nat.le_refl _) hi
  unfold wgh
  generalize p.getD i 0 * l.getD i 0 = a at *
  generalize wsTo p l p.length = z at *
  refine ⟨Int.ediv_nonneg (by omega) (by omega), ?_⟩
  have : a * 1073741824 ≤ 1073741824 * z := by omega
  exact Int.ediv_le_of_le_mul hz this
/-- All together are whole, but for what is rounded off. -/
theorem wgh_sum {p l : List Int} {z : Int} (hz : 0 < z) : ∀ n, sumL (tab (wgh p l z) n) n * z ≤ wsTo p l n * 1073741824 ∧ wsTo p l n * 1073741824 ≤ sumL (tab (wgh p l z) n) n * z + (z - 1) * n
  | 0 => by simp [sumL, wsTo]
  | n + 1 => by
    obtain ⟨i1, i2⟩ := wgh_sum (p := p) (l := l) hz n
    have e : ∀ m, m ≤ n → sumL (tab (wgh p l z) (n + 1)) m = sumL (tab (wgh p l z) n) m := by
      intro m
      induction m with
      | zero => intro _; rfl
      | succ m ih =>
        intro hm
        rw [sumL, sumL, ih (by omega), tab_get _ (by omega), tab_get _ (by omega)]
    rw [sumL, e n (Nat.le_refl _), tab_get _ (Nat.lt_succ_self n), wsTo]
    have h1 := Int.mul_ediv_add_emod (p.getD n 0 * l.getD n 0 * 1073741824) z
    have h2 := Int.emod_nonneg (p.getD n 0 * l.getD n 0 * 1073741824) (by omega : z ≠ 0)
    have h3 := Int.emod_lt_of_pos (p.getD n 0 * l.getD n 0 * 1073741824) hz
    have eq : wgh p l z n = p.getD n 0 * l.getD n 0 * 1073741824 / z := rfl
    rw [← eq] at h1
    generalize p.getD n 0 * l.getD n 0 * 1073741824 % z = r at *
    rw [Int.add_mul, Int.add_mul]
    have e2 : (z - 1) * ((n + 1 : Nat) : Int) = (z - 1) * (n : Int) + (z - 1) := by push_cast; rw [Int.mul_add, Int.mul_one]
    have e3 : z * wgh p l z n = wgh p l z n * z := Int.mul_comm _ _
    rw [e2]
    generalize (z - 1) * (n : Int) = a at *
    generalize sumL (tab (wgh p l z) n) n * z = b at *
    generalize wgh p l z n * z = c at *
    omega
end Go.Proofs.YtemmnpgebpffbaaGreat
/- The engine: steps whose value is told otherwise; ways out of a block that join. -/
namespace Go.Proofs.YtemmnpgebpffbaaGreat
open Go.RowKit
theorem msM {P : Program} {w0 : World} {W : Nat → Prop} {H : List HE} {op : Op} {vs : List Value} {v v' : Value} {c : Prop} (h : MS P w0 W H op vs v c) (hc : c) (e : v = v') : MS P w0 W H op vs v' True := by subst e; exact ⟨fun _ => h.h hc⟩
theorem msW {P : Program} {w0 : World} {W : Nat → Prop} {H : List HE} {op : Op} {vs : List Value} {v v' : Value} {c : Prop} (h : MW P w0 W H op vs v c) (hc : c) (e : v = v') : MS P w0 W H op vs v' True := by subst e; exact ⟨fun _ => h.h hc⟩
/-- The ways out of a block join: what holds behind it. -/
theorem c_joinL {F : Fence} {n : Nat} {P : Program} {N : Nat} {ds : List Deferred} {w0 : World} {W : Nat → Prop} {σ : List (Nat × Value)} {H : List HE} {K : Act → World → Prop} {Q : Exit → Act → World → Prop} {x : Code} {id : Nat} {X : Type} (R : X → Prop) (σI : X → List (Nat × Value)) (HI : X → List HE)
    (hx : J N ds w0 W σ H (x.wpIn F n P (Exit.inBlock id (Exit.then (fun a w => ∃ z, R z ∧ True ∧ Tm N ds (σI z) a ∧ St w0 W (HI z) w) Q)))) (hy : ∀ z, R z → J N ds w0 W (σI z) (HI z) K) : J N ds w0 W σ H (x.wpIn F n P (Exit.inBlock id (Exit.then K Q))) :=
  hx.mono fun a w h => wpIn_mono h (by
    rintro e a w h
    cases e with
    | normal => obtain ⟨z, h1, -, h2, h3⟩ := h; exact hy z h1 a w h2 h3
    | exit k =>
      by_cases hk : k = id
      · subst hk
        simp only [Exit.inBlock, if_pos] at h ⊢
        obtain ⟨z, h1, -, h2, h3⟩ := h
        exact hy z h1 a w h2 h3
      · simp only [Exit.inBlock, if_neg hk] at h ⊢
        exact h
    | _ => exact h)
section
variable {P : Program} {w0 : World} {W : Nat → Prop} {H : List HE}
instance (priority := 20) (t e bs : Nat) (k kl kc : IntKind) (x y : Operand) (a b : Int) (m : Nat) [ha : LitI a m] [hb : LitI b m] [Und P t (.slice e)] [Inf P e 1 bs (.int k 0)] : NS P w0 W H (.makeSlice t x y) [.int kl a, .int kc b] (fun b => .slice (some ⟨b, 0, none⟩) m m) (fun b => .row (.slice (some ⟨b, 0, none⟩) m m) e 1 m (ints k (List.replicate m 0)) :: H) (bs * m ≤ 281474976710656 ∧ m ≤ 4611686018427387904) := by
  rw [ha.h, hb.h]
  infer_instance
end
end Go.Proofs.YtemmnpgebpffbaaGreat
