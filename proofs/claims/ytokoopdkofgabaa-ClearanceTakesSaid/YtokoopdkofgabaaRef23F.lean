/- Walks of the reference of layer 23: Take, what is no frame in order. -/
import Derived.Test.YtokoopdkofgabaaRef23E
import Derived.Test.YtokoopdkofgabaaApp
namespace Go.Proofs.Ytokoopdkofgabaa
open Go.RowKit

theorem results_row_tmp3 {P : Program} {fn : Func} {p u v x : Tmp} {ty : TypeId} (h : fn.results = #[.cell p ty, .tmp u, .tmp v, .tmp x]) (tmps : Array Value) (w : World) (g : Nat) (t : TypeId) (cs : Array Value) (fr : Nat × Nat) (d : TypeDesc)
    (hp : tmps.getD p undef = .pointer (some ⟨g, 0, none⟩)) (hg : w.heap[g]? = some (.cells cs t fr))
    (hu : P.underlying ty = some d) (hd : (match d with | .struct _ | .array _ _ => true | _ => false) = true) (hi : (P.info? ty).map (·.size) = some cs.size) :
    (results fn tmps).run P w = .ok (.tuple #[.agg cs, tmps.getD u undef, tmps.getD v undef, tmps.getD x undef]) w := by
  have e : (results fn tmps).run P w = ((asAddr (tmps.getD p undef)).run P w).andThen fun a w₁ => ((loadVar ty a).run P w₁).andThen fun r w₂ => .ok (.tuple #[r, tmps.getD u undef, tmps.getD v undef, tmps.getD x undef]) w₂ := by
    simp only [results, h]
    simp [Sem.run_bind, Result.andThen]
  rw [e, hp]
  simp only [asAddr, Sem.run_pure, Result.andThen_ok, run_loadVar_row w g t ty cs fr d hg hu hd hi]

structure Q23 where
  l : List Fr
  ws : List Int
  zs : List Int

/-- What the reference's Take leaves: the line behind the frame, what became of it, the ground, and is there one. -/
def Took23 (w : World) (r : Q23 × Int × Int × Bool) (e : Ending) (w' : World) : Prop :=
  ∃ v', e = .returned (.tuple #[v', .int .i64 r.2.1, .int .i64 r.2.2.1, .bool r.2.2.2]) ∧ Lists w' w'.heap.size v' r.1.l r.1.ws r.1.zs ∧ Below w.heap.size w w'

theorem Lists.below {w w' : World} {B : Nat} {v : Value} {l : List Fr} {ws zs : List Int} (h : Lists w B v l ws zs) (hb : Below B w w') : Lists w' B v l ws zs := by
  obtain ⟨⟨a, b, c, he, h1, h2, h3⟩, h4, h5⟩ := h
  exact ⟨⟨a, b, c, he, h1.below hb, h2.below hb, h3.below hb⟩, h4, h5⟩
theorem Lists.more {w : World} {B B' : Nat} {v : Value} {l : List Fr} {ws zs : List Int} (h : Lists w B v l ws zs) (hB : B ≤ B') : Lists w B' v l ws zs := by
  obtain ⟨⟨a, b, c, he, h1, h2, h3⟩, h4, h5⟩ := h
  exact ⟨⟨a, b, c, he, h1.more hB, h2.more hB, h3.more hB⟩, h4, h5⟩

theorem line_info : (Try.prog.info? 39).map (·.size) = some 3 := by kernel_rfl

/-- The three slices of a line are one cell each. -/
theorem Lists.one {w : World} {B : Nat} {v : Value} {l : List Fr} {ws zs : List Int} (h : Lists w B v l ws zs) : ∃ vL vW vZ, v = .agg #[vL, vW, vZ] ∧ (#[vL, vW, vZ] : Array Value).all (·.oneCell') = true := by
  obtain ⟨⟨a, b, c, he, ⟨_, _, rfl, _⟩, ⟨_, _, rfl, _⟩, ⟨_, _, rfl, _⟩⟩, _, _⟩ := h
  exact ⟨_, _, _, he, by simp [Value.oneCell']⟩

set_option maxHeartbeats 400000 in
theorem rtake_a (age jump throw most : Int) (v : Value) (l : List Fr) (ws zs : List Int) (kind seq time a b c : Int) (w : World) (HL : Lists w w.heap.size v l ws zs) (c1 : kind < 1 ∨ 5 < kind) :
    Calls Try.prog 21 #[rul age jump throw most, v, frm kind seq time a b c] w (Took23 w (⟨l, ws, zs⟩, 2, 0, false)) := by
  have HLL := Lib.hid HL
  obtain ⟨vL, vW, vZ, rfl, ho⟩ := HL.one
  have HO := Lib.hid ho
  clear HL ho
  unfold rul frm
  go_enter Try.func21, Try.ntmps21
  rcases c1 with c1 | c1
  all_goals
    go_wp2_with (refine wpList_store_row rfl 39 _ _ rfl (w.heap.size + 3) #[vL, vW, vZ] rfl rfl 39 _ (heap_alloc_at _ (by simp)) line_info rfl HO.out ?_)
    refine bodyPost_ret (results_row_tmp3 rfl _ _ (w.heap.size + 3) 39 _ (0, 0) _ rfl (setRow_heap (heap_alloc_at _ (by simp)) _) Try.underlying39 rfl line_info) rfl ?_
    have hB := below_setRow (cs := #[vL, vW, vZ]) (g := w.heap.size + 3) (((((Below.refl w.heap.size w).alloc (Nat.le_refl _) (.cells #[.int .u32 age, .int .i64 jump, .int .i64 throw, .int .i64 most] 24)).alloc (by simp) (.cells #[vL, vW, vZ] 39)).alloc (by simp only [World.size_alloc]; omega) (.cells #[.int .i64 kind, .int .u16 seq, .int .u32 time, .int .i32 a, .int .i32 b, .int .i32 c] 43)).alloc (by simp only [World.size_alloc]; omega) (.cells #[.slice none 0 0, .slice none 0 0, .slice none 0 0] 39)) (by omega)
    exact ⟨_, rfl, (HLL.out.below hB).more hB.size, hB⟩

set_option maxHeartbeats 400000 in
theorem rtake_b (age jump throw most : Int) (v : Value) (l : List Fr) (ws zs : List Int) (f : Fr) (w : World) (HL : Lists w w.heap.size v l ws zs) (hok : ∀ f ∈ l, f.ok) (hf : f.ok) (c1 : 1 ≤ f.kind) (c2 : f.kind ≤ 5) (c3 : lateOf l f.seq f.time = true) :
    Calls Try.prog 21 #[rul age jump throw most, v, frm f.kind f.seq f.time f.a f.b f.c] w (Took23 w (⟨l, ws, zs⟩, 1, 0, false)) := by
  have HLL := Lib.hid HL
  obtain ⟨vL, vW, vZ, rfl, ho⟩ := HL.one
  have HO := Lib.hid ho
  have HF := Lib.hid hf
  have HOK := Lib.hid hok
  have C3 := Lib.hid c3
  clear HL ho hf hok c3
  obtain ⟨kind, seq, time, a, b, c⟩ := f
  simp only at c1 c2 C3 ⊢
  unfold rul frm
  go_enter Try.func21, Try.ntmps21
  go_wp2_with fail
  have hB0 := (((((Below.refl w.heap.size w).alloc (Nat.le_refl _) (.cells #[.int .u32 age, .int .i64 jump, .int .i64 throw, .int .i64 most] 24)).alloc (by simp) (.cells #[vL, vW, vZ] 39)).alloc (by simp only [World.size_alloc]; omega) (.cells #[.int .i64 kind, .int .u16 seq, .int .u32 time, .int .i32 a, .int .i32 b, .int .i32 c] 43)).alloc (by simp only [World.size_alloc]; omega) (.cells #[.slice none 0 0, .slice none 0 0, .slice none 0 0] 39))
  refine (late_any _ l ws zs ⟨kind, seq, time, a, b, c⟩ _ ((HLL.out.below hB0).more hB0.size) HOK.out HF.out).mono ?_
  rintro e w1 ⟨rfl, hb1⟩
  rw [C3.out]
  have hh : w1.heap[w.heap.size + 3]? = some (.cells #[.slice none 0 0, .slice none 0 0, .slice none 0 0] 39 (0, 0)) := (hb1.block _ (by simp only [World.size_alloc]; omega)).trans (heap_alloc_at _ (by simp))
  obtain ⟨k1, k2⟩ := bcell hb1
  have l0 : w1.cell? ⟨w.heap.size + 1, 0, none⟩ = some vL := (k1 _ _ (by simp only [World.size_alloc]; omega)).trans (by go_simp)
  have l1 : w1.cell? ⟨w.heap.size + 1, 1, none⟩ = some vW := (k1 _ _ (by simp only [World.size_alloc]; omega)).trans (by go_simp)
  have l2 : w1.cell? ⟨w.heap.size + 1, 2, none⟩ = some vZ := (k1 _ _ (by simp only [World.size_alloc]; omega)).trans (by go_simp)
  have HH := Lib.hid hh
  have HB := Lib.hid (hB0.trans (hb1.mono hB0.size))
  clear hb1 hB0 hh k1 k2
  go_wp2_with (refine wpList_store_row rfl 39 _ _ rfl (w.heap.size + 3) #[vL, vW, vZ] rfl rfl 39 _ HH.out line_info rfl HO.out ?_)
  refine bodyPost_ret (results_row_tmp3 rfl _ _ (w.heap.size + 3) 39 _ (0, 0) _ rfl (setRow_heap HH.out _) Try.underlying39 rfl line_info) rfl ?_
  have hB := below_setRow (cs := #[vL, vW, vZ]) (g := w.heap.size + 3) HB.out (by omega)
  exact ⟨_, rfl, (HLL.out.below hB).more hB.size, hB⟩
end Go.Proofs.Ytokoopdkofgabaa
