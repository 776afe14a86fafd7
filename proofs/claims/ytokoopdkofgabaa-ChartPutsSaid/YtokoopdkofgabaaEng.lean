/- The engine: what a piece of code does, told by what some slots hold and what some blocks hold. -/
import Derived.Test.YtokoopdkofgabaaRows
import Derived.WalkKit
import Derived.TacticsIn
import Derived.TacticsInMore
import Derived.OrdersIn
import Derived.Below
import Derived.Deep.Draws
import Derived.Laws.AppendOwn
import Derived.Laws.OwnMore
import Derived.Laws.Rows
import Derived.Laws.Tables
import Derived.Laws.MakeOwn
import Derived.Maps.AppendAt
import Derived.OwnWalkIn
import Derived.Deep.LoopGhost
namespace Go.Proofs.Ytokoopdkofgabaa
open Go.RowKit

/-- What slot t holds, if the list says. -/
def look : List (Nat × Value) → Nat → Option Value
  | [], _ => none
  | (k, v) :: r, t => match Nat.beq k t with | true => some v | false => look r t

/-- The activation: its slots are as the list says; N slots; deferred calls ds. -/
structure Tm (N : Nat) (ds : List Deferred) (σ : List (Nat × Value)) (a : Act) : Prop where
  size : a.tmps.size = N
  defers : a.defers = ds
  at_ : ∀ t v, look σ t = some v → a.tmps[t]? = some v

theorem look_cons (k t : Nat) (v : Value) (σ : List (Nat × Value)) : look ((k, v) :: σ) t = if k = t then some v else look σ t := by
  simp only [look]
  by_cases h : k = t
  · subst h; simp
  · rw [if_neg h]
    have : Nat.beq k t = false := by
      cases hb : Nat.beq k t with
      | false => rfl
      | true => exact absurd (Nat.eq_of_beq_eq_true hb) h
    rw [this]

theorem Tm.put {N : Nat} {ds : List Deferred} {σ : List (Nat × Value)} {a : Act} (h : Tm N ds σ a) (d : Nat) (v : Value) (hd : d < N) : Tm N ds ((d, v) :: σ) (a.put (some d) v) := by
  refine ⟨by simp [Act.put, h.size], by simp [Act.put, h.defers], fun t u ht => ?_⟩
  rw [look_cons] at ht
  simp only [Act.put, Array.getElem?_setIfInBounds]
  by_cases hk : d = t
  · subst hk
    rw [if_pos rfl] at ht ⊢
    rw [if_pos (by rw [h.size]; exact hd)]
    exact ht
  · rw [if_neg hk] at ht ⊢
    exact h.at_ t u ht
theorem Tm.put_none {N : Nat} {ds : List Deferred} {σ : List (Nat × Value)} {a : Act} (h : Tm N ds σ a) (v : Value) : Tm N ds σ (a.put none v) := h

/-- Slots that hold what the one list says hold what a part of it says. -/
def Part : List (Nat × Value) → List (Nat × Value) → Prop
  | [], _ => True
  | (k, v) :: r, σ => look σ k = some v ∧ Part r σ
theorem Part.look_ {τ σ : List (Nat × Value)} (h : Part τ σ) (t : Nat) (v : Value) (ht : look τ t = some v) : look σ t = some v := by
  induction τ with
  | nil => simp [look] at ht
  | cons x r ih =>
    obtain ⟨k, u⟩ := x
    rw [look_cons] at ht
    by_cases hk : k = t
    · rw [if_pos hk] at ht; subst hk; obtain rfl := by simpa using ht
      exact h.1
    · rw [if_neg hk] at ht; exact ih h.2 ht
theorem Tm.part {N : Nat} {ds : List Deferred} {τ σ : List (Nat × Value)} {a : Act} (h : Tm N ds σ a) (hp : Part τ σ) : Tm N ds τ a :=
  ⟨h.size, h.defers, fun t v ht => h.at_ t v (hp.look_ t v ht)⟩

/-- What an operand is. -/
def ev (σ : List (Nat × Value)) : Operand → Option Value
  | .tmp t => look σ t
  | .const v => some v
  | .global g => some (.pointer (some ⟨g, 0, none⟩))
  | .func f => some (.func (.func f) #[] #[])
theorem Tm.eval {N : Nat} {ds : List Deferred} {σ : List (Nat × Value)} {a : Act} (h : Tm N ds σ a) {x : Operand} {v : Value} (hx : ev σ x = some v) : a.eval x = v := by
  cases x with
  | tmp t =>
    have := h.at_ t v hx
    simp [Act.eval, this]
  | const u => simpa [ev, Act.eval] using hx
  | global g => simpa [ev, Act.eval] using hx
  | func f => simpa [ev, Act.eval] using hx

/-- What lies in the heap: a block, whole; or a row that append may grow. -/
inductive HE where
  | blk (b : Nat) (t : TypeId) (cs : List Value)
  | row (v : Value) (e : TypeId) (size n : Nat) (xs : List Value)
  | obj (b : Nat) (o : Obj)
  | loop (b N : Nat) (σ : List (Nat × Value)) (ps : Array Tmp) (assign body : Code) (st : LoopState) (pend : Option Code)

def HE.block : HE → Option Nat
  | .blk b _ _ => some b
  | .row v _ _ _ _ => v.ownBlock
  | .obj b _ => some b
  | .loop b _ _ _ _ _ _ _ => some b
/-- A loop's record, by what its slots are known to hold. -/
def LoopIs (N : Nat) (σ : List (Nat × Value)) (ps : Array Tmp) (assign body : Code) (st : LoopState) (pend : Option Code) (r : Loop) : Prop :=
  r.state = st ∧ r.pending = pend ∧ r.params = ps ∧ r.assign = assign ∧ r.body = body ∧ r.tmps.size = N ∧ ∀ t v, look σ t = some v → r.tmps[t]? = some v
def HE.holds (w : World) : HE → Prop
  | .blk b t cs => w.heap[b]? = some (.cells cs.toArray t (0, 0))
  | .row v e size n xs => w.ownsRow 0 e size v n xs
  | .obj b o => w.heap[b]? = some o
  | .loop b N σ ps assign body st pend => ∃ r, w.heap[b]? = some (.loop r) ∧ LoopIs N σ ps assign body st pend r

def HE.apart (x y : HE) : Prop := x.block = none ∨ x.block ≠ y.block

/-- The heap: all of these, apart from each other. -/
structure Own (H : List HE) (w : World) : Prop where
  holds : ∀ x ∈ H, x.holds w
  apart : H.Pairwise HE.apart

/-- From w0 to w just blocks of W were written, and new ones; it holds what H says, in blocks of W and new ones. -/
structure St (w0 : World) (W : Nat → Prop) (H : List HE) (w : World) : Prop where
  os : w.os = w0.os
  tape : w.tape = w0.tape
  output : w.output = w0.output
  size : w0.heap.size ≤ w.heap.size
  old : ∀ b, b < w0.heap.size → ¬ W b → w.heap[b]? = w0.heap[b]?
  own : Own H w
  mine : ∀ x ∈ H, ∀ b, x.block = some b → W b ∨ w0.heap.size ≤ b

def blocks (H : List HE) (b : Nat) : Prop := ∃ x ∈ H, x.block = some b

theorem HE.apart_symm {x y : HE} (h : x.apart y) : y.apart x := by
  rcases h with h | h
  · by_cases hy : y.block = none
    · exact .inl hy
    · exact .inr (by rw [h]; exact hy)
  · exact .inr (Ne.symm h)

theorem HE.lt {x : HE} {w : World} (h : x.holds w) {b : Nat} (hb : x.block = some b) : b < w.heap.size := by
  have key : ∀ (g : Nat) (o : Obj), w.heap[g]? = some o → g < w.heap.size := fun g o hg => (Array.getElem?_eq_some_iff.1 hg).1
  cases x with
  | blk g t cs => simp only [HE.block, Option.some.injEq] at hb; subst hb; exact key _ _ h
  | row v e size n xs =>
    rcases h.2 with ⟨rfl, _⟩ | ⟨g, cap, cur, rfl, _, hg, _⟩
    · simp [HE.block, Value.ownBlock] at hb
    · simp only [HE.block, Value.ownBlock, Option.some.injEq] at hb; subst hb; exact key _ _ hg
  | obj g o => simp only [HE.block, Option.some.injEq] at hb; subst hb; exact key _ _ h
  | loop g N σ ps assign body st pend => simp only [HE.block, Option.some.injEq] at hb; subst hb; obtain ⟨r, hr, _⟩ := h; exact key _ _ hr

theorem HE.keep {x : HE} {w w' : World} (h : x.holds w) (hk : ∀ b, x.block = some b → w'.heap[b]? = w.heap[b]?) : x.holds w' := by
  cases x with
  | blk g t cs => exact (hk g rfl).trans h
  | row v e size n xs =>
    refine ⟨h.1, ?_⟩
    rcases h.2 with h0 | ⟨g, cap, cur, rfl, hb, hg, hr⟩
    · exact .inl h0
    · exact .inr ⟨g, cap, cur, rfl, hb, (hk g rfl).trans hg, hr⟩
  | obj g o => exact (hk g rfl).trans h
  | loop g N σ ps assign body st pend => obtain ⟨r, hr, h2⟩ := h; exact ⟨r, (hk g rfl).trans hr, h2⟩

theorem St.start {H : List HE} {w : World} (h : Own H w) : St w (blocks H) H w :=
  ⟨rfl, rfl, rfl, Nat.le_refl _, fun _ _ _ => rfl, h, fun x hx b hb => .inl ⟨x, hx, hb⟩⟩

/-- Taking one out of the list. -/
inductive Has : List HE → HE → List HE → Prop
  | here (x : HE) (r : List HE) : Has (x :: r) x r
  | there (y : HE) {r : List HE} {x : HE} {r' : List HE} (h : Has r x r') : Has (y :: r) x (y :: r')
theorem Has.perm {H : List HE} {x : HE} {R : List HE} (h : Has H x R) : H.Perm (x :: R) := by
  induction h with
  | here => exact .refl _
  | there y _ ih => exact ((ih.cons y).trans (.swap _ _ _))
/-- A part of the list. -/
inductive Sub : List HE → List HE → Prop
  | nil (H : List HE) : Sub [] H
  | cons {x : HE} {S H R : List HE} (h : Has H x R) (k : Sub S R) : Sub (x :: S) H
/-- A part of the list, and what is left. -/
inductive Split : List HE → List HE → List HE → Prop
  | nil (H : List HE) : Split H [] H
  | cons {x : HE} {S H R T : List HE} (h : Has H x R) (k : Split R S T) : Split H (x :: S) T
theorem Split.perm {H S R : List HE} (h : Split H S R) : H.Perm (S ++ R) := by
  induction h with
  | nil => exact .refl _
  | cons h _ ih => exact h.perm.trans (ih.cons _)
theorem Sub.split {S H : List HE} (h : Sub S H) : ∃ R, Split H S R := by
  induction h with
  | nil H => exact ⟨H, .nil H⟩
  | cons h _ ih => exact let ⟨R, hr⟩ := ih; ⟨R, .cons h hr⟩

theorem Sub.skip {S H : List HE} (h : Sub S H) (y : HE) : Sub S (y :: H) := by
  induction h generalizing y with
  | nil H => exact .nil _
  | cons h _ ih => exact .cons (.there y h) (ih y)
theorem Sub.refl (H : List HE) : Sub H H := by
  induction H with
  | nil => exact .nil _
  | cons x r ih => exact .cons (.here x r) ih
theorem Own.perm {H H' : List HE} {w : World} (h : Own H w) (hp : H.Perm H') : Own H' w :=
  ⟨fun x hx => h.holds x (hp.mem_iff.2 hx), (hp.pairwise_iff fun hxy => HE.apart_symm hxy).1 h.apart⟩
theorem St.perm {w0 w : World} {W : Nat → Prop} {H H' : List HE} (h : St w0 W H w) (hp : H.Perm H') : St w0 W H' w :=
  ⟨h.os, h.tape, h.output, h.size, h.old, h.own.perm hp, fun x hx => h.mine x (hp.mem_iff.2 hx)⟩
theorem St.left {w0 w : World} {W : Nat → Prop} {S R : List HE} (h : St w0 W (S ++ R) w) : St w0 W S w :=
  ⟨h.os, h.tape, h.output, h.size, h.old, ⟨fun x hx => h.own.holds x (List.mem_append_left _ hx), (List.pairwise_append.1 h.own.apart).1⟩, fun x hx => h.mine x (List.mem_append_left _ hx)⟩
theorem St.sub {w0 w : World} {W : Nat → Prop} {S H : List HE} (h : St w0 W H w) (hs : Sub S H) : St w0 W S w :=
  let ⟨_, hr⟩ := hs.split
  (h.perm hr.perm).left

/-- Behind a call that was given a part of the list. -/
theorem St.call {w0 w w' : World} {W : Nat → Prop} {H S R S' : List HE} (h : St w0 W H w) (hs : Split H S R) (k : St w (blocks S) S' w') : St w0 W (S' ++ R) w' := by
  have h1 := h.perm hs.perm
  have hdis : ∀ x ∈ R, ∀ b, x.block = some b → ¬ blocks S b := by
    rintro x hx b hb ⟨y, hy, hyb⟩
    have := (List.pairwise_append.1 h1.own.apart).2.2 y hy x hx
    rcases this with h0 | h0
    · rw [h0] at hyb; cases hyb
    · exact h0 (by rw [hyb, hb])
  have hlt : ∀ x ∈ R, ∀ b, x.block = some b → b < w.heap.size := fun x hx b hb => HE.lt (h1.own.holds x (List.mem_append_right _ hx)) hb
  refine ⟨k.os.trans h.os, k.tape.trans h.tape, k.output.trans h.output, Nat.le_trans h.size k.size, fun b hb hW => ?_, ⟨fun x hx => ?_, ?_⟩, fun x hx b hb => ?_⟩
  · by_cases hS : blocks S b
    · obtain ⟨y, hy, hyb⟩ := hS
      rcases h1.mine y (List.mem_append_left _ hy) b hyb with h0 | h0
      · exact absurd h0 hW
      · omega
    · exact (k.old b (Nat.lt_of_lt_of_le hb h.size) hS).trans (h.old b hb hW)
  · rcases List.mem_append.1 hx with hx | hx
    · exact k.own.holds x hx
    · exact HE.keep (h1.own.holds x (List.mem_append_right _ hx)) fun b hb => k.old b (hlt x hx b hb) (hdis x hx b hb)
  · refine List.pairwise_append.2 ⟨k.own.apart, (List.pairwise_append.1 h1.own.apart).2.1, fun x hx y hy => ?_⟩
    cases hxb : x.block with
    | none => exact .inl hxb
    | some b =>
      refine .inr fun he => ?_
      rw [hxb] at he
      rcases k.mine x hx b hxb with h0 | h0
      · exact hdis y hy b he.symm h0
      · have := hlt y hy b he.symm; omega
  · rcases List.mem_append.1 hx with hx | hx
    · rcases k.mine x hx b hb with ⟨y, hy, hyb⟩ | h0
      · exact h1.mine y (List.mem_append_left _ hy) b hyb
      · exact .inr (Nat.le_trans h.size h0)
    · exact h1.mine x (List.mem_append_right _ hx) b hb

theorem St.drew {w0 w : World} {W : Nat → Prop} {H : List HE} (h : St w0 W H w) : St w0 W H { w with drawn := w.drawn + 1 } :=
  ⟨h.os, h.tape, h.output, h.size, h.old, ⟨fun x hx => HE.keep (h.own.holds x hx) fun _ _ => rfl, h.own.apart⟩, h.mine⟩

/-- A new block. -/
theorem St.alloc {w0 w : World} {W : Nat → Prop} {H : List HE} (h : St w0 W H w) (cs : List Value) (t : TypeId) : St w0 W (.blk w.heap.size t cs :: H) (w.alloc (.cells cs.toArray t)) := by
  refine ⟨h.os, h.tape, h.output, Nat.le_trans h.size (by simp), fun b hb hW => (Below.heap_alloc w _ b (Nat.lt_of_lt_of_le hb h.size)).trans (h.old b hb hW), ⟨fun x hx => ?_, ?_⟩, fun x hx b hb => ?_⟩
  · rcases List.mem_cons.1 hx with rfl | hx
    · exact heap_alloc_new w _
    · exact HE.keep (h.own.holds x hx) fun b hb => Below.heap_alloc w _ b (HE.lt (h.own.holds x hx) hb)
  · refine List.pairwise_cons.2 ⟨fun y hy => .inr fun he => ?_, h.own.apart⟩
    have := HE.lt (h.own.holds y hy) he.symm
    simp at this
  · rcases List.mem_cons.1 hx with rfl | hx
    · simp only [HE.block, Option.some.injEq] at hb; subst hb; exact .inr h.size
    · exact h.mine x hx b hb

/-- What is known of one block turns, and no other block. -/
theorem St.turn {w0 w w' : World} {W : Nat → Prop} {H R : List HE} {x y : HE} (h : St w0 W H w) (hx : Has H x R) (hy : y.holds w')
    (hos : w'.os = w.os) (ht : w'.tape = w.tape) (ho : w'.output = w.output) (hsz : w.heap.size ≤ w'.heap.size)
    (hk : ∀ b, b < w.heap.size → x.block ≠ some b → w'.heap[b]? = w.heap[b]?) (hb : y.block = x.block ∨ ∃ b, y.block = some b ∧ w.heap.size ≤ b) : St w0 W (y :: R) w' := by
  have h1 := h.perm hx.perm
  have hap := List.pairwise_cons.1 h1.own.apart
  have hne : ∀ z ∈ R, ∀ b, z.block = some b → x.block ≠ some b := fun z hz b hzb he => by
    rcases hap.1 z hz with h0 | h0
    · rw [h0] at he; cases he
    · exact h0 (he.trans hzb.symm)
  have hlt : ∀ z ∈ R, ∀ b, z.block = some b → b < w.heap.size := fun z hz b hzb => HE.lt (h1.own.holds z (List.mem_cons_of_mem _ hz)) hzb
  refine ⟨hos.trans h.os, ht.trans h.tape, ho.trans h.output, Nat.le_trans h.size hsz, fun b hb hW => ?_, ⟨fun z hz => ?_, ?_⟩, fun z hz b hzb => ?_⟩
  · by_cases hxb : x.block = some b
    · rcases h1.mine x (List.mem_cons_self ..) b hxb with h0 | h0
      · exact absurd h0 hW
      · omega
    · exact (hk b (Nat.lt_of_lt_of_le hb h.size) hxb).trans (h.old b hb hW)
  · rcases List.mem_cons.1 hz with rfl | hz
    · exact hy
    · exact HE.keep (h1.own.holds z (List.mem_cons_of_mem _ hz)) fun b hzb => hk b (hlt z hz b hzb) (hne z hz b hzb)
  · refine List.pairwise_cons.2 ⟨fun z hz => ?_, hap.2⟩
    rcases hb with hb | ⟨b, hyb, hge⟩
    · rcases hap.1 z hz with h0 | h0
      · exact .inl (hb.trans h0)
      · exact .inr (by rw [hb]; exact h0)
    · refine .inr fun he => ?_
      have := hlt z hz b (he.symm.trans hyb)
      omega
  · rcases List.mem_cons.1 hz with rfl | hz
    · rcases hb with hb | ⟨b', hyb, hge⟩
      · exact h1.mine x (List.mem_cons_self ..) b (hb.symm.trans hzb)
      · rw [hyb] at hzb; injection hzb with hzb; subst hzb; exact .inr (Nat.le_trans h.size hge)
    · exact h1.mine z (List.mem_cons_of_mem _ hz) b hzb
end Go.Proofs.Ytokoopdkofgabaa
