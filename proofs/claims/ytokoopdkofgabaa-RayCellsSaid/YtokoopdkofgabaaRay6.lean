/- Package ray: a pyramid's memory, owned. -/
import Derived.Test.YtokoopdkofgabaaRay5
namespace Go.Proofs.Ytokoopdkofgabaa
open Go.RowKit
/-- A pyramid in memory. -/
def pyrH (p : Nat) (A : Option Addr) (c : Nat) (st : List Lv) (seen : Int) : List HE :=
  .blk p 153 [.slice A st.reverse.length c, .int .i64 seen] :: .row (.slice A st.reverse.length c) 148 3 st.reverse.length (flat lvE st.reverse) :: rowsR st
theorem has_of_mem {x : HE} : ∀ {H : List HE}, x ∈ H → ∃ R, Has H x R
  | y :: H, h => by
    rcases List.mem_cons.1 h with rfl | h
    · exact ⟨H, .here _ _⟩
    · obtain ⟨R, hR⟩ := has_of_mem h
      exact ⟨y :: R, .there y hR⟩
theorem mem_rowsR {st : List Lv} {n : Nat} (hn : n < st.reverse.length) : HE.row (.slice (st.reverse.getD n default).A (st.reverse.getD n default).cs.length (st.reverse.getD n default).c) 150 3 (st.reverse.getD n default).cs.length (flat celE (st.reverse.getD n default).cs) ∈ rowsR st := by
  unfold rowsR
  refine List.mem_map.2 ⟨st.reverse.getD n default, ?_, rfl⟩
  rw [List.getD_eq_getElem?_getD, List.getElem?_eq_getElem hn]
  exact List.mem_reverse.1 (List.getElem_mem ..)
theorem Split.push {H S R : List HE} (x : HE) (h : Split H S R) : Split (x :: H) S (x :: R) := by
  induction h with
  | nil H => exact .nil _
  | cons hh _ ih => exact .cons (.there x hh) ih
theorem Split.whole : ∀ T : List HE, Split T T []
  | [] => .nil _
  | x :: T => .cons (.here _ _) (Split.whole T)
/-- What lies at the end of the list. -/
theorem Split.pre (T : List HE) : ∀ l : List HE, Split (l ++ T) T l
  | [] => Split.whole T
  | x :: l => (Split.pre T l).push x
/-- What a call gives back goes to the end of the list again. -/
theorem j_swap {N : Nat} {ds : List Deferred} {w0 : World} {W : Nat → Prop} {σ : List (Nat × Value)} {S R : List HE} {q : Act → World → Prop} (h : J N ds w0 W σ (R ++ S) q) : J N ds w0 W σ (S ++ R) q := fun a w ha hw => h a w ha (hw.perm List.perm_append_comm)
theorem Does.frame {P : Program} {f : FuncId} {args : List Value} {x : HE} {R : List HE} {w : World} {Rl : Value → List HE → Prop} (h : Does P f args [x] w Rl) (ho : Own (x :: R) w) : Does P f args (x :: R) w (fun v S' => ∃ S1, S' = S1 ++ R ∧ Rl v S1) := fun n =>
  (h n).mono fun _ _ ⟨v, S1, e, hr, hst⟩ => ⟨v, S1 ++ R, e, ⟨S1, rfl, hr⟩, (St.start ho).call (.cons (.here _ _) (.nil _)) hst⟩
theorem own_one {x : HE} {R : List HE} {w : World} (ho : Own (x :: R) w) : Own [x] w := (St.start ho).sub_own (.cons (.here _ _) (.nil _))
section
variable {p : Nat} {A : Option Addr} {c : Nat} {st : List Lv} {seen : Int} {w : World}
theorem pyr_levels (ho : Own (pyrH p A c st seen) w) : RoA w (blocks [.blk p 153 [.slice A st.reverse.length c, .int .i64 seen]]) A st.reverse.length c 3 (flat lvE st.reverse) :=
  ⟨Ro.row (St.start ho) (.cons (.here _ _) (.nil _)) (.here _ _)⟩
theorem pyr_rows (ho : Own (pyrH p A c st seen) w) (n : Nat) (hn : n < st.reverse.length) : RoA w (blocks [.blk p 153 [.slice A st.reverse.length c, .int .i64 seen]]) (st.reverse.getD n default).A (st.reverse.getD n default).cs.length (st.reverse.getD n default).c 3 (flat celE (st.reverse.getD n default).cs) :=
  let ⟨_, hR⟩ := has_of_mem (List.mem_cons_of_mem _ (mem_rowsR hn))
  ⟨Ro.row (St.start ho) (.cons (.here _ _) (.nil _)) hR⟩
/-- Over, on a pyramid that is owned. -/
theorem overP (ho : Own (pyrH p A c st seen) w) (W H : Nat) (cs : List Cel) (hL : PyrL W H cs st.reverse) (b : Bx) :
    Does Try.prog 84 [.pointer (some ⟨p, 0, none⟩), .agg (bxE b).toArray] (pyrH p A c st seen) w
      (fun v S' => ∃ s2 : Int, v = .agg (celE (agg (bcB W H cs b) (sqL (st.reverse.length - 1) 0 0))).toArray ∧ S' = pyrH p A c st s2) := by
  have h := Does.frame (over_any p A c st.reverse seen b w (own_one ho) (pyr_levels ho) (pyr_rows ho) W H cs hL) ho
  refine h.mono ?_
  rintro v S' ⟨S1, rfl, s2, rfl, rfl⟩
  exact ⟨s2, rfl, rfl⟩
theorem sideP (ho : Own (pyrH p A c st seen) w) (W H : Nat) (cs : List Cel) (hL : PyrL W H cs st.reverse) :
    Does Try.prog 83 [.pointer (some ⟨p, 0, none⟩), .int .i64 0] (pyrH p A c st seen) w (fun v S' => v = .tuple #[.int .i64 W, .int .i64 H] ∧ S' = pyrH p A c st seen) := by
  have h := Does.frame (side_any p A c st.reverse seen W H w (own_one ho) (pyr_levels ho) hL.pos hL.base) ho
  refine h.mono ?_
  rintro v S' ⟨S1, rfl, rfl, rfl⟩
  exact ⟨rfl, rfl⟩
theorem onP (ho : Own (pyrH p A c st seen) w) (W H : Nat) (cs : List Cel) (hL : PyrL W H cs st.reverse) (x y : Int) :
    Does Try.prog 82 [.pointer (some ⟨p, 0, none⟩), .agg #[.int .i64 x, .int .i64 y]] (pyrH p A c st seen) w (fun v S' => v = .bool (onB W H x y) ∧ S' = pyrH p A c st seen) := by
  have h := Does.frame (on_any p A c st.reverse seen W H x y w (own_one ho) (pyr_levels ho) hL.pos hL.base (by have := hL.side 0 hL.pos; rw [hL.base.1, hL.base.2] at this; exact ⟨this.1, this.2.1⟩)) ho
  refine h.mono ?_
  rintro v S' ⟨S1, rfl, rfl, rfl⟩
  exact ⟨rfl, rfl⟩
end
end Go.Proofs.Ytokoopdkofgabaa
