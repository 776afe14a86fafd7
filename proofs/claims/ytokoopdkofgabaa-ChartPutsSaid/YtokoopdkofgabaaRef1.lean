/- The reference's layer 1: bits as bytes, and back; two rows of bytes held against each other. -/
import Derived.Test.YtokoopdkofgabaaEngX
import Derived.Test.YtokoopdkofgabaaBits3
namespace Go.Proofs.Ytokoopdkofgabaa
open Go.RowKit
/-- A byte's first k bits as a number. -/
def byteTo (l : List Bool) (j : Nat) : Nat → Nat
  | 0 => 0
  | k + 1 => 2 * byteTo l j k + bitN l (8 * j + k)
theorem byteTo_8 (l : List Bool) (j : Nat) : byteTo l j 8 = packAt l j := by simp only [byteTo, packAt, Nat.add_zero]; omega
theorem byteTo_lt (l : List Bool) (j k : Nat) (h : k ≤ 8) : byteTo l j k < 256 := by
  have : byteTo l j k < 2 ^ k := by
    clear h
    induction k with
    | zero => simp [byteTo]
    | succ k ih => have := bitN_le l (8 * j + k); simp only [byteTo, Nat.pow_succ]; omega
  have h2 : 2 ^ k ≤ 2 ^ 8 := Nat.pow_le_pow_right (by omega) h
  have h3 : 2 ^ 8 = 256 := rfl
  omega
theorem pack_take (l : List Bool) (j : Nat) (h : j < (l.length + 7) / 8) : (pack l).take (j + 1) = (pack l).take j ++ [(packAt l j : Int)] := by
  rw [List.take_succ_eq_append_getElem (by rw [pack_len]; exact h)]
  have := getElem?_pack l j
  rw [if_pos h, List.getElem?_eq_getElem (by rw [pack_len]; exact h)] at this
  injection this with this
  rw [this]
theorem pack_u8 (l : List Bool) : U8s (pack l) := by
  intro x hx
  unfold pack at hx
  obtain ⟨k, -, rfl⟩ := List.mem_map.1 hx
  have := packAt_lt l k
  omega
theorem and_bit : ∀ (x : Fin 256) (r : Fin 8), (bits .and .u8 ((x : Nat) : Int) (128 / 2 ^ (r : Nat)) != 0) = ((x : Nat) / 2 ^ (7 - (r : Nat)) % 2 == 1) := by decide +kernel
theorem packAt_bit (l : List Bool) (j r : Nat) (h : r < 8) : packAt l j / 2 ^ (7 - r) % 2 = bitN l (8 * j + r) := by
  have o := bitN_le l
  have h0 := o (8 * j); have h1 := o (8 * j + 1); have h2 := o (8 * j + 2); have h3 := o (8 * j + 3); have h4 := o (8 * j + 4); have h5 := o (8 * j + 5); have h6 := o (8 * j + 6); have h7 := o (8 * j + 7)
  unfold packAt
  obtain rfl | rfl | rfl | rfl | rfl | rfl | rfl | rfl : r = 0 ∨ r = 1 ∨ r = 2 ∨ r = 3 ∨ r = 4 ∨ r = 5 ∨ r = 6 ∨ r = 7 := by omega
  all_goals
    simp only [Nat.reduceSub, Nat.reducePow, Nat.add_zero]
    omega
theorem bitY_pack (l : List Bool) (i : Nat) (h : i < l.length) : bitY (pack l) i = l.getD i false := by
  have e : (pack l).getD (i / 8) 0 = (packAt l (i / 8) : Nat) := by
    rw [List.getD_eq_getElem?_getD, getElem?_pack, if_pos (by omega)]; rfl
  unfold bitY
  rw [e, and_bit ⟨packAt l (i / 8), packAt_lt _ _⟩ ⟨i % 8, by omega⟩]
  show (packAt l (i / 8) / 2 ^ (7 - i % 8) % 2 == 1) = _
  rw [packAt_bit l (i / 8) (i % 8) (by omega), show 8 * (i / 8) + i % 8 = i from by omega]
  unfold bitN
  cases l.getD i false <;> simp
theorem isAt_pack (a l b : List Bool) : isAt (pack (a ++ l ++ b)) a.length l := by
  refine ⟨?_, fun i hi => ?_⟩
  · rw [pack_len]; simp only [List.length_append]; omega
  · rw [bitY_pack _ _ (by simp only [List.length_append]; omega), List.append_assoc, getD_append_right (by omega), Nat.add_sub_cancel_left, getD_append_left hi]
theorem isAt_pack0 (l : List Bool) : isAt (pack l) 0 l := by
  have := isAt_pack [] l []
  simpa using this
/-- The bits of bytes. -/
def rowY (ys : List Int) : List Bool := (List.range (8 * ys.length)).map (bitY ys)
theorem rowY_len (ys : List Int) : (rowY ys).length = 8 * ys.length := by simp [rowY]
theorem rowY_get (ys : List Int) (i : Nat) (h : i < 8 * ys.length) : (rowY ys).getD i false = bitY ys i := by simp [rowY, List.getD_eq_getElem?_getD, h]
attribute [local irreducible] OJ J HdJ Code.wpIn wpListIn Oper.wpIn bodyPost CallsIn Does
set_option maxRecDepth 4000
set_option maxHeartbeats 4000000 in
theorem same_any (A B : Option Addr) (c d : Nat) (xs ys : List Int) (w : World) (hx : RoA w (blocks []) A xs.length c 1 (ints .u8 xs)) (hy : RoA w (blocks []) B ys.length d 1 (ints .u8 ys)) (h1 : U8s xs) (h2 : U8s ys) :
    Does Try.prog 49 [.slice A xs.length c, .slice B ys.length d] [] w (fun v S' => v = .bool (xs == ys) ∧ S' = []) := by
  refine does_of Try.func49 rfl Try.ntmps49 rfl ⟨by simp, .nil⟩ (fun n => ?_)
  simp only [slots]
  repeat (first | refine j_app ?_ | refine cc ?_ | ((first | refine lms rfl rfl rfl ?_ ?_ | refine lss rfl rfl ?_ ?_ | refine lns rfl rfl rfl ?_ ?_ | refine lap rfl rfl rfl rfl rfl ?_ rfl ?_); (next => first | exact trivial | omega); intros) | refine c_true rfl ?_ | refine c_false rfl ?_ | refine c_in_other rfl ?_ | refine l_nil ?_ | refine l_skip rfl rfl rfl ?_ | refine l_skip0 rfl rfl ?_ | refine lbd rfl rfl (by kernel_rfl) rfl ?_ | (refine lsl rfl rfl rfl rfl (by kernel_rfl) rfl rfl ?_; intros) | (refine lsl0 rfl rfl ?_; intros) | (refine lix rfl (by omega) ?_; rintro _ rfl) | (refine lixr rfl (by assumption) (by omega) ?_; rintro _ _ rfl _) | (refine c_drw rfl (by decide) (by decide +kernel) ?_; (repeat (first | (refine hms rfl rfl rfl ?_ ?_; (next => first | exact trivial | omega)) | refine h_skip rfl rfl rfl ?_ | (refine hmw rfl rfl rfl ?_ ?_; (next => first | exact trivial | omega)))); refine h_nil ?_) | (refine c_drp rfl (by decide) (by decide +kernel) ?_; (repeat (first | (refine p_run rfl rfl rfl ?_ ?_; (next => first | exact trivial | omega)) | refine p_skip rfl rfl rfl ?_)); refine p_nil ?_) | (refine lmw rfl rfl rfl ?_ ?_; (next => first | exact trivial | omega)))
  refine lms rfl rfl rfl ⟨h1, h2⟩ ?_
  repeat (first | refine j_app ?_ | refine cc ?_ | ((first | refine lms rfl rfl rfl ?_ ?_ | refine lss rfl rfl ?_ ?_ | refine lns rfl rfl rfl ?_ ?_ | refine lap rfl rfl rfl rfl rfl ?_ rfl ?_); (next => first | exact trivial | omega); intros) | refine c_true rfl ?_ | refine c_false rfl ?_ | refine c_in_other rfl ?_ | refine l_nil ?_ | refine l_skip rfl rfl rfl ?_ | refine l_skip0 rfl rfl ?_ | refine lbd rfl rfl (by kernel_rfl) rfl ?_ | (refine lsl rfl rfl rfl rfl (by kernel_rfl) rfl rfl ?_; intros) | (refine lsl0 rfl rfl ?_; intros) | (refine lix rfl (by omega) ?_; rintro _ rfl) | (refine lixr rfl (by assumption) (by omega) ?_; rintro _ _ rfl _) | (refine c_drw rfl (by decide) (by decide +kernel) ?_; (repeat (first | (refine hms rfl rfl rfl ?_ ?_; (next => first | exact trivial | omega)) | refine h_skip rfl rfl rfl ?_ | (refine hmw rfl rfl rfl ?_ ?_; (next => first | exact trivial | omega)))); refine h_nil ?_) | (refine c_drp rfl (by decide) (by decide +kernel) ?_; (repeat (first | (refine p_run rfl rfl rfl ?_ ?_; (next => first | exact trivial | omega)) | refine p_skip rfl rfl rfl ?_)); refine p_nil ?_) | (refine lmw rfl rfl rfl ?_ ?_; (next => first | exact trivial | omega)))
  exact j_out1 rfl rfl (.nil _) ⟨rfl, rfl⟩
set_option maxHeartbeats 8000000 in
theorem bytes1_any (A : Option Addr) (c : Nat) (l : List Bool) (w : World) (hr : RoA w (blocks []) A l.length c 1 (bls l)) (hm : l.length < 100000000) :
    Does Try.prog 125 [.slice A l.length c] [] w (fun v S' => ∃ A' c', v = .slice A' (pack l).length c' ∧ S' = [.row (.slice A' (pack l).length c') 5 1 (pack l).length (ints .u8 (pack l))]) := by
  have hpl := pack_len l
  refine does_of Try.func125 rfl Try.ntmps125 rfl ⟨by simp, .nil⟩ (fun n => ?_)
  simp only [slots]
  refine j_nil (e := 5) (size := 1) ?_
  repeat (first | refine j_app ?_ | refine cc ?_ | ((first | refine lms rfl rfl rfl ?_ ?_ | refine lss rfl rfl ?_ ?_ | refine lns rfl rfl rfl ?_ ?_ | refine lap rfl rfl rfl rfl rfl ?_ rfl ?_); (next => first | exact trivial | omega); intros) | refine c_true rfl ?_ | refine c_false rfl ?_ | refine c_in_other rfl ?_ | refine l_nil ?_ | refine l_skip rfl rfl rfl ?_ | refine l_skip0 rfl rfl ?_ | refine lbd rfl rfl (by kernel_rfl) rfl ?_ | (refine lsl rfl rfl rfl rfl (by kernel_rfl) rfl rfl ?_; intros) | (refine lsl0 rfl rfl ?_; intros) | (refine lix rfl (by omega) ?_; rintro _ rfl) | (refine lixr rfl (by assumption) (by omega) ?_; rintro _ _ rfl _) | (refine c_drw rfl (by decide) (by decide +kernel) ?_; (repeat (first | (refine hms rfl rfl rfl ?_ ?_; (next => first | exact trivial | omega)) | refine h_skip rfl rfl rfl ?_ | (refine hmw rfl rfl rfl ?_ ?_; (next => first | exact trivial | omega)))); refine h_nil ?_) | (refine c_drp rfl (by decide) (by decide +kernel) ?_; (repeat (first | (refine p_run rfl rfl rfl ?_ ?_; (next => first | exact trivial | omega)) | refine p_skip rfl rfl rfl ?_)); refine p_nil ?_) | (refine lmw rfl rfl rfl ?_ ?_; (next => first | exact trivial | omega)))
  refine c_loop (X := Nat × Option Addr × Nat) (fun y => y.1 ≤ (l.length + 7) / 8) (fun y => [(0, .slice A l.length c), (3, .slice y.2.1 ((pack l).take y.1).length y.2.2), (4, .int .i64 ((8 * y.1 : Nat) : Int))])
    (fun y => [.row (.slice y.2.1 ((pack l).take y.1).length y.2.2) 5 1 ((pack l).take y.1).length (ints .u8 ((pack l).take y.1))]) (fun y => (l.length + 7) / 8 - y.1) (0, none, 0) (by simp) ⟨rfl, rfl, rfl, trivial⟩ (Sub.refl _) ?_
  rintro ⟨j, A1, c1⟩ hj
  simp only at hj ⊢
  repeat (first | refine j_app ?_ | refine cc ?_ | ((first | refine lms rfl rfl rfl ?_ ?_ | refine lss rfl rfl ?_ ?_ | refine lns rfl rfl rfl ?_ ?_ | refine lap rfl rfl rfl rfl rfl ?_ rfl ?_); (next => first | exact trivial | omega); intros) | refine c_true rfl ?_ | refine c_false rfl ?_ | refine c_in_other rfl ?_ | refine l_nil ?_ | refine l_skip rfl rfl rfl ?_ | refine l_skip0 rfl rfl ?_ | refine lbd rfl rfl (by kernel_rfl) rfl ?_ | (refine lsl rfl rfl rfl rfl (by kernel_rfl) rfl rfl ?_; intros) | (refine lsl0 rfl rfl ?_; intros) | (refine lix rfl (by omega) ?_; rintro _ rfl) | (refine lixr rfl (by assumption) (by omega) ?_; rintro _ _ rfl _) | (refine c_drw rfl (by decide) (by decide +kernel) ?_; (repeat (first | (refine hms rfl rfl rfl ?_ ?_; (next => first | exact trivial | omega)) | refine h_skip rfl rfl rfl ?_ | (refine hmw rfl rfl rfl ?_ ?_; (next => first | exact trivial | omega)))); refine h_nil ?_) | (refine c_drp rfl (by decide) (by decide +kernel) ?_; (repeat (first | (refine p_run rfl rfl rfl ?_ ?_; (next => first | exact trivial | omega)) | refine p_skip rfl rfl rfl ?_)); refine p_nil ?_) | (refine lmw rfl rfl rfl ?_ ?_; (next => first | exact trivial | omega)))
  refine c_cond rfl (fun h => ?_) (fun h => ?_)
  · have hlt : j < (l.length + 7) / 8 := by have := of_decide_eq_true h; omega
    have hpt := pack_take l j hlt
    have hptl : ((pack l).take j).length = j := by rw [List.length_take]; omega
    repeat (first | refine j_app ?_ | refine cc ?_ | ((first | refine lms rfl rfl rfl ?_ ?_ | refine lss rfl rfl ?_ ?_ | refine lns rfl rfl rfl ?_ ?_ | refine lap rfl rfl rfl rfl rfl ?_ rfl ?_); (next => first | exact trivial | omega); intros) | refine c_true rfl ?_ | refine c_false rfl ?_ | refine c_in_other rfl ?_ | refine l_nil ?_ | refine l_skip rfl rfl rfl ?_ | refine l_skip0 rfl rfl ?_ | refine lbd rfl rfl (by kernel_rfl) rfl ?_ | (refine lsl rfl rfl rfl rfl (by kernel_rfl) rfl rfl ?_; intros) | (refine lsl0 rfl rfl ?_; intros) | (refine lix rfl (by omega) ?_; rintro _ rfl) | (refine lixr rfl (by assumption) (by omega) ?_; rintro _ _ rfl _) | (refine c_drw rfl (by decide) (by decide +kernel) ?_; (repeat (first | (refine hms rfl rfl rfl ?_ ?_; (next => first | exact trivial | omega)) | refine h_skip rfl rfl rfl ?_ | (refine hmw rfl rfl rfl ?_ ?_; (next => first | exact trivial | omega)))); refine h_nil ?_) | (refine c_drp rfl (by decide) (by decide +kernel) ?_; (repeat (first | (refine p_run rfl rfl rfl ?_ ?_; (next => first | exact trivial | omega)) | refine p_skip rfl rfl rfl ?_)); refine p_nil ?_) | (refine lmw rfl rfl rfl ?_ ?_; (next => first | exact trivial | omega)))
    refine c_loop (X := Nat) (fun k => k ≤ 8) (fun k => [(0, .slice A l.length c), (3, .slice A1 ((pack l).take j).length c1), (4, .int .i64 ((8 * j : Nat) : Int)), (5, .int .i64 (byteTo l j k)), (6, .int .i64 k)])
      (fun k => [.row (.slice A1 ((pack l).take j).length c1) 5 1 ((pack l).take j).length (ints .u8 ((pack l).take j))]) (fun k => 8 - k) 0 (by simp) ⟨rfl, rfl, rfl, rfl, rfl, trivial⟩ (Sub.refl _) ?_
    intro k hk
    have hbl := byteTo_lt l j k hk
    have hbs : byteTo l j (k + 1) = 2 * byteTo l j k + bitN l (8 * j + k) := rfl
    repeat (first | refine j_app ?_ | refine cc ?_ | ((first | refine lms rfl rfl rfl ?_ ?_ | refine lss rfl rfl ?_ ?_ | refine lns rfl rfl rfl ?_ ?_ | refine lap rfl rfl rfl rfl rfl ?_ rfl ?_); (next => first | exact trivial | omega); intros) | refine c_true rfl ?_ | refine c_false rfl ?_ | refine c_in_other rfl ?_ | refine l_nil ?_ | refine l_skip rfl rfl rfl ?_ | refine l_skip0 rfl rfl ?_ | refine lbd rfl rfl (by kernel_rfl) rfl ?_ | (refine lsl rfl rfl rfl rfl (by kernel_rfl) rfl rfl ?_; intros) | (refine lsl0 rfl rfl ?_; intros) | (refine lix rfl (by omega) ?_; rintro _ rfl) | (refine lixr rfl (by assumption) (by omega) ?_; rintro _ _ rfl _) | (refine c_drw rfl (by decide) (by decide +kernel) ?_; (repeat (first | (refine hms rfl rfl rfl ?_ ?_; (next => first | exact trivial | omega)) | refine h_skip rfl rfl rfl ?_ | (refine hmw rfl rfl rfl ?_ ?_; (next => first | exact trivial | omega)))); refine h_nil ?_) | (refine c_drp rfl (by decide) (by decide +kernel) ?_; (repeat (first | (refine p_run rfl rfl rfl ?_ ?_; (next => first | exact trivial | omega)) | refine p_skip rfl rfl rfl ?_)); refine p_nil ?_) | (refine lmw rfl rfl rfl ?_ ?_; (next => first | exact trivial | omega)))
    refine c_cond rfl (fun h2 => ?_) (fun h2 => ?_)
    · have hk8 : k < 8 := by have := of_decide_eq_true h2; omega
      repeat (first | refine j_app ?_ | refine cc ?_ | ((first | refine lms rfl rfl rfl ?_ ?_ | refine lss rfl rfl ?_ ?_ | refine lns rfl rfl rfl ?_ ?_ | refine lap rfl rfl rfl rfl rfl ?_ rfl ?_); (next => first | exact trivial | omega); intros) | refine c_true rfl ?_ | refine c_false rfl ?_ | refine c_in_other rfl ?_ | refine l_nil ?_ | refine l_skip rfl rfl rfl ?_ | refine l_skip0 rfl rfl ?_ | refine lbd rfl rfl (by kernel_rfl) rfl ?_ | (refine lsl rfl rfl rfl rfl (by kernel_rfl) rfl rfl ?_; intros) | (refine lsl0 rfl rfl ?_; intros) | (refine lix rfl (by omega) ?_; rintro _ rfl) | (refine lixr rfl (by assumption) (by omega) ?_; rintro _ _ rfl _) | (refine c_drw rfl (by decide) (by decide +kernel) ?_; (repeat (first | (refine hms rfl rfl rfl ?_ ?_; (next => first | exact trivial | omega)) | refine h_skip rfl rfl rfl ?_ | (refine hmw rfl rfl rfl ?_ ?_; (next => first | exact trivial | omega)))); refine h_nil ?_) | (refine c_drp rfl (by decide) (by decide +kernel) ?_; (repeat (first | (refine p_run rfl rfl rfl ?_ ?_; (next => first | exact trivial | omega)) | refine p_skip rfl rfl rfl ?_)); refine p_nil ?_) | (refine lmw rfl rfl rfl ?_ ?_; (next => first | exact trivial | omega)))
      have e0 : (((8 * j : Nat) : Int) + (k : Int)).toNat = 8 * j + k := by omega
      have hbN : bitN l (8 * j + k) = if l.getD (8 * j + k) false = true then 1 else 0 := rfl
      refine j_case 25 rfl (fun h3 => ?_) (fun h3 => ?_)
      · have hin : 8 * j + k < l.length := by have := of_decide_eq_true h3; omega
        repeat (first | refine j_app ?_ | refine cc ?_ | ((first | refine lms rfl rfl rfl ?_ ?_ | refine lss rfl rfl ?_ ?_ | refine lns rfl rfl rfl ?_ ?_ | refine lap rfl rfl rfl rfl rfl ?_ rfl ?_); (next => first | exact trivial | omega); intros) | refine c_true rfl ?_ | refine c_false rfl ?_ | refine c_in_other rfl ?_ | refine l_nil ?_ | refine l_skip rfl rfl rfl ?_ | refine l_skip0 rfl rfl ?_ | refine lbd rfl rfl (by kernel_rfl) rfl ?_ | (refine lsl rfl rfl rfl rfl (by kernel_rfl) rfl rfl ?_; intros) | (refine lsl0 rfl rfl ?_; intros) | (refine lix rfl (by omega) ?_; rintro _ rfl) | (refine lixr rfl (by assumption) (by omega) ?_; rintro _ _ rfl _) | (refine c_drw rfl (by decide) (by decide +kernel) ?_; (repeat (first | (refine hms rfl rfl rfl ?_ ?_; (next => first | exact trivial | omega)) | refine h_skip rfl rfl rfl ?_ | (refine hmw rfl rfl rfl ?_ ?_; (next => first | exact trivial | omega)))); refine h_nil ?_) | (refine c_drp rfl (by decide) (by decide +kernel) ?_; (repeat (first | (refine p_run rfl rfl rfl ?_ ?_; (next => first | exact trivial | omega)) | refine p_skip rfl rfl rfl ?_)); refine p_nil ?_) | (refine lmw rfl rfl rfl ?_ ?_; (next => first | exact trivial | omega)))
        rw [e0]
        refine c_cond rfl (fun h4 => ?_) (fun h4 => ?_)
        · rw [if_pos h4] at hbN
          repeat (first | refine j_app ?_ | refine cc ?_ | ((first | refine lms rfl rfl rfl ?_ ?_ | refine lss rfl rfl ?_ ?_ | refine lns rfl rfl rfl ?_ ?_ | refine lap rfl rfl rfl rfl rfl ?_ rfl ?_); (next => first | exact trivial | omega); intros) | refine c_true rfl ?_ | refine c_false rfl ?_ | refine c_in_other rfl ?_ | refine l_nil ?_ | refine l_skip rfl rfl rfl ?_ | refine l_skip0 rfl rfl ?_ | refine lbd rfl rfl (by kernel_rfl) rfl ?_ | (refine lsl rfl rfl rfl rfl (by kernel_rfl) rfl rfl ?_; intros) | (refine lsl0 rfl rfl ?_; intros) | (refine lix rfl (by omega) ?_; rintro _ rfl) | (refine lixr rfl (by assumption) (by omega) ?_; rintro _ _ rfl _) | (refine c_drw rfl (by decide) (by decide +kernel) ?_; (repeat (first | (refine hms rfl rfl rfl ?_ ?_; (next => first | exact trivial | omega)) | refine h_skip rfl rfl rfl ?_ | (refine hmw rfl rfl rfl ?_ ?_; (next => first | exact trivial | omega)))); refine h_nil ?_) | (refine c_drp rfl (by decide) (by decide +kernel) ?_; (repeat (first | (refine p_run rfl rfl rfl ?_ ?_; (next => first | exact trivial | omega)) | refine p_skip rfl rfl rfl ?_)); refine p_nil ?_) | (refine lmw rfl rfl rfl ?_ ?_; (next => first | exact trivial | omega)))
          exact c_round (k + 1) (by show k + 1 ≤ 8; omega) (by show 8 - (k + 1) < 8 - k; omega) ⟨rfl, rfl, rfl, by rw [hbs, hbN]; simp [look], by simp [look], trivial⟩ (Sub.refl _)
        · rw [if_neg (by rw [h4]; exact Bool.false_ne_true)] at hbN
          repeat (first | refine j_app ?_ | refine cc ?_ | ((first | refine lms rfl rfl rfl ?_ ?_ | refine lss rfl rfl ?_ ?_ | refine lns rfl rfl rfl ?_ ?_ | refine lap rfl rfl rfl rfl rfl ?_ rfl ?_); (next => first | exact trivial | omega); intros) | refine c_true rfl ?_ | refine c_false rfl ?_ | refine c_in_other rfl ?_ | refine l_nil ?_ | refine l_skip rfl rfl rfl ?_ | refine l_skip0 rfl rfl ?_ | refine lbd rfl rfl (by kernel_rfl) rfl ?_ | (refine lsl rfl rfl rfl rfl (by kernel_rfl) rfl rfl ?_; intros) | (refine lsl0 rfl rfl ?_; intros) | (refine lix rfl (by omega) ?_; rintro _ rfl) | (refine lixr rfl (by assumption) (by omega) ?_; rintro _ _ rfl _) | (refine c_drw rfl (by decide) (by decide +kernel) ?_; (repeat (first | (refine hms rfl rfl rfl ?_ ?_; (next => first | exact trivial | omega)) | refine h_skip rfl rfl rfl ?_ | (refine hmw rfl rfl rfl ?_ ?_; (next => first | exact trivial | omega)))); refine h_nil ?_) | (refine c_drp rfl (by decide) (by decide +kernel) ?_; (repeat (first | (refine p_run rfl rfl rfl ?_ ?_; (next => first | exact trivial | omega)) | refine p_skip rfl rfl rfl ?_)); refine p_nil ?_) | (refine lmw rfl rfl rfl ?_ ?_; (next => first | exact trivial | omega)))
          exact c_round (k + 1) (by show k + 1 ≤ 8; omega) (by show 8 - (k + 1) < 8 - k; omega) ⟨rfl, rfl, rfl, by rw [hbs, hbN]; simp [look], by simp [look], trivial⟩ (Sub.refl _)
      · have hin : l.length ≤ 8 * j + k := by have := of_decide_eq_false h3; omega
        have hb0 := bitN_out l (8 * j + k) hin
        repeat (first | refine j_app ?_ | refine cc ?_ | ((first | refine lms rfl rfl rfl ?_ ?_ | refine lss rfl rfl ?_ ?_ | refine lns rfl rfl rfl ?_ ?_ | refine lap rfl rfl rfl rfl rfl ?_ rfl ?_); (next => first | exact trivial | omega); intros) | refine c_true rfl ?_ | refine c_false rfl ?_ | refine c_in_other rfl ?_ | refine l_nil ?_ | refine l_skip rfl rfl rfl ?_ | refine l_skip0 rfl rfl ?_ | refine lbd rfl rfl (by kernel_rfl) rfl ?_ | (refine lsl rfl rfl rfl rfl (by kernel_rfl) rfl rfl ?_; intros) | (refine lsl0 rfl rfl ?_; intros) | (refine lix rfl (by omega) ?_; rintro _ rfl) | (refine lixr rfl (by assumption) (by omega) ?_; rintro _ _ rfl _) | (refine c_drw rfl (by decide) (by decide +kernel) ?_; (repeat (first | (refine hms rfl rfl rfl ?_ ?_; (next => first | exact trivial | omega)) | refine h_skip rfl rfl rfl ?_ | (refine hmw rfl rfl rfl ?_ ?_; (next => first | exact trivial | omega)))); refine h_nil ?_) | (refine c_drp rfl (by decide) (by decide +kernel) ?_; (repeat (first | (refine p_run rfl rfl rfl ?_ ?_; (next => first | exact trivial | omega)) | refine p_skip rfl rfl rfl ?_)); refine p_nil ?_) | (refine lmw rfl rfl rfl ?_ ?_; (next => first | exact trivial | omega)))
        exact c_round (k + 1) (by show k + 1 ≤ 8; omega) (by show 8 - (k + 1) < 8 - k; omega) ⟨rfl, rfl, rfl, by rw [hbs, hb0]; simp [look], by simp [look], trivial⟩ (Sub.refl _)
    · obtain rfl : k = 8 := by have := of_decide_eq_false h2; omega
      rw [byteTo_8] at hbl
      rw [byteTo_8]
      repeat (first | refine j_app ?_ | refine cc ?_ | ((first | refine lms rfl rfl rfl ?_ ?_ | refine lss rfl rfl ?_ ?_ | refine lns rfl rfl rfl ?_ ?_ | refine lap rfl rfl rfl rfl rfl ?_ rfl ?_); (next => first | exact trivial | omega); intros) | refine c_true rfl ?_ | refine c_false rfl ?_ | refine c_in_other rfl ?_ | refine l_nil ?_ | refine l_skip rfl rfl rfl ?_ | refine l_skip0 rfl rfl ?_ | refine lbd rfl rfl (by kernel_rfl) rfl ?_ | (refine lsl rfl rfl rfl rfl (by kernel_rfl) rfl rfl ?_; intros) | (refine lsl0 rfl rfl ?_; intros) | (refine lix rfl (by omega) ?_; rintro _ rfl) | (refine lixr rfl (by assumption) (by omega) ?_; rintro _ _ rfl _) | (refine c_drw rfl (by decide) (by decide +kernel) ?_; (repeat (first | (refine hms rfl rfl rfl ?_ ?_; (next => first | exact trivial | omega)) | refine h_skip rfl rfl rfl ?_ | (refine hmw rfl rfl rfl ?_ ?_; (next => first | exact trivial | omega)))); refine h_nil ?_) | (refine c_drp rfl (by decide) (by decide +kernel) ?_; (repeat (first | (refine p_run rfl rfl rfl ?_ ?_; (next => first | exact trivial | omega)) | refine p_skip rfl rfl rfl ?_)); refine p_nil ?_) | (refine lmw rfl rfl rfl ?_ ?_; (next => first | exact trivial | omega)))
      rename_i A2 c2
      exact c_round (j + 1, A2, c2) (by show j + 1 ≤ _; omega) (by show _ - (j + 1) < _ - j; omega) ⟨rfl, by simp only [hpt]; rfl, by simp [look]; omega, trivial⟩ (by simp only [hpt]; exact Sub.au)
  · have hge : (l.length + 7) / 8 ≤ j := by have := of_decide_eq_false h; omega
    obtain rfl : j = (l.length + 7) / 8 := by omega
    repeat (first | refine j_app ?_ | refine cc ?_ | ((first | refine lms rfl rfl rfl ?_ ?_ | refine lss rfl rfl ?_ ?_ | refine lns rfl rfl rfl ?_ ?_ | refine lap rfl rfl rfl rfl rfl ?_ rfl ?_); (next => first | exact trivial | omega); intros) | refine c_true rfl ?_ | refine c_false rfl ?_ | refine c_in_other rfl ?_ | refine l_nil ?_ | refine l_skip rfl rfl rfl ?_ | refine l_skip0 rfl rfl ?_ | refine lbd rfl rfl (by kernel_rfl) rfl ?_ | (refine lsl rfl rfl rfl rfl (by kernel_rfl) rfl rfl ?_; intros) | (refine lsl0 rfl rfl ?_; intros) | (refine lix rfl (by omega) ?_; rintro _ rfl) | (refine lixr rfl (by assumption) (by omega) ?_; rintro _ _ rfl _) | (refine c_drw rfl (by decide) (by decide +kernel) ?_; (repeat (first | (refine hms rfl rfl rfl ?_ ?_; (next => first | exact trivial | omega)) | refine h_skip rfl rfl rfl ?_ | (refine hmw rfl rfl rfl ?_ ?_; (next => first | exact trivial | omega)))); refine h_nil ?_) | (refine c_drp rfl (by decide) (by decide +kernel) ?_; (repeat (first | (refine p_run rfl rfl rfl ?_ ?_; (next => first | exact trivial | omega)) | refine p_skip rfl rfl rfl ?_)); refine p_nil ?_) | (refine lmw rfl rfl rfl ?_ ?_; (next => first | exact trivial | omega)))
    rw [List.take_of_length_le (by omega)]
    exact j_out1 rfl rfl (Sub.refl _) ⟨_, _, rfl, rfl⟩
end Go.Proofs.Ytokoopdkofgabaa
