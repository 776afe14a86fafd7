/- WHAT COMES TWICE COUNTS ONCE: for every rules and every frames the law ClearanceTwice of the given program returns true, and leaves its arguments as they were. No condition. -/
import Derived.Test.YtgingkckdmdloaaFrame
namespace Go.Proofs.Ytgingkckdmdloaa
open Go.ChangeShapes Go.WideShapes Go.ChangeAt Go.RowKit Go.Deep Go.Joins

theorem own : ownKnob Try.prog.godebug = none := by kernel_rfl
theorem laidOut : laidOutB Try.prog = true := by kernel_rfl
theorem cellsR : Try.prog.cellsOf 24 = 4 := by kernel_rfl
theorem cellsFr : Try.prog.cellsOf 43 = 6 := by kernel_rfl

theorem list_of {P : Nat → Fr → Prop} {n : Nat} (h : ∀ i, i < n → ∃ f, P i f) : ∃ l : List Fr, l.length = n ∧ ∀ i f, l[i]? = some f → P i f := by
  induction n with
  | zero => exact ⟨[], rfl, by simp⟩
  | succ n ih =>
    obtain ⟨l, hl, hp⟩ := ih (fun i hi => h i (by omega))
    obtain ⟨f, hf⟩ := h n (by omega)
    refine ⟨l ++ [f], by simp [hl], fun i g hg => ?_⟩
    by_cases hi : i < l.length
    · rw [List.getElem?_append_left hi] at hg; exact hp i g hg
    · have hb : i < (l ++ [f]).length := (List.getElem?_eq_some_iff.1 hg).1
      have : i = l.length := by simp at hb; omega
      subst this
      simp at hg; subst hg; rw [hl]; exact hf

theorem encs_cell {l : List Fr} {j : Nat} {u : Value} (h : (encs l)[j]? = some u) : ∃ i k f, l[i]? = some f ∧ k < 6 ∧ j = i * 6 + k ∧ f.enc[k]? = some u := by
  have hj : j < l.length * 6 := by rw [← encs_len]; exact (List.getElem?_eq_some_iff.1 h).1
  have hi : j / 6 < l.length := by omega
  refine ⟨j / 6, j % 6, l[j / 6], List.getElem?_eq_getElem hi, by omega, by omega, ?_⟩
  rw [← encs_at l (j / 6) (j % 6) _ (List.getElem?_eq_getElem hi) (by omega), show j / 6 * 6 + j % 6 = j from by omega]
  exact h

section
variable {H : Type} {enc : TypeId × Value → H} {w : World}
set_option maxRecDepth 100000 in
theorem open_rules {r : Reach} {b0 : Nat} {v : Value} {d : DataW H} {p : List MemPlace} (hv : Value.okWide Try.prog w r b0 24 v) (h : DataW.Trod enc Try.prog w 0 (fun _ => true) true 24 v d p) : ∃ r : Ru, v = r.val := by
  obtain ⟨v0, v1, v2, v3, y0, y1, y2, y3, n, rfl, rfl, rfl, h0, h1, h2, h3⟩ := open_agg4 Try.underlying24 (by kernel_rfl) cellsR hv h
  obtain ⟨a, e0, -, -⟩ := DataW.trod_int Try.underlying22 h0
  obtain ⟨b, e1, -, -⟩ := DataW.trod_int Try.underlying2 h1
  obtain ⟨c, e2, -, -⟩ := DataW.trod_int Try.underlying3 h2
  obtain ⟨e, e3, -, -⟩ := DataW.trod_int Try.underlying2 h3
  simp at e0 e1 e2 e3
  subst e0 e1 e2 e3
  exact ⟨⟨a, b, c, e⟩, rfl⟩

set_option maxRecDepth 100000 in
theorem open_frames {r : Reach} {b0 : Nat} {v : Value} {d : DataW H} {p : List MemPlace} (hv : Value.okWide Try.prog w r b0 25 v) (h : DataW.Trod enc Try.prog w 0 (fun _ => true) true 25 v d p) :
    ∃ (A : Option Addr) (c : Nat) (l : List Fr), v = .slice A l.length c ∧ Row w w.heap.size 6 v l.length (encs l) ∧ ∀ f ∈ l, f.ok := by
  obtain ⟨a0, len, cap, rfl⟩ := okWide_slice Try.underlying25 hv
  obtain ⟨fuel, hf⟩ := h
  have hf' : DataW.trod enc Try.prog w 0 (fun _ => true) true fuel 25 [.slice a0 len cap] = some (d, p) := by simpa [Value.cells] using hf
  rcases open_slice_fields Try.underlying25 Try.underlying43 (by kernel_rfl) cellsFr hf' with ⟨hcs, -⟩ | ⟨a, len', cap', m, D, Pl, hcs, -, hl, hm, hmm, -, hi⟩
  · simp at hcs
    obtain ⟨rfl, rfl, rfl⟩ := hcs
    exact ⟨none, 0, [], rfl, Row.nil _ _ _, by simp⟩
  · simp at hcs hmm
    obtain ⟨rfl, rfl, rfl⟩ := hcs
    subst hmm
    have hx : ∀ i, i < len → ∃ f : Fr, f.ok ∧ ∀ k u, f.enc[k]? = some u → w.cell? (a.add (i * 6 + k)) = some u := by
      intro i hil
      obtain ⟨ys, n, -, -, -, hfl⟩ := hi i (by omega)
      obtain ⟨u0, y0, c0, -, t0⟩ := hfl 0 _ rfl
      obtain ⟨u1, y1, c1, -, t1⟩ := hfl 1 _ rfl
      obtain ⟨u2, y2, c2, -, t2⟩ := hfl 2 _ rfl
      obtain ⟨u3, y3, c3, -, t3⟩ := hfl 3 _ rfl
      obtain ⟨u4, y4, c4, -, t4⟩ := hfl 4 _ rfl
      obtain ⟨u5, y5, c5, -, t5⟩ := hfl 5 _ rfl
      obtain ⟨n0, e0, -, w0⟩ := DataW.trod_int Try.underlying3 t0
      obtain ⟨n1, e1, -, w1⟩ := DataW.trod_int Try.underlying27 t1
      obtain ⟨n2, e2, -, w2⟩ := DataW.trod_int Try.underlying22 t2
      obtain ⟨n3, e3, -, w3⟩ := DataW.trod_int Try.underlying21 t3
      obtain ⟨n4, e4, -, w4⟩ := DataW.trod_int Try.underlying21 t4
      obtain ⟨n5, e5, -, w5⟩ := DataW.trod_int Try.underlying21 t5
      simp at e0 e1 e2 e3 e4 e5
      subst e0 e1 e2 e3 e4 e5
      have b1 := bounds_u16 w1
      have b2 := bounds_u32 w2
      have b3 := bounds_i32 w3
      refine ⟨⟨n0, n1, n2, n3, n4, n5⟩, by unfold Fr.ok; simp only; omega, fun k u hk => ?_⟩
      have hk6 : k < 6 := (List.getElem?_eq_some_iff.1 hk).1
      obtain rfl | rfl | rfl | rfl | rfl | rfl : k = 0 ∨ k = 1 ∨ k = 2 ∨ k = 3 ∨ k = 4 ∨ k = 5 := by omega
      all_goals (simp [Fr.enc] at hk; subst hk; assumption)
    obtain ⟨l, rfl, hp⟩ := list_of hx
    refine ⟨some a, _, l, rfl, ⟨some a, _, rfl, hl, hm, encs_len l, fun hn => ?_⟩, fun f hf => ?_⟩
    · obtain ⟨f0, hf0⟩ : ∃ f, l[0]? = some f := ⟨l[0], List.getElem?_eq_getElem hn⟩
      have hc0 := (hp 0 f0 hf0).2 0 _ rfl
      obtain ⟨b, off, spot⟩ := a
      have hspot : spot = none := by simpa [Addr.add] using World.cell?_spot hc0
      subst hspot
      have hblt : b < w.heap.size := by
        rcases Nat.lt_or_ge b w.heap.size with hlt | hge
        · exact hlt
        · rw [add_none] at hc0; simp [World.cell?, Array.getElem?_eq_none hge] at hc0
      refine ⟨b, off, rfl, hblt, fun j u hu => ?_⟩
      obtain ⟨i, k, f, hif, hk, rfl, hfk⟩ := encs_cell hu
      have := (hp i f hif).2 k u hfk
      rw [add_none] at this
      exact this
    · obtain ⟨i, hi', rfl⟩ := List.getElem_of_mem hf
      exact (hp i _ (List.getElem?_eq_getElem hi')).1
end

set_option maxRecDepth 100000 in
theorem twice_lifted (os : Os) (started : os.Started) (H : Type) (enc : TypeId × Value → H) :
    ReturnsInHanded {} Try.checked os 5 .any (Rows.clearanceTwiceSpec.pre6 enc Try.prog Try.f5 Rows.clearanceTwiceRow.domain false) (Rows.clearanceTwiceSpec.post enc Try.prog Try.f5 false true false false) := by
  refine returnsInHanded_of_change (C := Try.checked) own started (by kernel_rfl) Try.func5
    (ChangeSpec.witness6 (enc := enc) (C := Try.checked) false ⟨#[], #[.agg #[.int .u32 0, .int .i64 0, .int .i64 0, .int .i64 0], .slice none 0 0], []⟩ 8 (by kernel_rfl) (by kernel_rfl) (by kernel_rfl) (by kernel_rfl)) ?_
  intro W base args ds gs before hval0 hW hcnd _
  have hval : ∀ (j : Nat) t v, Try.f5.params[j]? = some t → args[j]? = some v → Value.okWide Try.prog W .any base t v := hval0
  have hW' := hW
  obtain ⟨p, q, hA0, hV, rfl, hfz, hnd⟩ := hW
  have hA : DataW.TrodAll enc Try.prog W 0 (fun _ => true) true Try.f5.params.toList args.toList ds p := hA0
  rw [Try.params5] at hA hval
  obtain ⟨v0, v1, d0, d1, p0, p1, rfl, rfl, rfl, h0, h1⟩ := trodAll_two hA
  obtain ⟨rfl, rfl⟩ := trodVars_none hV
  have hlt : ∀ x ∈ p0 ++ p1, x.block < W.heap.size := fun x hx => hW'.lt x (by simpa using hx)
  have hl0 : ∀ x ∈ p0, x.block < W.heap.size := fun x hx => hlt x (by simp [hx])
  have hl1 : ∀ x ∈ p1, x.block < W.heap.size := fun x hx => hlt x (by simp [hx])
  obtain ⟨r, rfl⟩ := open_rules (hval 0 24 v0 rfl rfl) h0
  obtain ⟨A, c, l, rfl, HR, hok⟩ := open_frames (hval 1 25 v1 rfl rfl) h1
  clear hA0 hval0
  have walk : Calls Try.prog 5 #[r.val, .slice A l.length c] W fun e w' => e = .returned (.bool true) ∧ Below W.heap.size W w' := by
    by_cases hn : l.length ≤ 60
    · exact twice_short r A c l W hn HR hok
    · exact twice_long r A l.length c W (by omega)
  refine walk.mono fun e W' ⟨he, hb⟩ => ?_
  subst he
  exact ⟨_, rfl, post_of_below (pa := p0 ++ p1) (pv := []) hW' (fun _ _ _ => trodAll_mk1 (shut_bool Try.underlying4 true))
    (fun sp hsp => trodAll_mk2 (Go.WideElems.Trod_stays laidOut (by kernel_rfl) (of_decide_eq_true (by kernel_rfl)) h0 (fun x hx => hb.same (hl0 x hx)) (fun x hx => hsp x (by simp [hx]))) (Go.WideElems.Trod_stays laidOut (by kernel_rfl) (of_decide_eq_true (by kernel_rfl)) h1 (fun x hx => hb.same (hl1 x hx)) (fun x hx => hsp x (by simp [hx]))))
    (fun _ _ => rfl) (by simp) hb (ok_one (by kernel_rfl) rfl (okWide_bool_mk Try.underlying4 true))⟩

theorem twice_holds : Rows.ClearanceTwiceSaid :=
  OpenClaim.holds_of_wide 5 Try.f5 rfl rfl rfl rfl rfl rfl rfl ⟨rfl, rfl, rfl, rfl, rfl⟩ rfl rfl rfl rfl rfl (by kernel_rfl) Try.func5 (by kernel_rfl)
    (of_decide_eq_true (by kernel_rfl)) (by unfold Func.isWrapper; first | (rw [if_pos (by decide +kernel)]; kernel_rfl) | (rw [if_neg (by decide +kernel)]; exact ⟨rfl, rfl⟩))
    (fun os started H enc _ => twice_lifted os started H enc)

#print axioms twice_holds
end Go.Proofs.Ytgingkckdmdloaa
