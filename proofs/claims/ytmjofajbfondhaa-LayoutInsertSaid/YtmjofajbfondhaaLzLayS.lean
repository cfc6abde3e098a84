/- Layout: closing, rule 1. -/
import Derived.Test.YtmjofajbfondhaaLzLayR
set_option linter.unusedSimpArgs false
set_option linter.unusedVariables false
namespace Go.Proofs.TryL
open Go.Proofs.Lz

theorem closing43 {H : WHeap} {p : Nat} {s : St} {f : Flt} (t : Tok) (fm : Fm) (h : Rep H p s f) (hl : s.stack.length < 1000000000) (hb : s.out.length + s.stack.length < 1000000000) :
    ∃ H', (match closing s fm with
      | none => wv Vv 43 [.ptr p 0, tC t, .c (.int .i64 fm.p)] H = some (.c (.bool false), H') ∧ Rep H' p s (flt t)
      | some s' => wv Vv 43 [.ptr p 0, tC t, .c (.int .i64 fm.p)] H = some (.c (.bool true), H') ∧ Rep H' p s' f) ∧ Kp p H H' := by
  have h0 := h
  obtain ⟨Hf, f1, f2, f3⟩ := fail28 t h
  obtain ⟨vo, vs, hp, ho, hs⟩ := h
  obtain ⟨uo, t1, _⟩ := ho.thaw
  obtain ⟨us, t2, hsc⟩ := hs.thaw
  have ht := fun a r => top37 a us r s.stack 53 [] [] isWr (SC_of hsc) hl call53 []
  cases hlast : last isWr s.stack with
  | none =>
    rw [hlast] at ht
    refine ⟨Hf, ?_, f3⟩
    simp only [closing, hlast]
    refine ⟨?_, f2⟩
    rw [wv_eq, wFn, vfn43]
    simp [ic43, tC, hp, t1, t2, ht, toI, f1]
  | some i =>
    rw [hlast] at ht
    obtain ⟨e, he, hwr⟩ := last_get hlast
    have hv := SL.own hs he
    subst hv
    have hu : us = .frz (some 4) (s.stack.map elC) := by have := t2 (.hp 0 0); simpa using this.symm
    subst hu
    have hlt := (List.getElem?_eq_some_iff.1 he).1
    have hge := (List.getElem?_eq_some_iff.1 he).2
    have hn : ¬ ((i : Int) < 0) := by omega
    have inj : ∀ a b : Fm, a.p = b.p ↔ a = b := by intro a b; cases a <;> cases b <;> simp [Fm.p]
    by_cases hf : e.form = fm
    · obtain ⟨H1, i1, i2, i3⟩ := cut29 (i + 1) h0 (by omega) hb
      have e1 : (((i + 1 : Nat) : Int) - 1) = (i : Int) := by omega
      rw [e1] at i1
      have hst : (s.cut (i + 1)).stack = s.stack.take i ++ [e] := by simp only [St.cut]; rw [List.take_add_one, he]; rfl
      obtain ⟨H2, j1, j2, j3⟩ := remove40 i2 hst (by rw [hst]; simp; omega)
      refine ⟨H2, ?_, i3.trans j3⟩
      have hcl : closing s fm = some ((s.cut (i + 1)).pop e (s.stack.take i)) := by
        simp only [closing, hlast, he, hf, if_true]
        have : (s.cut (i + 1)).stack.take i = s.stack.take i := by rw [hst, List.take_append_of_le_length (by rw [List.length_take]; omega), List.take_take, Nat.min_self]
        rw [this]
        subst hf
        cases hq : e.form <;> simp [St.pop, isBlock, hq, isWr] at hwr ⊢
      rw [hcl]
      refine ⟨?_, j2⟩
      rw [wv_eq, wFn, vfn43]
      subst hf
      simp [ic43, tC, hp, t1, ht, toI, hlt, hge, hn, i1, j1]
    · refine ⟨Hf, ?_, f3⟩
      simp only [closing, hlast, he, hf, if_false]
      refine ⟨?_, f2⟩
      have hf' : ¬ (e.form.p = fm.p) := by rw [inj]; exact hf
      rw [wv_eq, wFn, vfn43]
      simp [ic43, tC, hp, t1, ht, toI, hlt, hge, hn, hf', f1]
theorem insert23b {H : WHeap} {p : Nat} {s : St} {f : Flt} (x y : List UInt8) (h : Rep H p s f) (hb : s.out.length < 1000000000) :
    ∃ H', wv Vv 23 [.ptr p 0, .c (.frz none [.str x, .str y])] H = some (.tup [], H') ∧ Rep H' p ((s.ins x).ins y) f ∧ Kp p H H' := by
  obtain ⟨vo, vs, hp, ho, hs⟩ := h
  have hg := set_get hp
  rcases ho with ⟨rfl, ho⟩ | rfl
  · have ho' : s.out = [] := by simpa using ho
    refine ⟨_, ?_, ⟨.own true 33 (some 7) [tokC (insT x), tokC (insT y)], vs, set_get hp _, .inr ?_, hs⟩, Kp.set _ _ _⟩
    · rw [wv_eq, wFn, vfn23]
      simp [ic23, w_loop, witW_eq, lp23_1, hp, hg, lim, insT, wrap_id, St.ins]
    · simp [St.ins, ho']
  · refine ⟨_, ?_, ⟨.own true 33 (some 7) (((s.ins x).ins y).out.map tokC), vs, set_get hp _, .inr rfl, hs⟩, Kp.set _ _ _⟩
    rw [wv_eq, wFn, vfn23]
    simp [ic23, w_loop, witW_eq, lp23_1, hp, hg, lim, St.ins, insT, wrap_id, show s.out.length + 1 ≤ 140737488355328 by omega, show (s.out.length + 1) * 72 ≤ 140737488355328 by omega, show s.out.length + 1 + 1 ≤ 140737488355328 by omega, show (s.out.length + 1 + 1) * 72 ≤ 140737488355328 by omega]
/-- Where rule 1 finds the column. -/
def colOf (s : St) : Int := match last isBlock s.stack with
  | none => 0
  | some i => match s.stack[i]? with
    | some e => if e.form = .im then e.col else 0
    | none => 0
set_option maxHeartbeats 1000000 in
theorem begin19 {H : WHeap} {p : Nat} {s : St} {f : Flt} (t : Tok) (h : Rep H p s f) (hl : s.stack.length < 100000000) (hb : s.out.length < 100000000) :
    ∃ H', wv Vv 19 [.ptr p 0, tC t] H = some (.c (.bool (begin s t).1), H') ∧ Rep H' p (begin s t).2 f ∧ Kp p H H' := by
  have h0 := h
  obtain ⟨vo, vs, hp, ho, hs⟩ := h
  obtain ⟨uo, t1, _⟩ := ho.thaw
  obtain ⟨us, t2, hsc⟩ := hs.thaw
  have ht := fun a r => top37 a us r s.stack 38 [] [] isBlock (SC_of hsc) (by omega) call38 []
  have hg := set_get hp
  have s1 := special34 t [123] []
  have w1 := word36 t [109, 111, 100, 117, 108, 101] []
  cases hx : s.expect with
  | false =>
    refine ⟨H, ?_, by simpa [begin, hx] using h0, Kp.refl _ _⟩
    rw [wv_eq, wFn, vfn19]
    simp [ic19, tC, hp, hx, begin]
  | true =>
    have mid : Rep (H.set p (.var (some 8) [vo, vs, .c (.bool false), .c (.str s.word), .c (.int .i64 f.code), .c (.str f.name), .c (.int .i64 f.line), .c (.int .i64 f.col)])) p { s with expect := false } f := ⟨vo, vs, set_get hp _, ho, hs⟩
    cases c1 : special t [123] with
    | true =>
      refine ⟨_, ?_, by simpa [begin, hx, c1] using mid, Kp.set _ _ _⟩
      rw [wv_eq, wFn, vfn19]
      simp [ic19, tC, hp, hg, hx, begin, s1, c1]
    | false =>
      by_cases c2 : s.word = [] ∧ isW t wModule = true
      · refine ⟨_, ?_, by simpa [begin, hx, c1, c2.1, c2.2] using mid, Kp.set _ _ _⟩
        have c3 := c2.2
        simp only [wModule] at c3
        rw [wv_eq, wFn, vfn19]
        simp [ic19, tC, hp, hg, hx, begin, s1, c1, c2.1, w1, c3, wModule]
      · have c3 : (s.word == [] && isW t wModule) = false := by
          cases hw : isW t wModule <;> simp [hw] at c2 ⊢
          exact c2
        have hbeg : begin s t = if colOf s < t.col then (true, (({ s with expect := false } : St).ins [123]).push ⟨.im, t.col, s.word, false⟩) else (false, ((({ s with expect := false } : St).ins [123]).ins [125]).wait s.word) := by
          simp only [begin, hx, c1, c3, Bool.false_eq_true, if_false, colOf]
          rfl
        -- what is known of the column
        have hcol : (∃ i : Nat, last isBlock s.stack = some i ∧ ∃ e, s.stack[i]? = some e ∧ e.form = .im ∧ colOf s = e.col) ∨ (∃ i : Nat, last isBlock s.stack = some i ∧ ∃ e, s.stack[i]? = some e ∧ e.form ≠ .im ∧ colOf s = 0) ∨ (last isBlock s.stack = none ∧ colOf s = 0) := by
          cases hlast : last isBlock s.stack with
          | none => exact .inr (.inr ⟨rfl, by simp [colOf, hlast]⟩)
          | some i =>
            obtain ⟨e, he, _⟩ := last_get hlast
            by_cases hf : e.form = .im
            · exact .inl ⟨i, rfl, e, he, hf, by simp [colOf, hlast, he, hf]⟩
            · exact .inr (.inl ⟨i, rfl, e, he, hf, by simp [colOf, hlast, he, hf]⟩)
        have c4 : s.word = [] → isW t [109, 111, 100, 117, 108, 101] = false := by
          intro e
          cases hw : isW t [109, 111, 100, 117, 108, 101] with
          | false => rfl
          | true => exact (c2 ⟨e, hw⟩).elim
        rw [hbeg]
        by_cases hcc : colOf s < t.col
        · rw [if_pos hcc]
          obtain ⟨H1, i1, i2, i3⟩ := insert23 [123] mid (by simp only; omega)
          obtain ⟨H2, j1, j2, j3⟩ := push39 ⟨.im, t.col, s.word, false⟩ i2 (by simp only [St.ins]; omega)
          obtain ⟨vo1, vs1, hp1, _, _⟩ := i2
          refine ⟨H2, ?_, j2, ((Kp.set _ _ _).trans i3).trans j3⟩
          simp only [show Fm.im.p = 0 from rfl] at j1
          simp only [St.ins] at hp1
          rcases hcol with ⟨i, hlast, e, he, hf, hce⟩ | ⟨i, hlast, e, he, hf, hce⟩ | ⟨hlast, hce⟩
          · rw [hlast] at ht
            have hv := SL.own hs he
            subst hv
            have hu : us = .frz (some 4) (s.stack.map elC) := by have := t2 (.hp 0 0); simpa using this.symm
            subst hu
            have hlt := (List.getElem?_eq_some_iff.1 he).1
            have hge := (List.getElem?_eq_some_iff.1 he).2
            rw [hce] at hcc
            rw [wv_eq, wFn, vfn19]
            by_cases hw : s.word = []
            · rw [hw] at hp i1 j1 hp1
              simp [ic19, tC, hp, hg, hx, s1, c1, w1, hw, c4 hw, ht, t1, toI, hlt, hge, hf, hcc, i1, j1, hp1]
            · simp [ic19, tC, hp, hg, hx, s1, c1, w1, hw, ht, t1, toI, hlt, hge, hf, hcc, i1, j1, hp1]
          · rw [hlast] at ht
            have hv := SL.own hs he
            subst hv
            have hu : us = .frz (some 4) (s.stack.map elC) := by have := t2 (.hp 0 0); simpa using this.symm
            subst hu
            have hlt := (List.getElem?_eq_some_iff.1 he).1
            have hge := (List.getElem?_eq_some_iff.1 he).2
            rw [hce] at hcc
            rw [wv_eq, wFn, vfn19]
            by_cases hw : s.word = []
            · rw [hw] at hp i1 j1 hp1
              simp [ic19, tC, hp, hg, hx, s1, c1, w1, hw, c4 hw, ht, t1, toI, hlt, hge, hf, hcc, i1, j1, hp1]
            · simp [ic19, tC, hp, hg, hx, s1, c1, w1, hw, ht, t1, toI, hlt, hge, hf, hcc, i1, j1, hp1]
          · rw [hlast] at ht
            rw [hce] at hcc
            rw [wv_eq, wFn, vfn19]
            by_cases hw : s.word = []
            · rw [hw] at hp i1 j1 hp1
              simp [ic19, tC, hp, hg, hx, s1, c1, w1, hw, c4 hw, ht, t1, t2, toI, hcc, i1, j1, hp1]
            · simp [ic19, tC, hp, hg, hx, s1, c1, w1, hw, ht, t1, t2, toI, hcc, i1, j1, hp1]
        · rw [if_neg hcc]
          obtain ⟨H1, i1, i2, i3⟩ := insert23b [123] [125] mid (by simp only; omega)
          have i2' := i2
          obtain ⟨vo1, vs1, hp1, _, _⟩ := i2
          simp only [St.ins] at hp1
          by_cases hlet : s.word = wLet
          · obtain ⟨H2, j1, j2, j3⟩ := push39 (pend wLet) i2' (by simp only [St.ins]; omega)
            refine ⟨H2, ?_, by simpa [St.wait, hlet] using j2, ((Kp.set _ _ _).trans i3).trans j3⟩
            simp only [pend, wLet, show Fm.pe.p = 4 from rfl] at j1
            simp only [wLet] at hlet
            rw [hlet] at hp i1 hp1
            rcases hcol with ⟨i, hlast, e, he, hf, hce⟩ | ⟨i, hlast, e, he, hf, hce⟩ | ⟨hlast, hce⟩
            · rw [hlast] at ht
              have hv := SL.own hs he
              subst hv
              have hu : us = .frz (some 4) (s.stack.map elC) := by have := t2 (.hp 0 0); simpa using this.symm
              subst hu
              have hlt := (List.getElem?_eq_some_iff.1 he).1
              have hge := (List.getElem?_eq_some_iff.1 he).2
              rw [hce] at hcc
              rw [wv_eq, wFn, vfn19]
              simp [ic19, tC, hp, hg, hx, s1, c1, w1, hlet, ht, t1, toI, hlt, hge, hf, hcc, i1, j1, hp1]
            · rw [hlast] at ht
              have hv := SL.own hs he
              subst hv
              have hu : us = .frz (some 4) (s.stack.map elC) := by have := t2 (.hp 0 0); simpa using this.symm
              subst hu
              have hlt := (List.getElem?_eq_some_iff.1 he).1
              have hge := (List.getElem?_eq_some_iff.1 he).2
              rw [hce] at hcc
              rw [wv_eq, wFn, vfn19]
              simp [ic19, tC, hp, hg, hx, s1, c1, w1, hlet, ht, t1, toI, hlt, hge, hf, hcc, i1, j1, hp1]
            · rw [hlast] at ht
              rw [hce] at hcc
              rw [wv_eq, wFn, vfn19]
              simp [ic19, tC, hp, hg, hx, s1, c1, w1, hlet, ht, t1, t2, toI, hcc, i1, j1, hp1]

          · refine ⟨H1, ?_, by simpa [St.wait, hlet] using i2', (Kp.set _ _ _).trans i3⟩
            simp only [wLet] at hlet
            rcases hcol with ⟨i, hlast, e, he, hf, hce⟩ | ⟨i, hlast, e, he, hf, hce⟩ | ⟨hlast, hce⟩
            · rw [hlast] at ht
              have hv := SL.own hs he
              subst hv
              have hu : us = .frz (some 4) (s.stack.map elC) := by have := t2 (.hp 0 0); simpa using this.symm
              subst hu
              have hlt := (List.getElem?_eq_some_iff.1 he).1
              have hge := (List.getElem?_eq_some_iff.1 he).2
              rw [hce] at hcc
              rw [wv_eq, wFn, vfn19]
              by_cases hw : s.word = []
              · rw [hw] at hp i1 hp1
                simp [ic19, tC, hp, hg, hx, s1, c1, w1, hw, c4 hw, hlet, ht, t1, toI, hlt, hge, hf, hcc, i1, hp1]
              · simp [ic19, tC, hp, hg, hx, s1, c1, w1, hw, hlet, ht, t1, toI, hlt, hge, hf, hcc, i1, hp1]
            · rw [hlast] at ht
              have hv := SL.own hs he
              subst hv
              have hu : us = .frz (some 4) (s.stack.map elC) := by have := t2 (.hp 0 0); simpa using this.symm
              subst hu
              have hlt := (List.getElem?_eq_some_iff.1 he).1
              have hge := (List.getElem?_eq_some_iff.1 he).2
              rw [hce] at hcc
              rw [wv_eq, wFn, vfn19]
              by_cases hw : s.word = []
              · rw [hw] at hp i1 hp1
                simp [ic19, tC, hp, hg, hx, s1, c1, w1, hw, c4 hw, hlet, ht, t1, toI, hlt, hge, hf, hcc, i1, hp1]
              · simp [ic19, tC, hp, hg, hx, s1, c1, w1, hw, hlet, ht, t1, toI, hlt, hge, hf, hcc, i1, hp1]
            · rw [hlast] at ht
              rw [hce] at hcc
              rw [wv_eq, wFn, vfn19]
              by_cases hw : s.word = []
              · rw [hw] at hp i1 hp1
                simp [ic19, tC, hp, hg, hx, s1, c1, w1, hw, c4 hw, hlet, ht, t1, t2, toI, hcc, i1, hp1]
              · simp [ic19, tC, hp, hg, hx, s1, c1, w1, hw, hlet, ht, t1, t2, toI, hcc, i1, hp1]

end Go.Proofs.TryL
