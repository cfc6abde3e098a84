/- Layout: what waits for a word. -/
import Derived.Test.YtmjofajbfondhaaLzLayR
set_option linter.unusedSimpArgs false
set_option linter.unusedVariables false
namespace Go.Proofs.TryL
open Go.Proofs.Lz

set_option maxHeartbeats 2000000 in
theorem ending54 (e : El) (w : List UInt8) (lt : Bool) (H : WHeap) : wv Vv 54 [.c (.agg [.int .i64 e.form.p, .int .i64 e.col, .str e.word, .bool e.mark]), .c (.fptr none (.str w) 0), .c (.fptr none (.bool lt) 0)] H = some (.c (.bool (seeks w lt e || isWr e)), H) := by
  rw [wv_eq, wFn, vfn54]
  by_cases h1 : e.word = w
  · subst h1
    by_cases h2 : e.word = [108, 101, 116] <;> cases lt <;> cases h : e.form <;> simp [ic54, seeks, isWr, h, h2, Fm.p, wLet]
  · by_cases h2 : e.word = [108, 101, 116]
    · rw [h2] at h1
      cases lt <;> cases h : e.form <;> simp [ic54, seeks, isWr, h, h1, h2, Fm.p, wLet]
    · cases lt <;> cases h : e.form <;> simp [ic54, seeks, isWr, h, h1, h2, Fm.p, wLet]
theorem call54 (w : List UInt8) (lt : Bool) (e : El) (dst : Option Nat) (fr : WFr) (H : WHeap) : wcallTo Vv (wv Vv) 54 (([] : List CV).map .c ++ .c (.agg [.int .i64 e.form.p, .int .i64 e.col, .str e.word, .bool e.mark]) :: ([.fptr none (.str w) 0, .fptr none (.bool lt) 0] : List CV).map .c) dst fr H = some (fr.put dst (.c (.bool (seeks w lt e || isWr e))), H) := by
  have := ending54 e w lt []
  simp [this]
set_option maxHeartbeats 2000000 in
theorem ending46 {H : WHeap} {p : Nat} {s : St} {f : Flt} (t : Tok) (w : List UInt8) (h : Rep H p s f) (hl : s.stack.length < 1000000000) (hb : s.out.length + s.stack.length < 1000000000) :
    ∃ H', (match ending s w (t.text == wIn) (t.text == wThen) with
      | none => wv Vv 46 [.ptr p 0, tC t, .c (.str w)] H = some (.c (.bool false), H') ∧ Rep H' p s (flt t)
      | some s' => wv Vv 46 [.ptr p 0, tC t, .c (.str w)] H = some (.c (.bool true), H') ∧ Rep H' p s' f) ∧ Kp p H H' := by
  have h0 := h
  obtain ⟨vo, vs, hp, ho, hs⟩ := h
  have hlt0 := (List.getElem?_eq_some_iff.1 hp).1
  obtain ⟨uo, t1, _⟩ := ho.thaw
  obtain ⟨us, t2, hsc⟩ := hs.thaw
  have ht := fun a r => top37 a us r s.stack 54 [] [.fptr none (.str w) 0, .fptr none (.bool (t.text == wIn)) 0] (fun e => seeks w (t.text == wIn) e || isWr e) (SC_of hsc) hl (call54 w _) []
  -- the captured variables
  let G : WHeap := H ++ [.var none [.c (.str w)], .var none [.c (.bool (t.text == [105, 110]))]]
  have hpG : G[p]? = some (.var (some 8) [vo, vs, .c (.bool s.expect), .c (.str s.word), .c (.int .i64 f.code), .c (.str f.name), .c (.int .i64 f.line), .c (.int .i64 f.col)]) := by
    simp only [G]; rw [List.getElem?_append_left hlt0]; exact hp
  have hG1 : G[H.length]? = some (.var none [.c (.str w)]) := by simp [G]
  have hG2 : G[H.length + 1]? = some (.var none [.c (.bool (t.text == [105, 110]))]) := by simp [G]
  have kpG : Kp p H G := fun i o _ hi => by simp only [G]; rw [List.getElem?_append_left (List.getElem?_eq_some_iff.1 hi).1]; exact hi
  have rG : Rep G p s f := ⟨vo, vs, hpG, ho, hs⟩
  obtain ⟨Hf, f1, f2, f3⟩ := fail28 t rG
  have hpa : ∀ a b : WO, (H ++ [a, b])[p]? = some (.var (some 8) [vo, vs, .c (.bool s.expect), .c (.str s.word), .c (.int .i64 f.code), .c (.str f.name), .c (.int .i64 f.line), .c (.int .i64 f.col)]) := fun a b => by rw [List.getElem?_append_left hlt0]; exact hp
  have hq1 : ∀ a b : WO, (H ++ [a, b])[H.length + 1]? = some b := fun a b => by simp
  have hq0 : ∀ a b : WO, (H ++ [a, b])[H.length]? = some a := fun a b => by simp
  simp only [G] at f1
  simp only [wIn] at ht
  cases hlast : last (fun e => seeks w (t.text == wIn) e || isWr e) s.stack with
  | none =>
    simp only [wIn] at hlast
    rw [hlast] at ht
    refine ⟨Hf, ?_, kpG.trans f3⟩
    simp only [ending, wIn, hlast]
    refine ⟨?_, f2⟩
    rw [wv_eq, wFn, vfn46]
    simp [-getElem?_pos, List.getElem?_cons_zero, ic46, tC, hp, hpa, hq0, hq1, t1, t2, ht, toI, f1]
  | some i =>
    simp only [wIn] at hlast
    rw [hlast] at ht
    obtain ⟨e, he, hwr⟩ := last_get hlast
    have hv := SL.own hs he
    subst hv
    have hu : us = .frz (some 4) (s.stack.map elC) := by have := t2 (.hp 0 0); simpa using this.symm
    subst hu
    have hlt := (List.getElem?_eq_some_iff.1 he).1
    have hge : (s.stack.map elC)[i]? = some (elC e) := by simp [he]
    have hn : ¬ ((i : Int) < 0) := by omega
    by_cases hf : isWr e = true
    · refine ⟨Hf, ?_, kpG.trans f3⟩
      simp only [ending, wIn, hlast, he, hf, if_true]
      refine ⟨?_, f2⟩
      have hf1 : e.form ≠ .pe ∧ e.form ≠ .im := by cases hq : e.form <;> simp [isWr, hq] at hf ⊢
      rw [wv_eq, wFn, vfn46]
      simp [-getElem?_pos, List.getElem?_cons_zero, ic46, tC, hp, hpa, hq0, hq1, t1, ht, toI, f1, hlt, hge, hn, hf1.1, hf1.2]
    · have hf1 : e.form = .pe ∨ e.form = .im := by cases hq : e.form <;> simp [isWr, hq] at hf ⊢
      obtain ⟨H1, i1, i2, i3⟩ := cut29 i rG (by omega) hb
      obtain ⟨H2, j1, j2, j3⟩ := push39 (pend wThen) i2 (by simp only [St.cut, List.length_take]; omega)
      have w1 : IntKind.i64.wrap ((i : Int) - 1) = (i : Int) - 1 := by rw [wrap_id] <;> omega
      simp only [pend, wThen, show Fm.pe.p = 4 from rfl] at j1
      simp only [G] at i1
      by_cases hth : t.text = wThen
      · refine ⟨H2, ?_, (kpG.trans i3).trans j3⟩
        have hth' : (t.text == wThen) = true := by simp [hth]
        simp only [ending, wIn, hlast, he, hf, hth', if_true]
        refine ⟨?_, j2⟩
        simp only [wThen] at hth
        rw [hth] at i1 ht
        simp only [show (([116, 104, 101, 110] : List UInt8) == [105, 110]) = false from rfl] at i1 ht
        rw [wv_eq, wFn, vfn46]
        rcases hf1 with hf1 | hf1 <;> simp [-getElem?_pos, List.getElem?_cons_zero, ic46, tC, hp, hpa, hq0, hq1, t1, ht, toI, hlt, hge, hn, hf1, w1, i1, j1, hth]
      · refine ⟨H1, ?_, kpG.trans i3⟩
        have hth' : (t.text == wThen) = false := by simpa using hth
        simp only [ending, wIn, hlast, he, hf, hth', Bool.false_eq_true, if_false]
        refine ⟨?_, i2⟩
        simp only [wThen] at hth
        rw [wv_eq, wFn, vfn46]
        rcases hf1 with hf1 | hf1 <;> simp [-getElem?_pos, List.getElem?_cons_zero, ic46, tC, hp, hpa, hq0, hq1, t1, ht, toI, hlt, hge, hn, hf1, w1, i1, hth]
end Go.Proofs.TryL
