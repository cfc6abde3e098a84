/- Layout: rule 4. -/
import Derived.Test.YtmjofajbfondhaaLzLayS
import Derived.Test.YtmjofajbfondhaaLzLayT
import Derived.Test.YtmjofajbfondhaaLzLayV
import Derived.Test.YtmjofajbfondhaaLzLayGr
set_option linter.unusedSimpArgs false
set_option linter.unusedVariables false
namespace Go.Proofs.TryL
open Go.Proofs.Lz

def sw22 : ICode := match ic22.body with
  | .seq _ (.seq _ (.seq b _)) => b
  | _ => .skip
def tl22 : ICode := match ic22.body with
  | .seq _ (.seq _ (.seq _ b)) => b
  | _ => .skip
def F22 (p : Nat) (t b : Tok) : WFr := { env := wassoc [(0, .ptr p 0), (1, .c (tkC t)), (2, .c (tkC b)), (4, .lbox (some 7) (.c (tkC t))), (5, .lbox (some 7) (.c (tkC b))), (6, .c (.bool false)), (7, .c (.bool true))], al := noAl }
/-- The tail's places are not yet taken. -/
def Fr22 (fr : WFr) : Prop := fr.env 108 = .undef ∧ fr.env 109 = .undef ∧ fr.env 110 = .undef ∧ fr.env 111 = .undef ∧ fr.env 112 = .undef ∧ fr.env 113 = .undef ∧ fr.env 114 = .undef ∧ fr.env 115 = .undef ∧ fr.env 116 = .undef ∧ fr.env 117 = .undef ∧ fr.env 118 = .undef ∧ fr.env 119 = .undef ∧ fr.env 120 = .undef ∧ fr.env 121 = .undef ∧ fr.env 122 = .undef ∧ fr.env 123 = .undef ∧ fr.env 124 = .undef ∧ fr.env 125 = .undef ∧ fr.env 126 = .undef ∧ fr.env 127 = .undef ∧ fr.env 128 = .undef
/-- What the switch leaves. -/
def Sw (p : Nat) (t b : Tok) (s : St) (f : Flt) (H : WHeap) (r : Option St) : Prop :=
  ∃ fr' H', wC Vv (wv Vv) witW sw22 (F22 p t b) H = some (.nrm, fr', H') ∧ fr'.env 0 = .ptr p 0 ∧ fr'.env 4 = .lbox (some 7) (.c (tkC t)) ∧ Fr22 fr' ∧ (match r with
    | none => fr'.env 7 = .c (.bool false) ∧ Rep H' p s (flt t)
    | some s' => fr'.env 7 = .c (.bool true) ∧ Rep H' p s' f) ∧ Kp p H H'
theorem isW_text {t : Tok} {w : List UInt8} (h : isW t w = true) : t.text = w := by
  simp only [isW, Bool.and_eq_true, beq_iff_eq] at h; exact h.2
theorem closing_p : Fm.pa.p = 2 ∧ Fm.br.p = 3 ∧ Fm.ex.p = 1 ∧ Fm.pe.p = 4 := ⟨rfl, rfl, rfl, rfl⟩
section

set_option maxHeartbeats 2000000 in
theorem sw_1 {H : WHeap} {p : Nat} {s : St} {f : Flt} (t b : Tok) (h : Rep H p s f) (hl : s.stack.length < 100000000) (c1 : special t [40] = true) : Sw p t b s f H (some (s.push ⟨.pa, 0, [], false⟩)) := by
  have sp := fun x => special34 t x []
  have wd := fun x => word36 t x []
  obtain ⟨H1, i1, i2, i3⟩ := push39 ⟨.pa, 0, [], false⟩ h (by omega)
  simp only [show Fm.pa.p = 2 from rfl] at i1
  refine ⟨?_, H1, ?_, ?_, ?_, ?_, ⟨?_, i2⟩, i3⟩
  rotate_left
  · simp [-getElem?_pos, List.getElem?_cons_zero, sw22, ic22, F22, tkC, sp, wd, c1, i1]
    rfl
  all_goals simp [Fr22, tkC]

set_option maxHeartbeats 2000000 in
theorem sw_2 {H : WHeap} {p : Nat} {s : St} {f : Flt} (t b : Tok) (h : Rep H p s f) (hl : s.stack.length < 100000000) (c1 : special t [40] = false) (c2 : special t [91] = true) : Sw p t b s f H (some (s.push ⟨.br, 0, [], false⟩)) := by
  have sp := fun x => special34 t x []
  have wd := fun x => word36 t x []
  obtain ⟨H1, i1, i2, i3⟩ := push39 ⟨.br, 0, [], false⟩ h (by omega)
  simp only [show Fm.br.p = 3 from rfl] at i1
  refine ⟨?_, H1, ?_, ?_, ?_, ?_, ⟨?_, i2⟩, i3⟩
  rotate_left
  · simp [-getElem?_pos, List.getElem?_cons_zero, sw22, ic22, F22, tkC, sp, wd, c1, c2, i1]
    rfl
  all_goals simp [Fr22, tkC]

set_option maxHeartbeats 2000000 in
theorem sw_3 {H : WHeap} {p : Nat} {s : St} {f : Flt} (t b : Tok) (h : Rep H p s f) (hl : s.stack.length < 100000000) (c1 : special t [40] = false) (c2 : special t [91] = false) (c3 : special t [123] = true) : Sw p t b s f H (some (s.push ⟨.ex, 0, bword b, false⟩)) := by
  have sp := fun x => special34 t x []
  have wd := fun x => word36 t x []
  have ob := opens42 b []
  obtain ⟨H1, i1, i2, i3⟩ := push39 ⟨.ex, 0, bword b, false⟩ h (by omega)
  cases hob : opens b with
  | true =>
    have hw : bword b = b.text := by simp [bword, hob]
    rw [hw] at i1 i2 ⊢
    simp only [show Fm.ex.p = 1 from rfl] at i1
    refine ⟨?_, H1, ?_, ?_, ?_, ?_, ⟨?_, i2⟩, i3⟩
    rotate_left
    · simp [-getElem?_pos, List.getElem?_cons_zero, sw22, ic22, F22, tkC, sp, wd, c1, c2, c3, i1, ob, hob]
      rfl
    all_goals simp [Fr22, tkC]
  | false =>
    have hw : bword b = [] := by simp [bword, hob]
    rw [hw] at i1 i2 ⊢
    simp only [show Fm.ex.p = 1 from rfl] at i1
    refine ⟨?_, H1, ?_, ?_, ?_, ?_, ⟨?_, i2⟩, i3⟩
    rotate_left
    · simp [-getElem?_pos, List.getElem?_cons_zero, sw22, ic22, F22, tkC, sp, wd, c1, c2, c3, i1, ob, hob]
      rfl
    all_goals simp [Fr22, tkC]

set_option maxHeartbeats 2000000 in
theorem sw_4 {H : WHeap} {p : Nat} {s : St} {f : Flt} (t b : Tok) (h : Rep H p s f) (hl : s.stack.length < 100000000) (hb : s.out.length + s.stack.length < 100000000) (c1 : special t [40] = false) (c2 : special t [91] = false) (c3 : special t [123] = false) (c4 : special t [41] = true) : Sw p t b s f H (closing s .pa) := by
  have sp := fun x => special34 t x []
  have wd := fun x => word36 t x []
  obtain ⟨H1, i1, i3⟩ := closing43 t .pa h (by omega) (by omega)
  simp only [tC, show Fm.pa.p = 2 from rfl] at i1
  cases hcl : closing s .pa with
  | none =>
    rw [hcl] at i1
    obtain ⟨i1, i2⟩ := i1
    refine ⟨?_, H1, ?_, ?_, ?_, ?_, ⟨?_, i2⟩, i3⟩
    rotate_left
    · simp [-getElem?_pos, List.getElem?_cons_zero, sw22, ic22, F22, tkC, sp, wd, c1, c2, c3, c4, i1]
      rfl
    all_goals simp [Fr22, tkC]
  | some s' =>
    rw [hcl] at i1
    obtain ⟨i1, i2⟩ := i1
    refine ⟨?_, H1, ?_, ?_, ?_, ?_, ⟨?_, i2⟩, i3⟩
    rotate_left
    · simp [-getElem?_pos, List.getElem?_cons_zero, sw22, ic22, F22, tkC, sp, wd, c1, c2, c3, c4, i1]
      rfl
    all_goals simp [Fr22, tkC]

set_option maxHeartbeats 2000000 in
theorem sw_5 {H : WHeap} {p : Nat} {s : St} {f : Flt} (t b : Tok) (h : Rep H p s f) (hl : s.stack.length < 100000000) (hb : s.out.length + s.stack.length < 100000000) (c1 : special t [40] = false) (c2 : special t [91] = false) (c3 : special t [123] = false) (c4 : special t [41] = false) (c5 : special t [93] = true) : Sw p t b s f H (closing s .br) := by
  have sp := fun x => special34 t x []
  have wd := fun x => word36 t x []
  obtain ⟨H1, i1, i3⟩ := closing43 t .br h (by omega) (by omega)
  simp only [tC, show Fm.br.p = 3 from rfl] at i1
  cases hcl : closing s .br with
  | none =>
    rw [hcl] at i1
    obtain ⟨i1, i2⟩ := i1
    refine ⟨?_, H1, ?_, ?_, ?_, ?_, ⟨?_, i2⟩, i3⟩
    rotate_left
    · simp [-getElem?_pos, List.getElem?_cons_zero, sw22, ic22, F22, tkC, sp, wd, c1, c2, c3, c4, c5, i1]
      rfl
    all_goals simp [Fr22, tkC]
  | some s' =>
    rw [hcl] at i1
    obtain ⟨i1, i2⟩ := i1
    refine ⟨?_, H1, ?_, ?_, ?_, ?_, ⟨?_, i2⟩, i3⟩
    rotate_left
    · simp [-getElem?_pos, List.getElem?_cons_zero, sw22, ic22, F22, tkC, sp, wd, c1, c2, c3, c4, c5, i1]
      rfl
    all_goals simp [Fr22, tkC]

set_option maxHeartbeats 2000000 in
theorem sw_6 {H : WHeap} {p : Nat} {s : St} {f : Flt} (t b : Tok) (h : Rep H p s f) (hl : s.stack.length < 100000000) (hb : s.out.length + s.stack.length < 100000000) (c1 : special t [40] = false) (c2 : special t [91] = false) (c3 : special t [123] = false) (c4 : special t [41] = false) (c5 : special t [93] = false) (c6 : special t [125] = true) : Sw p t b s f H (closing s .ex) := by
  have sp := fun x => special34 t x []
  have wd := fun x => word36 t x []
  obtain ⟨H1, i1, i3⟩ := closing43 t .ex h (by omega) (by omega)
  simp only [tC, show Fm.ex.p = 1 from rfl] at i1
  cases hcl : closing s .ex with
  | none =>
    rw [hcl] at i1
    obtain ⟨i1, i2⟩ := i1
    refine ⟨?_, H1, ?_, ?_, ?_, ?_, ⟨?_, i2⟩, i3⟩
    rotate_left
    · simp [-getElem?_pos, List.getElem?_cons_zero, sw22, ic22, F22, tkC, sp, wd, c1, c2, c3, c4, c5, c6, i1]
      rfl
    all_goals simp [Fr22, tkC]
  | some s' =>
    rw [hcl] at i1
    obtain ⟨i1, i2⟩ := i1
    refine ⟨?_, H1, ?_, ?_, ?_, ?_, ⟨?_, i2⟩, i3⟩
    rotate_left
    · simp [-getElem?_pos, List.getElem?_cons_zero, sw22, ic22, F22, tkC, sp, wd, c1, c2, c3, c4, c5, c6, i1]
      rfl
    all_goals simp [Fr22, tkC]

set_option maxHeartbeats 2000000 in
theorem sw_7 {H : WHeap} {p : Nat} {s : St} {f : Flt} (t b : Tok) (h : Rep H p s f) (hl : s.stack.length < 100000000) (hb : s.out.length + s.stack.length < 100000000) (c1 : special t [40] = false) (c2 : special t [91] = false) (c3 : special t [123] = false) (c4 : special t [41] = false) (c5 : special t [93] = false) (c6 : special t [125] = false) (c7 : special t [44] = true) : Sw p t b s f H (some (comma s.stack.length s)) := by
  have sp := fun x => special34 t x []
  have wd := fun x => word36 t x []
  obtain ⟨H1, i1, i2, i3⟩ := comma44 h hl (by omega)
  refine ⟨?_, H1, ?_, ?_, ?_, ?_, ⟨?_, i2⟩, i3⟩
  rotate_left
  · simp [-getElem?_pos, List.getElem?_cons_zero, sw22, ic22, F22, tkC, sp, wd, c1, c2, c3, c4, c5, c6, c7, i1]
    rfl
  all_goals simp [Fr22, tkC]

set_option maxHeartbeats 2000000 in
theorem sw_8 {H : WHeap} {p : Nat} {s : St} {f : Flt} (t b : Tok) (h : Rep H p s f) (hl : s.stack.length < 100000000) (hb : s.out.length + s.stack.length < 100000000) (c1 : special t [40] = false) (c2 : special t [91] = false) (c3 : special t [123] = false) (c4 : special t [41] = false) (c5 : special t [93] = false) (c6 : special t [125] = false) (c7 : special t [44] = false) (c8 : special t [59] = true) : Sw p t b s f H (some (mark s false)) := by
  have sp := fun x => special34 t x []
  have wd := fun x => word36 t x []
  obtain ⟨H1, i1, i2, i3⟩ := setMark45 false h (by omega)
  refine ⟨?_, H1, ?_, ?_, ?_, ?_, ⟨?_, i2⟩, i3⟩
  rotate_left
  · simp [-getElem?_pos, List.getElem?_cons_zero, sw22, ic22, F22, tkC, sp, wd, c1, c2, c3, c4, c5, c6, c7, c8, i1]
    rfl
  all_goals simp [Fr22, tkC]

set_option maxHeartbeats 2000000 in
theorem sw_9 {H : WHeap} {p : Nat} {s : St} {f : Flt} (t b : Tok) (h : Rep H p s f) (hl : s.stack.length < 100000000) (hb : s.out.length + s.stack.length < 100000000) (c1 : special t [40] = false) (c2 : special t [91] = false) (c3 : special t [123] = false) (c4 : special t [41] = false) (c5 : special t [93] = false) (c6 : special t [125] = false) (c7 : special t [44] = false) (c8 : special t [59] = false) (c9 : (t.op == 10 && t.text == [61]) = true) : Sw p t b s f H (some (mark s true)) := by
  have sp := fun x => special34 t x []
  have wd := fun x => word36 t x []
  have d9 : t.op = 10 ∧ t.text = [61] := by simpa using c9
  simp only [d9.1, d9.2] at sp wd
  obtain ⟨H1, i1, i2, i3⟩ := setMark45 true h (by omega)
  refine ⟨?_, H1, ?_, ?_, ?_, ?_, ⟨?_, i2⟩, i3⟩
  rotate_left
  · simp [-getElem?_pos, List.getElem?_cons_zero, sw22, ic22, F22, tkC, sp, wd, c1, c2, c3, c4, c5, c6, c7, c8, d9.1, d9.2, i1]
    rfl
  all_goals simp [Fr22, tkC, d9.1, d9.2]

end
end Go.Proofs.TryL
/- Layout: rule 4, words. -/
set_option linter.unusedSimpArgs false
set_option linter.unusedVariables false
namespace Go.Proofs.TryL
open Go.Proofs.Lz
section

set_option maxHeartbeats 2000000 in
theorem sw_10 {H : WHeap} {p : Nat} {s : St} {f : Flt} (t b : Tok) (h : Rep H p s f) (hl : s.stack.length < 100000000) (c1 : special t [40] = false) (c2 : special t [91] = false) (c3 : special t [123] = false) (c4 : special t [41] = false) (c5 : special t [93] = false) (c6 : special t [125] = false) (c7 : special t [44] = false) (c8 : special t [59] = false) (c9 : (t.op == 10 && t.text == [61]) = false) (c10 : (isW t wCase || isW t wIf) = true) : Sw p t b s f H (some (s.push (pend t.text))) := by
  have sp := fun x => special34 t x []
  have wd := fun x => word36 t x []
  have e9 : (t.op = 10 → ¬ t.text = [61]) := by intro h1 h2; rw [h1, h2] at c9; cases c9
  simp only [wCase, wIf, wOf, wThen, wElse, wIn] at c10
  obtain ⟨H1, i1, i2, i3⟩ := push39 (pend t.text) h (by omega)
  simp only [pend, show Fm.pe.p = 4 from rfl] at i1
  have hop : t.op = 9 := by
    simp only [isW, Bool.or_eq_true, Bool.and_eq_true, beq_iff_eq] at c10
    rcases c10 with c | c <;> exact c.1
  simp only [hop] at sp wd
  cases a1 : isW t [99, 97, 115, 101] with
  | true =>
    refine ⟨?_, H1, ?_, ?_, ?_, ?_, ⟨?_, i2⟩, i3⟩
    rotate_left
    · simp [-getElem?_pos, List.getElem?_cons_zero, sw22, ic22, F22, tkC, sp, wd, c1, c2, c3, c4, c5, c6, c7, c8, hop, a1, i1]
      rfl
    all_goals simp [Fr22, tkC, hop]
  | false =>
    have a2 : isW t [105, 102] = true := by simpa [a1] using c10
    refine ⟨?_, H1, ?_, ?_, ?_, ?_, ⟨?_, i2⟩, i3⟩
    rotate_left
    · simp [-getElem?_pos, List.getElem?_cons_zero, sw22, ic22, F22, tkC, sp, wd, c1, c2, c3, c4, c5, c6, c7, c8, hop, a1, a2, i1]
      rfl
    all_goals simp [Fr22, tkC, hop]

set_option maxHeartbeats 2000000 in
theorem sw_11 {H : WHeap} {p : Nat} {s : St} {f : Flt} (t b : Tok) (h : Rep H p s f) (hl : s.stack.length < 100000000) (hb : s.out.length + s.stack.length < 100000000) (c1 : special t [40] = false) (c2 : special t [91] = false) (c3 : special t [123] = false) (c4 : special t [41] = false) (c5 : special t [93] = false) (c6 : special t [125] = false) (c7 : special t [44] = false) (c8 : special t [59] = false) (c9 : (t.op == 10 && t.text == [61]) = false) (c10 : (isW t wCase || isW t wIf) = false) (c11 : isW t wOf = true) : Sw p t b s f H (ending s wCase false false) := by
  have sp := fun x => special34 t x []
  have wd := fun x => word36 t x []
  have htx := isW_text c11
  have hop : t.op = 9 := by
    have cc := c11
    simp only [isW, Bool.and_eq_true, beq_iff_eq] at cc
    exact cc.1
  simp only [hop] at sp wd
  have e9 : (t.op = 10 → ¬ t.text = [61]) := by intro h1 h2; rw [h1, h2] at c9; cases c9
  simp only [wCase, wIf, wOf, wThen, wElse, wIn] at c10 c11
  have e10 : isW t [99, 97, 115, 101] = false ∧ isW t [105, 102] = false := by simpa using c10
  obtain ⟨H1, i1, i3⟩ := ending46 t wCase h (by omega) (by omega)
  have q1 : (t.text == wIn) = false := by rw [htx]; rfl
  have q2 : (t.text == wThen) = false := by rw [htx]; rfl
  rw [q1, q2] at i1
  simp only [tC, hop] at i1
  cases hcl : ending s wCase false false with
  | none =>
    rw [hcl] at i1
    obtain ⟨i1, i2⟩ := i1
    simp only [wCase] at i1
    refine ⟨?_, H1, ?_, ?_, ?_, ?_, ⟨?_, i2⟩, i3⟩
    rotate_left
    · simp [-getElem?_pos, List.getElem?_cons_zero, sw22, ic22, F22, tkC, sp, wd, c1, c2, c3, c4, c5, c6, c7, c8, e10.1, e10.2, c11, hop, i1]
      rfl
    all_goals simp [Fr22, tkC, hop]
  | some s' =>
    rw [hcl] at i1
    obtain ⟨i1, i2⟩ := i1
    simp only [wCase] at i1
    refine ⟨?_, H1, ?_, ?_, ?_, ?_, ⟨?_, i2⟩, i3⟩
    rotate_left
    · simp [-getElem?_pos, List.getElem?_cons_zero, sw22, ic22, F22, tkC, sp, wd, c1, c2, c3, c4, c5, c6, c7, c8, e10.1, e10.2, c11, hop, i1]
      rfl
    all_goals simp [Fr22, tkC, hop]

set_option maxHeartbeats 2000000 in
theorem sw_12 {H : WHeap} {p : Nat} {s : St} {f : Flt} (t b : Tok) (h : Rep H p s f) (hl : s.stack.length < 100000000) (hb : s.out.length + s.stack.length < 100000000) (c1 : special t [40] = false) (c2 : special t [91] = false) (c3 : special t [123] = false) (c4 : special t [41] = false) (c5 : special t [93] = false) (c6 : special t [125] = false) (c7 : special t [44] = false) (c8 : special t [59] = false) (c9 : (t.op == 10 && t.text == [61]) = false) (c10 : (isW t wCase || isW t wIf) = false) (c11 : isW t wOf = false) (c12 : isW t wThen = true) : Sw p t b s f H (ending s wIf false true) := by
  have sp := fun x => special34 t x []
  have wd := fun x => word36 t x []
  have htx := isW_text c12
  have hop : t.op = 9 := by
    have cc := c12
    simp only [isW, Bool.and_eq_true, beq_iff_eq] at cc
    exact cc.1
  simp only [hop] at sp wd
  have e9 : (t.op = 10 → ¬ t.text = [61]) := by intro h1 h2; rw [h1, h2] at c9; cases c9
  simp only [wCase, wIf, wOf, wThen, wElse, wIn] at c10 c11 c12
  have e10 : isW t [99, 97, 115, 101] = false ∧ isW t [105, 102] = false := by simpa using c10
  obtain ⟨H1, i1, i3⟩ := ending46 t wIf h (by omega) (by omega)
  have q1 : (t.text == wIn) = false := by rw [htx]; rfl
  have q2 : (t.text == wThen) = true := by rw [htx]; rfl
  rw [q1, q2] at i1
  simp only [tC, hop] at i1
  cases hcl : ending s wIf false true with
  | none =>
    rw [hcl] at i1
    obtain ⟨i1, i2⟩ := i1
    simp only [wIf] at i1
    refine ⟨?_, H1, ?_, ?_, ?_, ?_, ⟨?_, i2⟩, i3⟩
    rotate_left
    · simp [-getElem?_pos, List.getElem?_cons_zero, sw22, ic22, F22, tkC, sp, wd, c1, c2, c3, c4, c5, c6, c7, c8, e10.1, e10.2, c11, c12, hop, i1]
      rfl
    all_goals simp [Fr22, tkC, hop]
  | some s' =>
    rw [hcl] at i1
    obtain ⟨i1, i2⟩ := i1
    simp only [wIf] at i1
    refine ⟨?_, H1, ?_, ?_, ?_, ?_, ⟨?_, i2⟩, i3⟩
    rotate_left
    · simp [-getElem?_pos, List.getElem?_cons_zero, sw22, ic22, F22, tkC, sp, wd, c1, c2, c3, c4, c5, c6, c7, c8, e10.1, e10.2, c11, c12, hop, i1]
      rfl
    all_goals simp [Fr22, tkC, hop]

set_option maxHeartbeats 2000000 in
theorem sw_13 {H : WHeap} {p : Nat} {s : St} {f : Flt} (t b : Tok) (h : Rep H p s f) (hl : s.stack.length < 100000000) (hb : s.out.length + s.stack.length < 100000000) (c1 : special t [40] = false) (c2 : special t [91] = false) (c3 : special t [123] = false) (c4 : special t [41] = false) (c5 : special t [93] = false) (c6 : special t [125] = false) (c7 : special t [44] = false) (c8 : special t [59] = false) (c9 : (t.op == 10 && t.text == [61]) = false) (c10 : (isW t wCase || isW t wIf) = false) (c11 : isW t wOf = false) (c12 : isW t wThen = false) (c13 : isW t wElse = true) : Sw p t b s f H (ending s wThen false false) := by
  have sp := fun x => special34 t x []
  have wd := fun x => word36 t x []
  have htx := isW_text c13
  have hop : t.op = 9 := by
    have cc := c13
    simp only [isW, Bool.and_eq_true, beq_iff_eq] at cc
    exact cc.1
  simp only [hop] at sp wd
  have e9 : (t.op = 10 → ¬ t.text = [61]) := by intro h1 h2; rw [h1, h2] at c9; cases c9
  simp only [wCase, wIf, wOf, wThen, wElse, wIn] at c10 c11 c12 c13
  have e10 : isW t [99, 97, 115, 101] = false ∧ isW t [105, 102] = false := by simpa using c10
  obtain ⟨H1, i1, i3⟩ := ending46 t wThen h (by omega) (by omega)
  have q1 : (t.text == wIn) = false := by rw [htx]; rfl
  have q2 : (t.text == wThen) = false := by rw [htx]; rfl
  rw [q1, q2] at i1
  simp only [tC, hop] at i1
  cases hcl : ending s wThen false false with
  | none =>
    rw [hcl] at i1
    obtain ⟨i1, i2⟩ := i1
    simp only [wThen] at i1
    refine ⟨?_, H1, ?_, ?_, ?_, ?_, ⟨?_, i2⟩, i3⟩
    rotate_left
    · simp [-getElem?_pos, List.getElem?_cons_zero, sw22, ic22, F22, tkC, sp, wd, c1, c2, c3, c4, c5, c6, c7, c8, e10.1, e10.2, c11, c12, c13, hop, i1]
      rfl
    all_goals simp [Fr22, tkC, hop]
  | some s' =>
    rw [hcl] at i1
    obtain ⟨i1, i2⟩ := i1
    simp only [wThen] at i1
    refine ⟨?_, H1, ?_, ?_, ?_, ?_, ⟨?_, i2⟩, i3⟩
    rotate_left
    · simp [-getElem?_pos, List.getElem?_cons_zero, sw22, ic22, F22, tkC, sp, wd, c1, c2, c3, c4, c5, c6, c7, c8, e10.1, e10.2, c11, c12, c13, hop, i1]
      rfl
    all_goals simp [Fr22, tkC, hop]

set_option maxHeartbeats 2000000 in
theorem sw_14 {H : WHeap} {p : Nat} {s : St} {f : Flt} (t b : Tok) (h : Rep H p s f) (hl : s.stack.length < 100000000) (hb : s.out.length + s.stack.length < 100000000) (c1 : special t [40] = false) (c2 : special t [91] = false) (c3 : special t [123] = false) (c4 : special t [41] = false) (c5 : special t [93] = false) (c6 : special t [125] = false) (c7 : special t [44] = false) (c8 : special t [59] = false) (c9 : (t.op == 10 && t.text == [61]) = false) (c10 : (isW t wCase || isW t wIf) = false) (c11 : isW t wOf = false) (c12 : isW t wThen = false) (c13 : isW t wElse = false) (c14 : isW t wIn = true) : Sw p t b s f H (ending s wLet true false) := by
  have sp := fun x => special34 t x []
  have wd := fun x => word36 t x []
  have htx := isW_text c14
  have hop : t.op = 9 := by
    have cc := c14
    simp only [isW, Bool.and_eq_true, beq_iff_eq] at cc
    exact cc.1
  simp only [hop] at sp wd
  have e9 : (t.op = 10 → ¬ t.text = [61]) := by intro h1 h2; rw [h1, h2] at c9; cases c9
  simp only [wCase, wIf, wOf, wThen, wElse, wIn] at c10 c11 c12 c13 c14
  have e10 : isW t [99, 97, 115, 101] = false ∧ isW t [105, 102] = false := by simpa using c10
  obtain ⟨H1, i1, i3⟩ := ending46 t wLet h (by omega) (by omega)
  have q1 : (t.text == wIn) = true := by rw [htx]; rfl
  have q2 : (t.text == wThen) = false := by rw [htx]; rfl
  rw [q1, q2] at i1
  simp only [tC, hop] at i1
  cases hcl : ending s wLet true false with
  | none =>
    rw [hcl] at i1
    obtain ⟨i1, i2⟩ := i1
    simp only [wLet] at i1
    refine ⟨?_, H1, ?_, ?_, ?_, ?_, ⟨?_, i2⟩, i3⟩
    rotate_left
    · simp [-getElem?_pos, List.getElem?_cons_zero, sw22, ic22, F22, tkC, sp, wd, c1, c2, c3, c4, c5, c6, c7, c8, e10.1, e10.2, c11, c12, c13, c14, hop, i1]
      rfl
    all_goals simp [Fr22, tkC, hop]
  | some s' =>
    rw [hcl] at i1
    obtain ⟨i1, i2⟩ := i1
    simp only [wLet] at i1
    refine ⟨?_, H1, ?_, ?_, ?_, ?_, ⟨?_, i2⟩, i3⟩
    rotate_left
    · simp [-getElem?_pos, List.getElem?_cons_zero, sw22, ic22, F22, tkC, sp, wd, c1, c2, c3, c4, c5, c6, c7, c8, e10.1, e10.2, c11, c12, c13, c14, hop, i1]
      rfl
    all_goals simp [Fr22, tkC, hop]

set_option maxHeartbeats 2000000 in
theorem sw_15 {H : WHeap} {p : Nat} {s : St} {f : Flt} (t b : Tok) (h : Rep H p s f) (c1 : special t [40] = false) (c2 : special t [91] = false) (c3 : special t [123] = false) (c4 : special t [41] = false) (c5 : special t [93] = false) (c6 : special t [125] = false) (c7 : special t [44] = false) (c8 : special t [59] = false) (c9 : (t.op == 10 && t.text == [61]) = false) (c10 : (isW t wCase || isW t wIf) = false) (c11 : isW t wOf = false) (c12 : isW t wThen = false) (c13 : isW t wElse = false) (c14 : isW t wIn = false) : Sw p t b s f H (some s) := by
  have sp := fun x => special34 t x []
  have wd := fun x => word36 t x []
  have e9 : (t.op = 10 → ¬ t.text = [61]) := by intro h1 h2; rw [h1, h2] at c9; cases c9
  simp only [wCase, wIf, wOf, wThen, wElse, wIn] at c10 c11 c12 c13 c14
  have e10 : isW t [99, 97, 115, 101] = false ∧ isW t [105, 102] = false := by simpa using c10
  by_cases hop : t.op = 10
  · have h2 : ¬ t.text = [61] := e9 hop
    simp only [hop] at sp wd
    refine ⟨?_, H, ?_, ?_, ?_, ?_, ⟨?_, h⟩, Kp.refl _ _⟩
    rotate_left
    · simp [-getElem?_pos, List.getElem?_cons_zero, sw22, ic22, F22, tkC, sp, wd, c1, c2, c3, c4, c5, c6, c7, c8, e10.1, e10.2, c11, c12, c13, c14, hop, h2]
      rfl
    all_goals simp [Fr22, tkC, hop]
  · refine ⟨?_, H, ?_, ?_, ?_, ?_, ⟨?_, h⟩, Kp.refl _ _⟩
    rotate_left
    · simp [-getElem?_pos, List.getElem?_cons_zero, sw22, ic22, F22, tkC, sp, wd, c1, c2, c3, c4, c5, c6, c7, c8, e10.1, e10.2, c11, c12, c13, c14, hop]
      rfl
    all_goals simp [Fr22, tkC]

set_option maxHeartbeats 2000000 in
theorem sw_all {H : WHeap} {p : Nat} {s : St} {f : Flt} (t b : Tok) (h : Rep H p s f) (hl : s.stack.length < 100000000) (hb : s.out.length + s.stack.length < 100000000) : Sw p t b s f H (tokenR s t (bword b)) := by
  unfold tokenR
  cases c1 : special t [40] with
  | true => (simp only [Bool.false_eq_true, if_false, if_true]; exact sw_1 t b h hl c1)
  | false =>
  cases c2 : special t [91] with
  | true => (simp only [Bool.false_eq_true, if_false, if_true]; exact sw_2 t b h hl c1 c2)
  | false =>
  cases c3 : special t [123] with
  | true => (simp only [Bool.false_eq_true, if_false, if_true]; exact sw_3 t b h hl c1 c2 c3)
  | false =>
  cases c4 : special t [41] with
  | true => (simp only [Bool.false_eq_true, if_false, if_true]; exact sw_4 t b h hl hb c1 c2 c3 c4)
  | false =>
  cases c5 : special t [93] with
  | true => (simp only [Bool.false_eq_true, if_false, if_true]; exact sw_5 t b h hl hb c1 c2 c3 c4 c5)
  | false =>
  cases c6 : special t [125] with
  | true => (simp only [Bool.false_eq_true, if_false, if_true]; exact sw_6 t b h hl hb c1 c2 c3 c4 c5 c6)
  | false =>
  cases c7 : special t [44] with
  | true => (simp only [Bool.false_eq_true, if_false, if_true]; exact sw_7 t b h hl hb c1 c2 c3 c4 c5 c6 c7)
  | false =>
  cases c8 : special t [59] with
  | true => (simp only [Bool.false_eq_true, if_false, if_true]; exact sw_8 t b h hl hb c1 c2 c3 c4 c5 c6 c7 c8)
  | false =>
  cases c9 : (t.op == 10 && t.text == [61]) with
  | true => (simp only [Bool.false_eq_true, if_false, if_true]; exact sw_9 t b h hl hb c1 c2 c3 c4 c5 c6 c7 c8 c9)
  | false =>
  cases c10 : (isW t wCase || isW t wIf) with
  | true => (simp only [Bool.false_eq_true, if_false, if_true]; exact sw_10 t b h hl c1 c2 c3 c4 c5 c6 c7 c8 c9 c10)
  | false =>
  cases c11 : isW t wOf with
  | true => (simp only [Bool.false_eq_true, if_false, if_true]; exact sw_11 t b h hl hb c1 c2 c3 c4 c5 c6 c7 c8 c9 c10 c11)
  | false =>
  cases c12 : isW t wThen with
  | true => (simp only [Bool.false_eq_true, if_false, if_true]; exact sw_12 t b h hl hb c1 c2 c3 c4 c5 c6 c7 c8 c9 c10 c11 c12)
  | false =>
  cases c13 : isW t wElse with
  | true => (simp only [Bool.false_eq_true, if_false, if_true]; exact sw_13 t b h hl hb c1 c2 c3 c4 c5 c6 c7 c8 c9 c10 c11 c12 c13)
  | false =>
  cases c14 : isW t wIn with
  | true => (simp only [Bool.false_eq_true, if_false, if_true]; exact sw_14 t b h hl hb c1 c2 c3 c4 c5 c6 c7 c8 c9 c10 c11 c12 c13 c14)
  | false =>
  simp only [Bool.false_eq_true, if_false]
  exact sw_15 t b h c1 c2 c3 c4 c5 c6 c7 c8 c9 c10 c11 c12 c13 c14
end
end Go.Proofs.TryL
/- Layout: the tokens' end, and Insert's small parts. -/
set_option linter.unusedSimpArgs false
set_option linter.unusedVariables false
namespace Go.Proofs.TryL
open Go.Proofs.Lz

set_option maxHeartbeats 2000000 in
theorem tail22 {H : WHeap} {p : Nat} {s : St} {f : Flt} (t : Tok) (ok : Bool) (h : Rep H p s f) (hb : s.out.length < 1000000000) {fr : WFr} (e0 : fr.env 0 = .ptr p 0) (e4 : fr.env 4 = .lbox (some 7) (.c (tkC t))) (e7 : fr.env 7 = .c (.bool ok)) (eF : Fr22 fr) :
    ∃ fr' H', wC Vv (wv Vv) witW tl22 fr H = some (.ret, fr', H') ∧ fr'.env 6 = .c (.bool ok) ∧ Rep H' p (s.add t) f ∧ Kp p H H' := by
  obtain ⟨vo, vs, hp, ho, hs⟩ := h
  have hg := set_get hp
  obtain ⟨g108, g109, g110, g111, g112, g113, g114, g115, g116, g117, g118, g119, g120, g121, g122, g123, g124, g125, g126, g127, g128⟩ := eF
  have ob := opens42 t []
  simp only [tkC] at e4
  have b1 : s.out.length + 1 ≤ 140737488355328 := by omega
  have b2 : (s.out.length + 1) * 72 ≤ 140737488355328 := by omega
  cases hob : opens t with
  | true =>
    rcases ho with ⟨rfl, ho⟩ | rfl
    · have ho' : s.out = [] := by simpa using ho
      refine ⟨?_, _, ?_, ?_, ⟨.own true 33 (some 7) [tokC t], vs, set_get hp _, .inr ?_, by simpa [St.add, hob] using hs⟩, Kp.set _ _ _⟩
      rotate_left
      · simp [-getElem?_pos, List.getElem?_cons_zero, tl22, ic22, e0, e4, e7, g108, g109, g110, g111, g112, g113, g114, g115, g116, g117, g118, g119, g120, g121, g122, g123, g124, g125, g126, g127, g128, ob, hob, hp, hg, lim, St.add]
        rfl
      · simp
      · simp [St.add, hob, ho']
    · refine ⟨?_, _, ?_, ?_, ⟨.own true 33 (some 7) ((s.add t).out.map tokC), vs, set_get hp _, .inr rfl, by simpa [St.add, hob] using hs⟩, Kp.set _ _ _⟩
      rotate_left
      · simp [-getElem?_pos, List.getElem?_cons_zero, tl22, ic22, e0, e4, e7, g108, g109, g110, g111, g112, g113, g114, g115, g116, g117, g118, g119, g120, g121, g122, g123, g124, g125, g126, g127, g128, ob, hob, hp, hg, lim, St.add, b1, b2]
        rfl
      · simp
  | false =>
    rcases ho with ⟨rfl, ho⟩ | rfl
    · have ho' : s.out = [] := by simpa using ho
      refine ⟨?_, _, ?_, ?_, ⟨.own true 33 (some 7) [tokC t], vs, set_get hp _, .inr ?_, by simpa [St.add, hob] using hs⟩, Kp.set _ _ _⟩
      rotate_left
      · simp [-getElem?_pos, List.getElem?_cons_zero, tl22, ic22, e0, e4, e7, g108, g109, g110, g111, g112, g113, g114, g115, g116, g117, g118, g119, g120, g121, g122, g123, g124, g125, g126, g127, g128, ob, hob, hp, hg, lim, St.add]
        rfl
      · simp
      · simp [St.add, hob, ho']
    · refine ⟨?_, _, ?_, ?_, ⟨.own true 33 (some 7) ((s.add t).out.map tokC), vs, set_get hp _, .inr rfl, by simpa [St.add, hob] using hs⟩, Kp.set _ _ _⟩
      rotate_left
      · simp [-getElem?_pos, List.getElem?_cons_zero, tl22, ic22, e0, e4, e7, g108, g109, g110, g111, g112, g113, g114, g115, g116, g117, g118, g119, g120, g121, g122, g123, g124, g125, g126, g127, g128, ob, hob, hp, hg, lim, St.add, b1, b2]
        rfl
      · simp
def ha22 : ICode := match ic22.body with
  | .seq a _ => a
  | _ => .skip
def hb22 : ICode := match ic22.body with
  | .seq _ (.seq b _) => b
  | _ => .skip
theorem ic22_eq : ic22 = { body := .seq ha22 (.seq hb22 (.seq sw22 tl22)), res := [.tmp 6] } := rfl
theorem head22 (p : Nat) (t bt : Tok) (H : WHeap) : wC Vv (wv Vv) witW (.seq ha22 hb22) { env := wassoc (wbinds 0 [.ptr p 0, .c (tkC t), .c (tkC bt)]), al := noAl } H = some (.nrm, F22 p t bt, H) := by
  simp [ha22, hb22, ic22, tkC, F22]
  try refine ⟨?_, ?_⟩
  all_goals try funext x
  all_goals try rfl
  by_cases h0 : x = 0
  · subst h0; simp
  by_cases h1 : x = 1
  · subst h1; simp
  by_cases h2 : x = 2
  · subst h2; simp
  by_cases h4 : x = 4
  · subst h4; simp
  by_cases h5 : x = 5
  · subst h5; simp
  by_cases h6 : x = 6
  · subst h6; simp
  by_cases h7 : x = 7
  · subst h7; simp
  simp [h0, h1, h2, h4, h5, h6, h7]
  by_cases h7 : x = 7
  · subst h7; simp [noAl]
  simp [noAl, h7]
theorem join22 {p : Nat} {t bt : Tok} {H H1 H2 : WHeap} {fr1 fr2 : WFr} {ok : Bool} (w1 : wC Vv (wv Vv) witW sw22 (F22 p t bt) H = some (.nrm, fr1, H1)) (w2 : wC Vv (wv Vv) witW tl22 fr1 H1 = some (.ret, fr2, H2)) (e6 : fr2.env 6 = .c (.bool ok)) :
    wv Vv 22 [.ptr p 0, .c (tkC t), .c (tkC bt)] H = some (.c (.bool ok), H2) := by
  have hh := head22 p t bt H
  rw [wv_eq, wFn, vfn22, ic22_eq]
  have e : wC Vv (wv Vv) witW (.seq ha22 (.seq hb22 (.seq sw22 tl22))) { env := wassoc (wbinds 0 [.ptr p 0, .c (tkC t), .c (tkC bt)]), al := noAl } H = some (.ret, fr2, H2) := by
    rw [w_seq] at hh ⊢
    cases h1 : wC Vv (wv Vv) witW ha22 { env := wassoc (wbinds 0 [.ptr p 0, .c (tkC t), .c (tkC bt)]), al := noAl } H with
    | none => rw [h1] at hh; cases hh
    | some r =>
      obtain ⟨sg, fr, H'⟩ := r
      rw [h1] at hh
      cases sg <;> simp only at hh <;> first | (cases hh; done) | skip
      simp only [w_seq, hh, w1, w2]
  simp only [e]
  simp [e6]
/-- Rule 4 leaves a fault, or the machine of the specification. -/
theorem token22 {H : WHeap} {p : Nat} {s : St} {f : Flt} (t b : Tok) (h : Rep H p s f) (hl : s.stack.length < 100000000) (hb : s.out.length + s.stack.length < 100000000) (hr : ∀ s', tokenR s t (bword b) = some s' → s'.out.length < 1000000000) :
    ∃ H', (match token s t (bword b) with
      | none => wv Vv 22 [.ptr p 0, .c (tkC t), .c (tkC b)] H = some (.c (.bool false), H') ∧ ∃ s', Rep H' p s' (flt t)
      | some s' => wv Vv 22 [.ptr p 0, .c (tkC t), .c (tkC b)] H = some (.c (.bool true), H') ∧ Rep H' p s' f) ∧ Kp p H H' := by
  obtain ⟨fr1, H1, w1, e0, e4, eF, hr1, k1⟩ := sw_all t b h hl hb
  rw [token_eq]
  cases hR : tokenR s t (bword b) with
  | none =>
    rw [hR] at hr1
    obtain ⟨e7, r1⟩ := hr1
    obtain ⟨fr2, H2, w2, e6, r2, k2⟩ := tail22 t false r1 (by omega) e0 e4 e7 eF
    exact ⟨H2, ⟨join22 w1 w2 e6, _, r2⟩, k1.trans k2⟩
  | some s' =>
    rw [hR] at hr1
    obtain ⟨e7, r1⟩ := hr1
    obtain ⟨fr2, H2, w2, e6, r2, k2⟩ := tail22 t true r1 (hr s' hR) e0 e4 e7 eF
    exact ⟨H2, ⟨join22 w1 w2 e6, r2⟩, k1.trans k2⟩
end Go.Proofs.TryL
