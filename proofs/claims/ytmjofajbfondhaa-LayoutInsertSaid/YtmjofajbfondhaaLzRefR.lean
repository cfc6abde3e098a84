/- Layout, the reference's Insert: small functions. -/
import Derived.Test.YtmjofajbfondhaaLzV03
import Derived.Test.YtmjofajbfondhaaLzLayR
import Derived.Test.YtmjofajbfondhaaLzLayS
set_option linter.unusedSimpArgs false
set_option linter.unusedVariables false
namespace Go.Proofs.TryL
open Go.Proofs.Lz

def Fm.r : Fm → Int
  | .im => 1
  | .ex => 2
  | .pa => 3
  | .br => 4
  | .pe => 5
def elR (e : El) : CV := .agg [.int .i64 e.form.r, .int .i64 e.col, .str e.word, .bool e.mark]
@[simp] theorem elR_eq (e : El) : elR e = .agg [.int .i64 e.form.r, .int .i64 e.col, .str e.word, .bool e.mark] := rfl
@[simp] theorem r1 (f : Fm) : (f.r = 1) = (f = .im) := by cases f <;> simp [Fm.r]
@[simp] theorem r2 (f : Fm) : (f.r = 2) = (f = .ex) := by cases f <;> simp [Fm.r]
@[simp] theorem r3 (f : Fm) : (f.r = 3) = (f = .pa) := by cases f <;> simp [Fm.r]
@[simp] theorem r4 (f : Fm) : (f.r = 4) = (f = .br) := by cases f <;> simp [Fm.r]
@[simp] theorem r5 (f : Fm) : (f.r = 5) = (f = .pe) := by cases f <;> simp [Fm.r]
/-- The line of the last token, and whether there was none. -/
structure Ln where
  line : Int
  first : Bool
def RepR (H : WHeap) (p : Nat) (s : St) (f : Flt) (n : Ln) : Prop :=
  ∃ vs vo, H[p]? = some (.var (some 10) [vs, vo, .c (.bool s.expect), .c (.str s.word), .c (.int .i64 n.line), .c (.bool n.first), .c (.int .i64 f.code), .c (.str f.name), .c (.int .i64 f.line), .c (.int .i64 f.col)]) ∧ SL vs 57 4 (s.stack.map elR) ∧ SL vo 33 7 (s.out.map tokC)
theorem special35 (t : Tok) (s : List UInt8) (H : WHeap) : wv Vv 35 [.c (.agg [.int .i64 t.op, .str t.mod, .str t.text, .int .i64 t.n, .bool t.auto, .int .i64 t.line, .int .i64 t.col]), .c (.str s)] H = some (.c (.bool (special t s)), H) := by
  rw [wv_eq, wFn, vfn35]
  by_cases h : t.op = 8 <;> simp [ic35, special, h]
theorem word55 (t : Tok) (s : List UInt8) (H : WHeap) : wv Vv 55 [.c (.agg [.int .i64 t.op, .str t.mod, .str t.text, .int .i64 t.n, .bool t.auto, .int .i64 t.line, .int .i64 t.col]), .c (.str s)] H = some (.c (.bool (isW t s)), H) := by
  rw [wv_eq, wFn, vfn55]
  by_cases h : t.op = 9 <;> simp [ic55, isW, h]
theorem insert31 {H : WHeap} {p : Nat} {s : St} {f : Flt} {n : Ln} (x : List UInt8) (h : RepR H p s f n) (hb : s.out.length < 1000000000) :
    ∃ H', wv Vv 31 [.ptr p 0, .c (.str x)] H = some (.tup [], H') ∧ RepR H' p (s.ins x) f n ∧ Kp p H H' := by
  obtain ⟨vs, vo, hp, hs, ho⟩ := h
  have hg := set_get hp
  rcases ho with ⟨rfl, ho⟩ | rfl
  · have ho' : s.out = [] := by simpa using ho
    refine ⟨_, ?_, ⟨vs, .own true 33 (some 7) [tokC (insT x)], set_get hp _, hs, .inr ?_⟩, Kp.set _ _ _⟩
    · rw [wv_eq, wFn, vfn31]
      simp [ic31, hp, lim, insT, wrap_id, St.ins]
    · simp [St.ins, ho']
  · refine ⟨_, ?_, ⟨vs, .own true 33 (some 7) ((s.ins x).out.map tokC), set_get hp _, hs, .inr rfl⟩, Kp.set _ _ _⟩
    rw [wv_eq, wFn, vfn31]
    simp [ic31, hp, hg, lim, St.ins, insT, wrap_id, show s.out.length + 1 ≤ 140737488355328 by omega, show (s.out.length + 1) * 72 ≤ 140737488355328 by omega]
theorem push57 {H : WHeap} {p : Nat} {s : St} {f : Flt} {n : Ln} (e : El) (h : RepR H p s f n) (hb : s.stack.length < 1000000000) :
    ∃ H', wv Vv 57 [.ptr p 0, .c (.agg [.int .i64 e.form.r, .int .i64 e.col, .str e.word, .bool e.mark])] H = some (.tup [], H') ∧ RepR H' p (s.push e) f n ∧ Kp p H H' := by
  obtain ⟨vs, vo, hp, hs, ho⟩ := h
  have hg := set_get hp
  rcases hs with ⟨rfl, hs⟩ | rfl
  · have hs' : s.stack = [] := by simpa using hs
    refine ⟨_, ?_, ⟨.own true 57 (some 4) [elR e], vo, set_get hp _, .inr ?_, ho⟩, Kp.set _ _ _⟩
    · rw [wv_eq, wFn, vfn57]
      simp [ic57, hp, lim, St.push]
    · simp [St.push, hs']
  · refine ⟨_, ?_, ⟨.own true 57 (some 4) ((s.push e).stack.map elR), vo, set_get hp _, .inr rfl, ho⟩, Kp.set _ _ _⟩
    rw [wv_eq, wFn, vfn57]
    simp [ic57, hp, hg, lim, St.push, show s.stack.length + 1 ≤ 140737488355328 by omega, show (s.stack.length + 1) * 40 ≤ 140737488355328 by omega]
theorem fails32 {H : WHeap} {p : Nat} {s : St} {f : Flt} {n : Ln} (t : Tok) (h : RepR H p s f n) :
    ∃ H', wv Vv 32 [.ptr p 0, .c (.agg [.int .i64 t.op, .str t.mod, .str t.text, .int .i64 t.n, .bool t.auto, .int .i64 t.line, .int .i64 t.col])] H = some (.tup [], H') ∧ RepR H' p s (flt t) n ∧ Kp p H H' := by
  obtain ⟨vs, vo, hp, hs, ho⟩ := h
  have hg := set_get hp
  refine ⟨_, ?_, ⟨vs, vo, set_get hp _, hs, ho⟩, Kp.set _ _ _⟩
  rw [wv_eq, wFn, vfn32]
  simp [ic32, hp, flt]
theorem wait58 {H : WHeap} {p : Nat} {s : St} {f : Flt} {n : Ln} (w : List UInt8) (h : RepR H p s f n) (hb : s.stack.length < 1000000000) :
    ∃ H', wv Vv 58 [.ptr p 0, .c (.str w)] H = some (.tup [], H') ∧ RepR H' p (s.wait w) f n ∧ Kp p H H' := by
  by_cases hw : w = wLet
  · subst hw
    obtain ⟨H1, i1, i2, i3⟩ := push57 (pend wLet) h hb
    simp only [pend, wLet, show Fm.pe.r = 5 from rfl] at i1
    refine ⟨H1, ?_, by simpa [St.wait] using i2, i3⟩
    rw [wv_eq, wFn, vfn58]
    simp [ic58, wLet, i1]
  · refine ⟨H, ?_, by simpa [St.wait, hw] using h, Kp.refl _ _⟩
    rw [wv_eq, wFn, vfn58]
    have hw' : ¬ w = [108, 101, 116] := hw
    simp [ic58, hw']
/-! ### looking for the topmost element -/
def SR (v : CV) (st : List El) : Prop := (v = .frz none [] ∧ st = []) ∨ v = .frz (some 4) (st.map elR)
theorem SR.len {v : CV} {st : List El} (h : SR v st) : ∃ ek xs, v = .frz ek xs ∧ xs.length = st.length := by
  rcases h with ⟨rfl, rfl⟩ | rfl
  · exact ⟨_, _, rfl, rfl⟩
  · exact ⟨_, _, rfl, by simp⟩
def K56 (sc : CV) (r : List CV) (i : Int) : WFr := { env := wassoc [(0, .c (.fptr (some 10) (.agg (sc :: r)) 0)), (3, .c (.int .i64 i))], al := noAl }
theorem loop56 (sc : CV) (r : List CV) (st : List El) (hs : SR sc st) (hl : st.length < 1000000000) (H : WHeap) :
    ∀ k, k ≤ st.length → ∀ fr, wkeep [0, 3] fr = K56 sc r ((k : Int) - 1) →
      ∃ fr', wC Vv (wv Vv) witW (.loop [0, 3] lp56_1) fr H = some (.exit 0, fr', H) ∧ fr'.env 3 = .c (.int .i64 (toI (lastN isBlock st k))) ∧ fr'.env 2 = .undef ∧ fr'.env 36 = .undef := by
  intro k
  induction k with
  | zero =>
    intro _ fr hk
    refine ⟨?_, ?_, ?_, ?_, ?_⟩
    rotate_left
    · rw [w_loop, witW_eq, hk]
      simp [lp56_1, K56]
      rfl
    · simp [K56, lastN, toI]
    · simp [K56]
    · simp [K56]
  | succ k ih =>
    intro hk fr hkeep
    have hlt : k < st.length := by omega
    have hsc : sc = .frz (some 4) (st.map elR) := by
      rcases hs with ⟨_, h⟩ | h
      · rw [h] at hlt; cases hlt
      · exact h
    have e1 : ((k + 1 : Nat) : Int) - 1 = k := by omega
    have w1 : IntKind.i64.wrap ((k : Int) - 1) = (k : Int) - 1 := wrap_id (by omega) (by omega)
    rw [e1] at hkeep
    have hget : st[k]? = some st[k] := by simp [hlt]
    have hx : (st.map elR)[k]? = some (elR st[k]) := by simp [hlt]
    have c1 : (k : Int) < st.length := by omega
    have n1 : (0 : Int) ≤ k := by omega
    simp only [lastN, hget]
    generalize hE : st[k] = e at hx hget
    cases hf : e.form
    · have hg : isBlock e = true := by simp [isBlock, hf]
      rw [if_pos hg]
      refine ⟨?_, ?_, ?_, ?_, ?_⟩
      rotate_left
      · rw [w_loop, witW_eq, hkeep]
        simp [-getElem?_pos, List.getElem?_cons_zero, lp56_1, K56, hsc, hlt, hx, c1, n1, hf]
        rfl
      · simp [K56, toI]
      · simp [K56]
      · simp [K56]
    · have hg : isBlock e = true := by simp [isBlock, hf]
      rw [if_pos hg]
      refine ⟨?_, ?_, ?_, ?_, ?_⟩
      rotate_left
      · rw [w_loop, witW_eq, hkeep]
        simp [-getElem?_pos, List.getElem?_cons_zero, lp56_1, K56, hsc, hlt, hx, c1, n1, hf]
        rfl
      · simp [K56, toI]
      · simp [K56]
      · simp [K56]
    · have hg : isBlock e = false := by simp [isBlock, hf]
      obtain ⟨fr1, h1, h2⟩ : ∃ fr1, wC Vv (wv Vv) witW lp56_1 (K56 sc r k) H = some (.nrm, fr1, H) ∧ wkeep [0, 3] fr1 = K56 sc r ((k : Int) - 1) := by
        refine ⟨?_, ?_, ?_⟩
        rotate_left
        · simp [-getElem?_pos, List.getElem?_cons_zero, lp56_1, K56, hsc, hlt, hx, c1, n1, hf, w1]
          rfl
        · simp [K56, hsc, w1]
      obtain ⟨fr', h3⟩ := ih (by omega) fr1 h2
      refine ⟨fr', ?_⟩
      have e' : wC Vv (wv Vv) witW (.loop [0, 3] lp56_1) fr H = wC Vv (wv Vv) witW (.loop [0, 3] lp56_1) fr1 H := by
        rw [w_loop, witW_eq, hkeep, h1]; rfl
      rw [e', hg]
      exact h3
    · have hg : isBlock e = false := by simp [isBlock, hf]
      obtain ⟨fr1, h1, h2⟩ : ∃ fr1, wC Vv (wv Vv) witW lp56_1 (K56 sc r k) H = some (.nrm, fr1, H) ∧ wkeep [0, 3] fr1 = K56 sc r ((k : Int) - 1) := by
        refine ⟨?_, ?_, ?_⟩
        rotate_left
        · simp [-getElem?_pos, List.getElem?_cons_zero, lp56_1, K56, hsc, hlt, hx, c1, n1, hf, w1]
          rfl
        · simp [K56, hsc, w1]
      obtain ⟨fr', h3⟩ := ih (by omega) fr1 h2
      refine ⟨fr', ?_⟩
      have e' : wC Vv (wv Vv) witW (.loop [0, 3] lp56_1) fr H = wC Vv (wv Vv) witW (.loop [0, 3] lp56_1) fr1 H := by
        rw [w_loop, witW_eq, hkeep, h1]; rfl
      rw [e', hg]
      exact h3
    · have hg : isBlock e = false := by simp [isBlock, hf]
      obtain ⟨fr1, h1, h2⟩ : ∃ fr1, wC Vv (wv Vv) witW lp56_1 (K56 sc r k) H = some (.nrm, fr1, H) ∧ wkeep [0, 3] fr1 = K56 sc r ((k : Int) - 1) := by
        refine ⟨?_, ?_, ?_⟩
        rotate_left
        · simp [-getElem?_pos, List.getElem?_cons_zero, lp56_1, K56, hsc, hlt, hx, c1, n1, hf, w1]
          rfl
        · simp [K56, hsc, w1]
      obtain ⟨fr', h3⟩ := ih (by omega) fr1 h2
      refine ⟨fr', ?_⟩
      have e' : wC Vv (wv Vv) witW (.loop [0, 3] lp56_1) fr H = wC Vv (wv Vv) witW (.loop [0, 3] lp56_1) fr1 H := by
        rw [w_loop, witW_eq, hkeep, h1]; rfl
      rw [e', hg]
      exact h3
theorem block56 (sc : CV) (r : List CV) (st : List El) (hs : SR sc st) (hl : st.length < 1000000000) (H : WHeap) :
    wv Vv 56 [.c (.fptr (some 10) (.agg (sc :: r)) 0)] H = some (.c (.int .i64 (toI (last isBlock st))), H) := by
  obtain ⟨ek, xs, h1, h2⟩ := hs.len
  have w1 : IntKind.i64.wrap ((st.length : Int) - 1) = (st.length : Int) - 1 := wrap_id (by omega) (by omega)
  rw [wv_eq, wFn, vfn56]
  simp [ic56, h1, h2, w1]
  generalize hX : ({ env := _, al := _ } : WFr) = X
  obtain ⟨fr', g1, g2, g3, g4⟩ := loop56 sc r st hs hl H st.length (Nat.le_refl _) X (by subst hX; simp [K56, h1])
  rw [g1]
  simp [g2, g3, g4, last]
theorem loop60 (sc : CV) (r : List CV) (st : List El) (hs : SR sc st) (hl : st.length < 1000000000) (H : WHeap) :
    ∀ k, k ≤ st.length → ∀ fr, wkeep [0, 3] fr = K56 sc r ((k : Int) - 1) →
      ∃ fr', wC Vv (wv Vv) witW (.loop [0, 3] lp60_1) fr H = some (.exit 0, fr', H) ∧ fr'.env 3 = .c (.int .i64 (toI (lastN isCtx st k))) ∧ fr'.env 2 = .undef ∧ fr'.env 25 = .undef := by
  intro k
  induction k with
  | zero =>
    intro _ fr hk
    refine ⟨?_, ?_, ?_, ?_, ?_⟩
    rotate_left
    · rw [w_loop, witW_eq, hk]
      simp [lp60_1, K56]
      rfl
    · simp [K56, lastN, toI]
    · simp [K56]
    · simp [K56]
  | succ k ih =>
    intro hk fr hkeep
    have hlt : k < st.length := by omega
    have hsc : sc = .frz (some 4) (st.map elR) := by
      rcases hs with ⟨_, h⟩ | h
      · rw [h] at hlt; cases hlt
      · exact h
    have e1 : ((k + 1 : Nat) : Int) - 1 = k := by omega
    have w1 : IntKind.i64.wrap ((k : Int) - 1) = (k : Int) - 1 := wrap_id (by omega) (by omega)
    rw [e1] at hkeep
    have hget : st[k]? = some st[k] := by simp [hlt]
    have hx : (st.map elR)[k]? = some (elR st[k]) := by simp [hlt]
    have c1 : (k : Int) < st.length := by omega
    have n1 : (0 : Int) ≤ k := by omega
    simp only [lastN, hget]
    generalize hE : st[k] = e at hx hget
    cases hf : e.form
    · have hg : isCtx e = true := by simp [isCtx, hf]
      rw [if_pos hg]
      refine ⟨?_, ?_, ?_, ?_, ?_⟩
      rotate_left
      · rw [w_loop, witW_eq, hkeep]
        simp [-getElem?_pos, List.getElem?_cons_zero, lp60_1, K56, hsc, hlt, hx, c1, n1, hf]
        rfl
      · simp [K56, toI]
      · simp [K56]
      · simp [K56]
    · have hg : isCtx e = true := by simp [isCtx, hf]
      rw [if_pos hg]
      refine ⟨?_, ?_, ?_, ?_, ?_⟩
      rotate_left
      · rw [w_loop, witW_eq, hkeep]
        simp [-getElem?_pos, List.getElem?_cons_zero, lp60_1, K56, hsc, hlt, hx, c1, n1, hf]
        rfl
      · simp [K56, toI]
      · simp [K56]
      · simp [K56]
    · have hg : isCtx e = true := by simp [isCtx, hf]
      rw [if_pos hg]
      refine ⟨?_, ?_, ?_, ?_, ?_⟩
      rotate_left
      · rw [w_loop, witW_eq, hkeep]
        simp [-getElem?_pos, List.getElem?_cons_zero, lp60_1, K56, hsc, hlt, hx, c1, n1, hf]
        rfl
      · simp [K56, toI]
      · simp [K56]
      · simp [K56]
    · have hg : isCtx e = true := by simp [isCtx, hf]
      rw [if_pos hg]
      refine ⟨?_, ?_, ?_, ?_, ?_⟩
      rotate_left
      · rw [w_loop, witW_eq, hkeep]
        simp [-getElem?_pos, List.getElem?_cons_zero, lp60_1, K56, hsc, hlt, hx, c1, n1, hf]
        rfl
      · simp [K56, toI]
      · simp [K56]
      · simp [K56]
    · have hg : isCtx e = false := by simp [isCtx, hf]
      obtain ⟨fr1, h1, h2⟩ : ∃ fr1, wC Vv (wv Vv) witW lp60_1 (K56 sc r k) H = some (.nrm, fr1, H) ∧ wkeep [0, 3] fr1 = K56 sc r ((k : Int) - 1) := by
        refine ⟨?_, ?_, ?_⟩
        rotate_left
        · simp [-getElem?_pos, List.getElem?_cons_zero, lp60_1, K56, hsc, hlt, hx, c1, n1, hf, w1]
          rfl
        · simp [K56, hsc, w1]
      obtain ⟨fr', h3⟩ := ih (by omega) fr1 h2
      refine ⟨fr', ?_⟩
      have e' : wC Vv (wv Vv) witW (.loop [0, 3] lp60_1) fr H = wC Vv (wv Vv) witW (.loop [0, 3] lp60_1) fr1 H := by
        rw [w_loop, witW_eq, hkeep, h1]; rfl
      rw [e', hg]
      exact h3
theorem context60 (sc : CV) (r : List CV) (st : List El) (hs : SR sc st) (hl : st.length < 1000000000) (H : WHeap) :
    wv Vv 60 [.c (.fptr (some 10) (.agg (sc :: r)) 0)] H = some (.c (.int .i64 (toI (last isCtx st))), H) := by
  obtain ⟨ek, xs, h1, h2⟩ := hs.len
  have w1 : IntKind.i64.wrap ((st.length : Int) - 1) = (st.length : Int) - 1 := wrap_id (by omega) (by omega)
  rw [wv_eq, wFn, vfn60]
  simp [ic60, h1, h2, w1]
  generalize hX : ({ env := _, al := _ } : WFr) = X
  obtain ⟨fr', g1, g2, g3, g4⟩ := loop60 sc r st hs hl H st.length (Nat.le_refl _) X (by subst hX; simp [K56, h1])
  rw [g1]
  simp [g2, g3, g4, last]
theorem loop59 (sc : CV) (r : List CV) (st : List El) (hs : SR sc st) (hl : st.length < 1000000000) (H : WHeap) :
    ∀ k, k ≤ st.length → ∀ fr, wkeep [0, 3] fr = K56 sc r ((k : Int) - 1) →
      ∃ fr', wC Vv (wv Vv) witW (.loop [0, 3] lp59_1) fr H = some (.exit 0, fr', H) ∧ fr'.env 3 = .c (.int .i64 (toI (lastN isWr st k))) ∧ fr'.env 2 = .undef ∧ fr'.env 36 = .undef := by
  intro k
  induction k with
  | zero =>
    intro _ fr hk
    refine ⟨?_, ?_, ?_, ?_, ?_⟩
    rotate_left
    · rw [w_loop, witW_eq, hk]
      simp [lp59_1, K56]
      rfl
    · simp [K56, lastN, toI]
    · simp [K56]
    · simp [K56]
  | succ k ih =>
    intro hk fr hkeep
    have hlt : k < st.length := by omega
    have hsc : sc = .frz (some 4) (st.map elR) := by
      rcases hs with ⟨_, h⟩ | h
      · rw [h] at hlt; cases hlt
      · exact h
    have e1 : ((k + 1 : Nat) : Int) - 1 = k := by omega
    have w1 : IntKind.i64.wrap ((k : Int) - 1) = (k : Int) - 1 := wrap_id (by omega) (by omega)
    rw [e1] at hkeep
    have hget : st[k]? = some st[k] := by simp [hlt]
    have hx : (st.map elR)[k]? = some (elR st[k]) := by simp [hlt]
    have c1 : (k : Int) < st.length := by omega
    have n1 : (0 : Int) ≤ k := by omega
    simp only [lastN, hget]
    generalize hE : st[k] = e at hx hget
    cases hf : e.form
    · have hg : isWr e = false := by simp [isWr, hf]
      obtain ⟨fr1, h1, h2⟩ : ∃ fr1, wC Vv (wv Vv) witW lp59_1 (K56 sc r k) H = some (.nrm, fr1, H) ∧ wkeep [0, 3] fr1 = K56 sc r ((k : Int) - 1) := by
        refine ⟨?_, ?_, ?_⟩
        rotate_left
        · simp [-getElem?_pos, List.getElem?_cons_zero, lp59_1, K56, hsc, hlt, hx, c1, n1, hf, w1]
          rfl
        · simp [K56, hsc, w1]
      obtain ⟨fr', h3⟩ := ih (by omega) fr1 h2
      refine ⟨fr', ?_⟩
      have e' : wC Vv (wv Vv) witW (.loop [0, 3] lp59_1) fr H = wC Vv (wv Vv) witW (.loop [0, 3] lp59_1) fr1 H := by
        rw [w_loop, witW_eq, hkeep, h1]; rfl
      rw [e', hg]
      exact h3
    · have hg : isWr e = true := by simp [isWr, hf]
      rw [if_pos hg]
      refine ⟨?_, ?_, ?_, ?_, ?_⟩
      rotate_left
      · rw [w_loop, witW_eq, hkeep]
        simp [-getElem?_pos, List.getElem?_cons_zero, lp59_1, K56, hsc, hlt, hx, c1, n1, hf]
        rfl
      · simp [K56, toI]
      · simp [K56]
      · simp [K56]
    · have hg : isWr e = true := by simp [isWr, hf]
      rw [if_pos hg]
      refine ⟨?_, ?_, ?_, ?_, ?_⟩
      rotate_left
      · rw [w_loop, witW_eq, hkeep]
        simp [-getElem?_pos, List.getElem?_cons_zero, lp59_1, K56, hsc, hlt, hx, c1, n1, hf]
        rfl
      · simp [K56, toI]
      · simp [K56]
      · simp [K56]
    · have hg : isWr e = true := by simp [isWr, hf]
      rw [if_pos hg]
      refine ⟨?_, ?_, ?_, ?_, ?_⟩
      rotate_left
      · rw [w_loop, witW_eq, hkeep]
        simp [-getElem?_pos, List.getElem?_cons_zero, lp59_1, K56, hsc, hlt, hx, c1, n1, hf]
        rfl
      · simp [K56, toI]
      · simp [K56]
      · simp [K56]
    · have hg : isWr e = false := by simp [isWr, hf]
      obtain ⟨fr1, h1, h2⟩ : ∃ fr1, wC Vv (wv Vv) witW lp59_1 (K56 sc r k) H = some (.nrm, fr1, H) ∧ wkeep [0, 3] fr1 = K56 sc r ((k : Int) - 1) := by
        refine ⟨?_, ?_, ?_⟩
        rotate_left
        · simp [-getElem?_pos, List.getElem?_cons_zero, lp59_1, K56, hsc, hlt, hx, c1, n1, hf, w1]
          rfl
        · simp [K56, hsc, w1]
      obtain ⟨fr', h3⟩ := ih (by omega) fr1 h2
      refine ⟨fr', ?_⟩
      have e' : wC Vv (wv Vv) witW (.loop [0, 3] lp59_1) fr H = wC Vv (wv Vv) witW (.loop [0, 3] lp59_1) fr1 H := by
        rw [w_loop, witW_eq, hkeep, h1]; rfl
      rw [e', hg]
      exact h3
theorem written59 (sc : CV) (r : List CV) (st : List El) (hs : SR sc st) (hl : st.length < 1000000000) (H : WHeap) :
    wv Vv 59 [.c (.fptr (some 10) (.agg (sc :: r)) 0)] H = some (.c (.int .i64 (toI (last isWr st))), H) := by
  obtain ⟨ek, xs, h1, h2⟩ := hs.len
  have w1 : IntKind.i64.wrap ((st.length : Int) - 1) = (st.length : Int) - 1 := wrap_id (by omega) (by omega)
  rw [wv_eq, wFn, vfn59]
  simp [ic59, h1, h2, w1]
  generalize hX : ({ env := _, al := _ } : WFr) = X
  obtain ⟨fr', g1, g2, g3, g4⟩ := loop59 sc r st hs hl H st.length (Nat.le_refl _) X (by subst hX; simp [K56, h1])
  rw [g1]
  simp [g2, g3, g4, last]
end Go.Proofs.TryL
/- Layout, the reference's Insert: cut, marks, items. -/
set_option linter.unusedSimpArgs false
set_option linter.unusedVariables false
namespace Go.Proofs.TryL
open Go.Proofs.Lz

theorem SR_of {u : CV} {st : List El} (h : (u = .frz none [] ∧ st.map elR = []) ∨ u = .frz (some 4) (st.map elR)) : SR u st := by
  rcases h with ⟨h1, h2⟩ | h
  · exact .inl ⟨h1, by simpa using h2⟩
  · exact .inr h
theorem SL.ownR {s : St} {vs : WV} (hs : SL vs 57 4 (s.stack.map elR)) {i : Nat} {e : El} (hi : s.stack[i]? = some e) : vs = .own true 57 (some 4) (s.stack.map elR) := by
  rcases hs with ⟨_, hs⟩ | hs
  · have : s.stack = [] := by simpa using hs
    rw [this] at hi
    cases hi
  · exact hs
theorem RepR.own {H : WHeap} {p : Nat} {s : St} {f : Flt} {n : Ln} (h : RepR H p s f n) (hne : s.stack ≠ []) : ∃ vo, H[p]? = some (.var (some 10) [.own true 57 (some 4) (s.stack.map elR), vo, .c (.bool s.expect), .c (.str s.word), .c (.int .i64 n.line), .c (.bool n.first), .c (.int .i64 f.code), .c (.str f.name), .c (.int .i64 f.line), .c (.int .i64 f.col)]) ∧ SL vo 33 7 (s.out.map tokC) := by
  obtain ⟨vs, vo, hp, hs, ho⟩ := h
  rcases hs with ⟨_, hs⟩ | rfl
  · exact (hne (by simpa using hs)).elim
  · exact ⟨vo, hp, ho⟩
def K33 (p : Nat) (i : Int) : WFr := { env := wassoc [(0, .ptr p 0), (1, .c (.int .i64 i))], al := noAl }
set_option maxHeartbeats 2000000 in
theorem round33 {H : WHeap} {p : Nat} {s : St} {f : Flt} {l : Ln} (h : RepR H p s f l) {st : List El} {e : El} {n : Nat} (hst : s.stack = st ++ [e]) (hn : n ≤ st.length) (hl : s.stack.length < 1000000000) (hb : s.out.length < 1000000000) :
    ∃ H1 fr1, wC Vv (wv Vv) witW lp33_1 (K33 p ((n : Int) - 1)) H = some (.nrm, fr1, H1) ∧ wkeep [0, 1] fr1 = K33 p ((n : Int) - 1) ∧ RepR H1 p { (if e.form = .im then s.ins [125] else s) with stack := st } f l ∧ Kp p H H1 := by
  have hlen : s.stack.length = st.length + 1 := by rw [hst]; simp
  have w3 : IntKind.i64.wrap (st.length : Int) = (st.length : Int) := by rw [wrap_id] <;> omega
  have w2 : IntKind.i64.wrap (((st.length : Int) + 1) - 1) = (st.length : Int) := by rw [wrap_id] <;> omega
  have c1 : (n : Int) - 1 < (st.length : Int) := by omega
  have c2 : ((st.length : Int)).toNat = st.length := by omega
  have c3 : (st.length : Int) ≤ (st.length : Int) + 1 := by omega
  obtain ⟨vo, hp, ho⟩ := h.own (by rw [hst]; simp)
  have hg := set_get hp
  by_cases hf : e.form = .im
  · obtain ⟨H1, i1, i2, i3⟩ := insert31 [125] h hb
    obtain ⟨vo1, hp1, ho1⟩ := i2.own (by simp [St.ins, hst])
    have hg1 := set_get hp1
    simp only [St.ins, hst] at hp1
    rw [hst] at hp
    refine ⟨_, ?_, ?_, ?_, ⟨.own true 57 (some 4) (st.map elR), vo1, set_get hp1 _, .inr rfl, by simpa [hf, St.ins] using ho1⟩, i3.trans (Kp.set _ _ _)⟩
    rotate_left
    · simp [lp33_1, K33, hp, i1, hf, w2, w3, c1, c2, c3, hp1, hg1, St.ins]
      rfl
    · simp [K33]
  · rw [hst] at hp
    refine ⟨_, ?_, ?_, ?_, ⟨.own true 57 (some 4) (st.map elR), vo, set_get hp _, .inr rfl, by simpa [hf] using ho⟩, Kp.set _ _ _⟩
    rotate_left
    · simp [lp33_1, K33, hp, hg, hf, w2, w3, c1, c2, c3]
      rfl
    · simp [K33]
theorem loop33 {p : Nat} {f : Flt} {l : Ln} {n : Nat} : ∀ (k : Nat) {H : WHeap} {s : St}, RepR H p s f l → s.stack.length = n + k → s.stack.length < 1000000000 → s.out.length + s.stack.length < 1000000000 → ∀ fr, wkeep [0, 1] fr = K33 p ((n : Int) - 1) →
    ∃ H1 fr1, wC Vv (wv Vv) witW (.loop [0, 1] lp33_1) fr H = some (.exit 0, fr1, H1) ∧ RepR H1 p (s.cut n) f l ∧ Kp p H H1 := by
  intro k
  induction k with
  | zero =>
    intro H s h hk hl hb fr hkeep
    have w1 : IntKind.i64.wrap ((n : Int) - 1) = (n : Int) - 1 := by rw [wrap_id] <;> omega
    have hcut : s.cut n = s := by
      simp only [St.cut, List.drop_of_length_le (show s.stack.length ≤ n by omega), List.take_of_length_le (show s.stack.length ≤ n by omega)]
      simp
    have hlen : s.stack.length = n := by omega
    have key : ∃ fr1, wC Vv (wv Vv) witW (.loop [0, 1] lp33_1) fr H = some (.exit 0, fr1, H) := by
      obtain ⟨vs, vo, hp, hs, ho⟩ := h
      rw [w_loop, witW_eq, hkeep]
      rcases hs with ⟨rfl, hs⟩ | rfl
      · have hs' : n = 0 := by rw [← hlen]; simpa using hs
        subst hs'
        refine ⟨?_, ?_⟩
        rotate_left
        · simp [lp33_1, K33, hp, wrap_id]
          rfl
      · refine ⟨?_, ?_⟩
        rotate_left
        · simp [lp33_1, K33, hp, w1, hlen]
          rfl
    obtain ⟨fr1, k1⟩ := key
    exact ⟨H, fr1, k1, by rw [hcut]; exact h, Kp.refl _ _⟩
  | succ k ih =>
    intro H s h hk hl hb fr hkeep
    have hne : s.stack ≠ [] := by intro e; rw [e] at hk; simp at hk
    obtain ⟨st, e, hst⟩ : ∃ st e, s.stack = st ++ [e] := ⟨s.stack.dropLast, s.stack.getLast hne, (List.dropLast_concat_getLast hne).symm⟩
    have hlen : s.stack.length = st.length + 1 := by rw [hst]; simp
    obtain ⟨H1, fr1, h1, h2, h3, h4⟩ := round33 h hst (show n ≤ st.length by omega) hl (by omega)
    have hout : (if e.form = .im then s.ins [125] else s).out.length ≤ s.out.length + 1 := by split <;> simp [St.ins]
    obtain ⟨H2, fr2, i1, i2, i3⟩ := ih h3 (show st.length = n + k by omega) (show st.length < _ by omega) (show _ + st.length < _ by simp only; omega) fr1 h2
    refine ⟨H2, fr2, ?_, by rw [cut_step s n e st hst (by omega)]; exact i2, h4.trans i3⟩
    rw [w_loop, witW_eq, hkeep, h1]
    exact i1
theorem cut33 {H : WHeap} {p : Nat} {s : St} {f : Flt} {l : Ln} (n : Nat) (h : RepR H p s f l) (hn : n ≤ s.stack.length) (hb : s.out.length + s.stack.length < 1000000000) :
    ∃ H', wv Vv 33 [.ptr p 0, .c (.int .i64 ((n : Int) - 1))] H = some (.tup [], H') ∧ RepR H' p (s.cut n) f l ∧ Kp p H H' := by
  obtain ⟨H1, fr1, h1, h2, h3⟩ := loop33 (n := n) (s.stack.length - n) h (by omega) (by omega) hb { env := wassoc (wbinds 0 [.ptr p 0, .c (.int .i64 ((n : Int) - 1))]), al := noAl } (by simp [K33])
  refine ⟨H1, ?_, h2, h3⟩
  rw [wv_eq, wFn, vfn33]
  simp only [ic33, w_block]
  rw [h1]
  simp
theorem mark52 {H : WHeap} {p : Nat} {s : St} {f : Flt} {l : Ln} (b : Bool) (h : RepR H p s f l) (hl : s.stack.length < 1000000000) :
    ∃ H', wv Vv 52 [.ptr p 0, .c (.bool b)] H = some (.tup [], H') ∧ RepR H' p (mark s b) f l ∧ Kp p H H' := by
  have h0 := h
  obtain ⟨vs, vo, hp, hs, ho⟩ := h
  obtain ⟨uo, t1, _⟩ := ho.thaw
  obtain ⟨us, t2, hsc⟩ := hs.thaw
  have ht := fun r => context60 us r s.stack (SR_of hsc) hl []
  have hg := set_get hp
  cases hlast : last isCtx s.stack with
  | none =>
    rw [hlast] at ht
    refine ⟨H, ?_, by simpa [mark, hlast] using h0, Kp.refl _ _⟩
    rw [wv_eq, wFn, vfn52]
    simp [ic52, hp, t1, t2, ht, toI]
  | some i =>
    rw [hlast] at ht
    obtain ⟨e, he, _⟩ := last_get hlast
    have hv := SL.ownR hs he
    subst hv
    have hu : us = .frz (some 4) (s.stack.map elR) := by have := t2 (.hp 0 0); simpa using this.symm
    subst hu
    have hlt := (List.getElem?_eq_some_iff.1 he).1
    have hge := (List.getElem?_eq_some_iff.1 he).2
    by_cases hf : e.form = .im
    · refine ⟨_, ?_, ⟨.own true 57 (some 4) ((mark s b).stack.map elR), vo, set_get hp _, .inr rfl, by simpa [mark, hlast, he, hf] using ho⟩, Kp.set _ _ _⟩
      rw [wv_eq, wFn, vfn52]
      simp [ic52, hp, t1, t2, ht, toI, hlt, hge, hf, mark, hlast, List.map_set]
    · refine ⟨H, ?_, by simpa [mark, hlast, he, hf] using h0, Kp.refl _ _⟩
      rw [wv_eq, wFn, vfn52]
      simp [ic52, hp, t1, t2, ht, toI, hlt, hge, hf]
set_option maxHeartbeats 4000000 in
theorem item49 {H : WHeap} {p : Nat} {s : St} {f : Flt} {l : Ln} (t : Tok) (h : RepR H p s f l) (hl : s.stack.length < 1000000000) (hb : s.out.length < 1000000000) :
    ∃ H', wv Vv 49 [.ptr p 0, tC t] H = some (.tup [], H') ∧ RepR H' p (item s t) f l ∧ Kp p H H' := by
  have h0 := h
  obtain ⟨vs, vo, hp, hs, ho⟩ := h
  obtain ⟨uo, t1, _⟩ := ho.thaw
  obtain ⟨us, t2, hsc⟩ := hs.thaw
  have ht := fun r => context60 us r s.stack (SR_of hsc) hl []
  have hg := set_get hp
  have s1 := special35 t [59] []
  have w1 := word55 t [116, 104, 101, 110] []
  have w2 := word55 t [101, 108, 115, 101] []
  rcases ho with ⟨rfl, ho⟩ | rfl
  · have ho' : s.out = [] := by simpa using ho
    refine ⟨H, ?_, by simpa [item, ho'] using h0, Kp.refl _ _⟩
    rw [wv_eq, wFn, vfn49]
    simp [ic49, tC, hp]
  · by_cases hne : s.out = []
    · refine ⟨H, ?_, by simpa [item, hne] using h0, Kp.refl _ _⟩
      rw [wv_eq, wFn, vfn49]
      simp [ic49, tC, hp, hne]
    · obtain ⟨st, o, hst⟩ : ∃ st o, s.out = st ++ [o] := ⟨s.out.dropLast, s.out.getLast hne, (List.dropLast_concat_getLast hne).symm⟩
      have so := special35 o [59] []
      have w3 : IntKind.i64.wrap (st.length : Int) = (st.length : Int) := by
        have : s.out.length = st.length + 1 := by rw [hst]; simp
        rw [wrap_id] <;> omega
      rw [hst] at hp
      have hnz : (0 : Int) < (st.length : Int) + 1 := by omega
      by_cases hc : (!special o [59] || special t [59] || isW t wThen || isW t wElse) = true
      · refine ⟨H, ?_, by simpa [item, hst, hc] using h0, Kp.refl _ _⟩
        rw [wv_eq, wFn, vfn49]
        cases c1 : special o [59] <;> cases c2 : special t [59] <;> cases c3 : isW t [116, 104, 101, 110] <;> cases c4 : isW t [101, 108, 115, 101] <;> simp [c1, c2, c3, c4, wThen, wElse] at hc <;> simp [ic49, tC, hp, s1, w1, w2, so, w3, hnz, c1, c2, c3, c4]
      · have hc0 := hc
        simp only [wThen, wElse, Bool.not_eq_true, Bool.or_eq_false_iff, Bool.not_eq_false'] at hc
        obtain ⟨⟨⟨c1, c2⟩, c3⟩, c4⟩ := hc
        have ho1 : SL (.own true 33 (some 7) ((st ++ [o]).map tokC)) 33 7 (s.out.map tokC) := by rw [hst]; exact .inr rfl
        have key : ∀ n : Nat, n ≤ s.stack.length → toI (last isCtx s.stack) = (n : Int) - 1 → item s t = { s with stack := s.stack.take n } →
            ∃ H', wv Vv 49 [.ptr p 0, tC t] H = some (.tup [], H') ∧ RepR H' p (item s t) f l ∧ Kp p H H' := by
          intro n hn hi hit
          have w4 : IntKind.i64.wrap (n : Int) = (n : Int) := by rw [wrap_id] <;> omega
          rw [hi] at ht
          rw [hit]
          rcases hs with ⟨rfl, hs⟩ | rfl
          · have hs' : s.stack = [] := by simpa using hs
            have hu : us = .frz none [] := by have := t2 (.hp 0 0); simpa using this.symm
            subst hu
            have hn0 : n = 0 := by rw [hs'] at hn; simpa using hn
            subst hn0
            refine ⟨_, ?_, ⟨.nils, .own true 33 (some 7) ((st ++ [o]).map tokC), set_get hp _, .inl ⟨rfl, by simp⟩, ho1⟩, Kp.set _ _ _⟩
            rw [wv_eq, wFn, vfn49]
            simp [ic49, tC, hp, s1, w1, w2, so, w3, hnz, c1, c2, c3, c4, ht, t2, hg, wrap_id]
          · have hu : us = .frz (some 4) (s.stack.map elR) := by have := t2 (.hp 0 0); simpa using this.symm
            subst hu
            have hn' : (n : Int) ≤ s.stack.length := by omega
            refine ⟨_, ?_, ⟨.own true 57 (some 4) ((s.stack.take n).map elR), .own true 33 (some 7) ((st ++ [o]).map tokC), set_get hp _, .inr rfl, ho1⟩, Kp.set _ _ _⟩
            rw [wv_eq, wFn, vfn49]
            simp [ic49, tC, hp, s1, w1, w2, so, w3, w4, hn', hnz, c1, c2, c3, c4, ht, t2, hg, wrap_id]
        cases hlast : last isCtx s.stack with
        | none => exact key 0 (Nat.zero_le _) (by rw [hlast]; rfl) (by simp [item, hst, hc0, hlast])
        | some i => exact key (i + 1) (last_lt hlast) (by rw [hlast]; simp [toI]) (by simp [item, hst, hc0, hlast])
end Go.Proofs.TryL
/- Layout, the reference's Insert: rule 1 and closing. -/
set_option linter.unusedSimpArgs false
set_option linter.unusedVariables false
namespace Go.Proofs.TryL
open Go.Proofs.Lz

theorem Fm.r_inj (a b : Fm) : (a.r = b.r) = (a = b) := by cases a <;> cases b <;> simp [Fm.r]
set_option maxHeartbeats 2000000 in
theorem closes61 {H : WHeap} {p : Nat} {s : St} {f : Flt} {l : Ln} (t : Tok) (fm : Fm) (h : RepR H p s f l) (hl : s.stack.length < 1000000000) (hb : s.out.length + s.stack.length < 1000000000) :
    ∃ H', wv Vv 61 [.ptr p 0, tC t, .c (.int .i64 fm.r)] H = some (.tup [], H') ∧ (match closing s fm with
      | none => RepR H' p s (flt t) l
      | some s' => RepR H' p s' f l) ∧ Kp p H H' := by
  have h0 := h
  obtain ⟨Hf, f1, f2, f3⟩ := fails32 t h
  obtain ⟨vs, vo, hp, hs, ho⟩ := h
  obtain ⟨uo, t1, _⟩ := ho.thaw
  obtain ⟨us, t2, hsc⟩ := hs.thaw
  have ht := fun r => written59 us r s.stack (SR_of hsc) hl []
  cases hlast : last isWr s.stack with
  | none =>
    rw [hlast] at ht
    refine ⟨Hf, ?_, ?_, f3⟩
    · rw [wv_eq, wFn, vfn61]
      simp [ic61, tC, hp, t1, t2, ht, toI, f1]
    · simpa only [closing, hlast] using f2
  | some i =>
    rw [hlast] at ht
    obtain ⟨e, he, hwr⟩ := last_get hlast
    have hv := SL.ownR hs he
    subst hv
    have hu : us = .frz (some 4) (s.stack.map elR) := by have := t2 (.hp 0 0); simpa using this.symm
    subst hu
    have hlt := (List.getElem?_eq_some_iff.1 he).1
    have hge := (List.getElem?_eq_some_iff.1 he).2
    have hn : ¬ ((i : Int) < 0) := by omega
    by_cases hf : e.form = fm
    · obtain ⟨H1, i1, i2, i3⟩ := cut33 (i + 1) h0 (by omega) hb
      have e1 : (((i + 1 : Nat) : Int) - 1) = (i : Int) := by omega
      rw [e1] at i1
      have hst : (s.cut (i + 1)).stack = s.stack.take i ++ [e] := by simp only [St.cut]; rw [List.take_add_one, he]; rfl
      obtain ⟨vo1, hp1, ho1⟩ := i2.own (by rw [hst]; simp)
      have hg1 := set_get hp1
      rw [hst] at hp1
      have htl : (s.stack.take i).length = i := by rw [List.length_take]; omega
      have mid : ∀ q, RepR (H1.set p q) p { (s.cut (i + 1)) with stack := s.stack.take i } f l → RepR (H1.set p q) p { (s.cut (i + 1)) with stack := s.stack.take i } f l := fun q h => h
      have rep1 : RepR (H1.set p (.var (some 10) [.own true 57 (some 4) ((s.stack.take i).map elR), vo1, .c (.bool s.expect), .c (.str s.word), .c (.int .i64 l.line), .c (.bool l.first), .c (.int .i64 f.code), .c (.str f.name), .c (.int .i64 f.line), .c (.int .i64 f.col)])) p { (s.cut (i + 1)) with stack := s.stack.take i } f l :=
        ⟨_, vo1, hg1 _, .inr rfl, ho1⟩
      obtain ⟨H2, j1, j2, j3⟩ := wait58 (if fm = Fm.ex then e.word else []) rep1 (by simp only [htl]; omega)
      have hcl : closing s fm = some (({ (s.cut (i + 1)) with stack := s.stack.take i } : St).wait (if fm = Fm.ex then e.word else [])) := by
        simp only [closing, hlast, he, hf, if_true]
        have : (s.cut (i + 1)).stack.take i = s.stack.take i := by rw [hst, List.take_append_of_le_length (by rw [htl]; exact Nat.le_refl _), List.take_take, Nat.min_self]
        rw [this]
      rw [hcl]
      refine ⟨H2, ?_, j2, (i3.trans (Kp.set _ _ _)).trans j3⟩
      have hmin : min i s.stack.length = i := by omega
      have w4 : (i : Int) ≤ (i : Int) + 1 := by omega
      have htk : List.take i (List.map elR (s.stack.take i) ++ [elR e]) = (s.stack.take i).map elR := by
        rw [List.take_append_of_le_length (by rw [List.length_map, htl]; exact Nat.le_refl _), List.take_of_length_le (by rw [List.length_map, htl]; exact Nat.le_refl _)]
      rw [wv_eq, wFn, vfn61]
      subst hf
      have hxe : (s.cut (i + 1)).expect = s.expect ∧ (s.cut (i + 1)).word = s.word := ⟨rfl, rfl⟩
      by_cases hex : e.form = .ex
      · rw [if_pos hex, List.map_take] at j1
        simp [ic61, tC, hp, t1, ht, toI, hlt, hge, hn, i1, hp1, hg1, hex, hxe.1, hxe.2, hmin, w4, htk, j1]
      · rw [if_neg hex, List.map_take] at j1
        simp [ic61, tC, hp, t1, ht, toI, hlt, hge, hn, i1, hp1, hg1, hex, hxe.1, hxe.2, hmin, w4, htk, j1]
    · refine ⟨Hf, ?_, ?_, f3⟩
      · have hf' : ¬ (e.form.r = fm.r) := by rw [Fm.r_inj]; exact hf
        rw [wv_eq, wFn, vfn61]
        simp [ic61, tC, hp, t1, ht, toI, hlt, hge, hn, hf', f1]
      · simpa only [closing, hlast, he, hf, if_false] using f2
set_option maxHeartbeats 4000000 in
theorem open47 {H : WHeap} {p : Nat} {s : St} {f : Flt} {l : Ln} (t : Tok) (h : RepR H p s f l) (hl : s.stack.length < 100000000) (hb : s.out.length < 100000000) :
    ∃ H', wv Vv 47 [.ptr p 0, tC t] H = some (.c (.bool (begin s t).1), H') ∧ RepR H' p (begin s t).2 f l ∧ Kp p H H' := by
  have h0 := h
  obtain ⟨vs, vo, hp, hs, ho⟩ := h
  obtain ⟨uo, t1, _⟩ := ho.thaw
  obtain ⟨us, t2, hsc⟩ := hs.thaw
  have ht := fun r => block56 us r s.stack (SR_of hsc) (by omega) []
  have hg := set_get hp
  have s1 := special35 t [123] []
  have w1 := word55 t [109, 111, 100, 117, 108, 101] []
  cases hx : s.expect with
  | false =>
    refine ⟨H, ?_, by simpa [begin, hx] using h0, Kp.refl _ _⟩
    rw [wv_eq, wFn, vfn47]
    simp [ic47, tC, hp, hx, begin]
  | true =>
    have mid : RepR (H.set p (.var (some 10) [vs, vo, .c (.bool false), .c (.str s.word), .c (.int .i64 l.line), .c (.bool l.first), .c (.int .i64 f.code), .c (.str f.name), .c (.int .i64 f.line), .c (.int .i64 f.col)])) p { s with expect := false } f l := ⟨vs, vo, set_get hp _, hs, ho⟩
    cases c1 : special t [123] with
    | true =>
      refine ⟨_, ?_, by simpa [begin, hx, c1] using mid, Kp.set _ _ _⟩
      rw [wv_eq, wFn, vfn47]
      simp [ic47, tC, hp, hg, hx, begin, s1, c1]
    | false =>
      by_cases c2 : s.word = [] ∧ isW t wModule = true
      · refine ⟨_, ?_, by simpa [begin, hx, c1, c2.1, c2.2] using mid, Kp.set _ _ _⟩
        have c3 := c2.2
        simp only [wModule] at c3
        rw [wv_eq, wFn, vfn47]
        simp [ic47, tC, hp, hg, hx, begin, s1, c1, c2.1, w1, c3, wModule]
      · have c3 : (s.word == [] && isW t wModule) = false := by
          cases hw : isW t wModule <;> simp [hw] at c2 ⊢
          exact c2
        have hbeg : begin s t = if colOf s < t.col then (true, (({ s with expect := false } : St).ins [123]).push ⟨.im, t.col, s.word, false⟩) else (false, ((({ s with expect := false } : St).ins [123]).ins [125]).wait s.word) := by
          simp only [begin, hx, c1, c3, Bool.false_eq_true, if_false, colOf]
          rfl
        have hcol : (∃ i : Nat, last isBlock s.stack = some i ∧ ∃ e, s.stack[i]? = some e ∧ e.form = .im ∧ colOf s = e.col) ∨ (∃ i : Nat, last isBlock s.stack = some i ∧ ∃ e, s.stack[i]? = some e ∧ e.form ≠ .im ∧ colOf s = 0) ∨ (last isBlock s.stack = none ∧ colOf s = 0) := by
          cases hlast : last isBlock s.stack with
          | none => exact .inr (.inr ⟨rfl, by simp [colOf, hlast]⟩)
          | some i =>
            obtain ⟨e, he, _⟩ := last_get hlast
            by_cases hf : e.form = .im
            · exact .inl ⟨i, rfl, e, he, hf, by simp [colOf, hlast, he, hf]⟩
            · exact .inr (.inl ⟨i, rfl, e, he, hf, by simp [colOf, hlast, he, hf]⟩)
        have c4 : s.word = [] → isW t [109, 111, 100, 117, 108, 101] = false := by
          intro e
          cases hw : isW t [109, 111, 100, 117, 108, 101] with
          | false => rfl
          | true => exact (c2 ⟨e, hw⟩).elim
        rw [hbeg]
        obtain ⟨H1, i1, i2, i3⟩ := insert31 [123] mid (by simp only; omega)
        have i2' := i2
        obtain ⟨vs1, vo1, hp1, _, _⟩ := i2'
        simp only [St.ins] at hp1
        by_cases hcc : colOf s < t.col
        · rw [if_pos hcc]
          obtain ⟨H2, j1, j2, j3⟩ := push57 ⟨.im, t.col, s.word, false⟩ i2 (by simp only [St.ins]; omega)
          refine ⟨H2, ?_, j2, ((Kp.set _ _ _).trans i3).trans j3⟩
          simp only [show Fm.im.r = 1 from rfl] at j1
          rcases hcol with ⟨i, hlast, e, he, hf, hce⟩ | ⟨i, hlast, e, he, hf, hce⟩ | ⟨hlast, hce⟩
          · rw [hlast] at ht
            have hv := SL.ownR hs he
            subst hv
            have hu : us = .frz (some 4) (s.stack.map elR) := by have := t2 (.hp 0 0); simpa using this.symm
            subst hu
            have hlt := (List.getElem?_eq_some_iff.1 he).1
            have hge := (List.getElem?_eq_some_iff.1 he).2
            rw [hce] at hcc
            rw [wv_eq, wFn, vfn47]
            by_cases hw : s.word = []
            · rw [hw] at hp i1 j1 hp1
              simp [ic47, tC, hp, hg, hx, s1, c1, w1, hw, c4 hw, ht, t1, toI, hlt, hge, hf, hcc, i1, j1, hp1]
            · simp [ic47, tC, hp, hg, hx, s1, c1, w1, hw, ht, t1, toI, hlt, hge, hf, hcc, i1, j1, hp1]
          · rw [hlast] at ht
            have hv := SL.ownR hs he
            subst hv
            have hu : us = .frz (some 4) (s.stack.map elR) := by have := t2 (.hp 0 0); simpa using this.symm
            subst hu
            have hlt := (List.getElem?_eq_some_iff.1 he).1
            have hge := (List.getElem?_eq_some_iff.1 he).2
            rw [hce] at hcc
            rw [wv_eq, wFn, vfn47]
            by_cases hw : s.word = []
            · rw [hw] at hp i1 j1 hp1
              simp [ic47, tC, hp, hg, hx, s1, c1, w1, hw, c4 hw, ht, t1, toI, hlt, hge, hf, hcc, i1, j1, hp1]
            · simp [ic47, tC, hp, hg, hx, s1, c1, w1, hw, ht, t1, toI, hlt, hge, hf, hcc, i1, j1, hp1]
          · rw [hlast] at ht
            rw [hce] at hcc
            rw [wv_eq, wFn, vfn47]
            by_cases hw : s.word = []
            · rw [hw] at hp i1 j1 hp1
              simp [ic47, tC, hp, hg, hx, s1, c1, w1, hw, c4 hw, ht, t1, t2, toI, hcc, i1, j1, hp1]
            · simp [ic47, tC, hp, hg, hx, s1, c1, w1, hw, ht, t1, t2, toI, hcc, i1, j1, hp1]
        · rw [if_neg hcc]
          obtain ⟨H2, k1, k2, k3⟩ := insert31 [125] i2 (by simp only [St.ins, List.length_append, List.length_cons, List.length_nil]; omega)
          obtain ⟨H3, j1, j2, j3⟩ := wait58 s.word k2 (by simp only [St.ins]; omega)
          have k2' := k2
          obtain ⟨vs2, vo2, hp2, _, _⟩ := k2'
          simp only [St.ins] at hp2
          refine ⟨H3, ?_, j2, (((Kp.set _ _ _).trans i3).trans k3).trans j3⟩
          rcases hcol with ⟨i, hlast, e, he, hf, hce⟩ | ⟨i, hlast, e, he, hf, hce⟩ | ⟨hlast, hce⟩
          · rw [hlast] at ht
            have hv := SL.ownR hs he
            subst hv
            have hu : us = .frz (some 4) (s.stack.map elR) := by have := t2 (.hp 0 0); simpa using this.symm
            subst hu
            have hlt := (List.getElem?_eq_some_iff.1 he).1
            have hge := (List.getElem?_eq_some_iff.1 he).2
            rw [hce] at hcc
            rw [wv_eq, wFn, vfn47]
            by_cases hw : s.word = []
            · rw [hw] at hp i1 j1 hp1 hp2
              simp [ic47, tC, hp, hg, hx, s1, c1, w1, hw, c4 hw, ht, t1, toI, hlt, hge, hf, hcc, i1, k1, j1, hp1, hp2]
            · simp [ic47, tC, hp, hg, hx, s1, c1, w1, hw, ht, t1, toI, hlt, hge, hf, hcc, i1, k1, j1, hp1, hp2]
          · rw [hlast] at ht
            have hv := SL.ownR hs he
            subst hv
            have hu : us = .frz (some 4) (s.stack.map elR) := by have := t2 (.hp 0 0); simpa using this.symm
            subst hu
            have hlt := (List.getElem?_eq_some_iff.1 he).1
            have hge := (List.getElem?_eq_some_iff.1 he).2
            rw [hce] at hcc
            rw [wv_eq, wFn, vfn47]
            by_cases hw : s.word = []
            · rw [hw] at hp i1 j1 hp1 hp2
              simp [ic47, tC, hp, hg, hx, s1, c1, w1, hw, c4 hw, ht, t1, toI, hlt, hge, hf, hcc, i1, k1, j1, hp1, hp2]
            · simp [ic47, tC, hp, hg, hx, s1, c1, w1, hw, ht, t1, toI, hlt, hge, hf, hcc, i1, k1, j1, hp1, hp2]
          · rw [hlast] at ht
            rw [hce] at hcc
            rw [wv_eq, wFn, vfn47]
            by_cases hw : s.word = []
            · rw [hw] at hp i1 j1 hp1 hp2
              simp [ic47, tC, hp, hg, hx, s1, c1, w1, hw, c4 hw, ht, t1, t2, toI, hcc, i1, k1, j1, hp1, hp2]
            · simp [ic47, tC, hp, hg, hx, s1, c1, w1, hw, ht, t1, t2, toI, hcc, i1, k1, j1, hp1, hp2]
end Go.Proofs.TryL
