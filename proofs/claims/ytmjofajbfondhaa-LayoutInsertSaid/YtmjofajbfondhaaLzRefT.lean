/- Layout, the reference's Insert: seek. -/
import Derived.Test.YtmjofajbfondhaaLzRefR
import Derived.Test.YtmjofajbfondhaaLzRefPl
import Derived.Test.YtmjofajbfondhaaLzLayU
set_option linter.unusedSimpArgs false
set_option linter.unusedVariables false
namespace Go.Proofs.TryL
open Go.Proofs.Lz

def K63 (p : Nat) (t : Tok) (w : List UInt8) (i : Int) : WFr := { env := wassoc [(0, .ptr p 0), (2, .c (.str w)), (4, .lbox (some 7) (.c (tkC t))), (6, .c (.int .i64 i))], al := noAl }
set_option maxHeartbeats 4000000 in
theorem loop63 {H : WHeap} {p : Nat} {s : St} {f : Flt} {l : Ln} (t : Tok) (w : List UInt8) (h : RepR H p s f l) (hl : s.stack.length < 1000000000) :
    ∀ k, k ≤ s.stack.length → ∀ fr, wkeep [0, 2, 4, 6] fr = K63 p t w ((k : Int) - 1) →
      ∃ fr', wC Vv (wv Vv) witW (.loop [0, 2, 4, 6] lp63_1) fr H = some (.exit 0, fr', H) ∧ fr'.env 0 = .ptr p 0 ∧ fr'.env 2 = .c (.str w) ∧ fr'.env 4 = .lbox (some 7) (.c (tkC t)) ∧ fr'.env 6 = .c (.int .i64 (toI (lastN (seeks w (w == wLet)) s.stack k))) ∧ fr'.env 67 = .undef ∧ fr'.env 68 = .undef ∧ fr'.env 69 = .undef ∧ fr'.env 70 = .undef ∧ fr'.env 71 = .undef ∧ fr'.env 72 = .undef ∧ fr'.env 73 = .undef ∧ fr'.env 74 = .undef ∧ fr'.env 75 = .undef ∧ fr'.env 76 = .undef ∧ fr'.env 77 = .undef ∧ fr'.env 78 = .undef ∧ fr'.env 79 = .undef ∧ fr'.env 80 = .undef ∧ fr'.env 81 = .undef ∧ fr'.env 82 = .undef ∧ fr'.env 83 = .undef ∧ fr'.env 84 = .undef ∧ fr'.env 85 = .undef ∧ fr'.env 86 = .undef := by
  obtain ⟨vs, vo, hp, hs, ho⟩ := h
  intro k
  induction k with
  | zero =>
    intro _ fr hk
    refine ⟨?_, ?_, ?_⟩
    rotate_left
    · rw [w_loop, witW_eq, hk]
      simp [lp63_1, K63]
      rfl
    · simp [K63, lastN, toI]
  | succ k ih =>
    intro hk fr hkeep
    have hlt : k < s.stack.length := by omega
    have hget : s.stack[k]? = some s.stack[k] := by simp [hlt]
    have hv := SL.ownR hs hget
    subst hv
    have e1 : ((k + 1 : Nat) : Int) - 1 = k := by omega
    have w1 : IntKind.i64.wrap ((k : Int) - 1) = (k : Int) - 1 := wrap_id (by omega) (by omega)
    rw [e1] at hkeep
    have hx : (s.stack.map elR)[k]? = some (elR s.stack[k]) := by simp [hlt]
    have c1 : (k : Int) < s.stack.length := by omega
    have n1 : (0 : Int) ≤ k := by omega
    simp only [lastN, hget]
    generalize hE : s.stack[k] = e at hx hget
    by_cases hwl : w = [108, 101, 116]
    · subst hwl
      cases hf : e.form
      · by_cases hew : e.word = [108, 101, 116]
        · have hz := hew
          have hg : seeks [108, 101, 116] ([108, 101, 116] == wLet) e = true := by simp [seeks, hf, hew, wLet]
          rw [if_pos hg]
          refine ⟨?_, ?_, ?_⟩
          rotate_left
          · rw [w_loop, witW_eq, hkeep]
            simp [-getElem?_pos, List.getElem?_cons_zero, lp63_1, K63, hp, hlt, hx, c1, n1, w1, hf, hew]
            rfl
          · simp [K63, toI, hf, hew]
        · have hz := hew
          have hg : seeks [108, 101, 116] ([108, 101, 116] == wLet) e = false := by simp [seeks, hf, hew, wLet]
          obtain ⟨fr1, h1, h2⟩ : ∃ fr1, wC Vv (wv Vv) witW lp63_1 (K63 p t [108, 101, 116] k) H = some (.nrm, fr1, H) ∧ wkeep [0, 2, 4, 6] fr1 = K63 p t [108, 101, 116] ((k : Int) - 1) := by
            refine ⟨?_, ?_, ?_⟩
            rotate_left
            · simp [-getElem?_pos, List.getElem?_cons_zero, lp63_1, K63, hp, hlt, hx, c1, n1, w1, hf, hew]
              rfl
            · simp [K63, tkC, w1, hf, hew]
          obtain ⟨fr', h3⟩ := ih (by omega) fr1 h2
          refine ⟨fr', ?_⟩
          have e' : wC Vv (wv Vv) witW (.loop [0, 2, 4, 6] lp63_1) fr H = wC Vv (wv Vv) witW (.loop [0, 2, 4, 6] lp63_1) fr1 H := by
            rw [w_loop, witW_eq, hkeep, h1]; rfl
          rw [e', hg]
          exact h3
      · have hz := hf
        have hg : seeks [108, 101, 116] ([108, 101, 116] == wLet) e = false := by simp [seeks, hf, wLet]
        obtain ⟨fr1, h1, h2⟩ : ∃ fr1, wC Vv (wv Vv) witW lp63_1 (K63 p t [108, 101, 116] k) H = some (.nrm, fr1, H) ∧ wkeep [0, 2, 4, 6] fr1 = K63 p t [108, 101, 116] ((k : Int) - 1) := by
          refine ⟨?_, ?_, ?_⟩
          rotate_left
          · simp [-getElem?_pos, List.getElem?_cons_zero, lp63_1, K63, hp, hlt, hx, c1, n1, w1, hf]
            rfl
          · simp [K63, tkC, w1, hf]
        obtain ⟨fr', h3⟩ := ih (by omega) fr1 h2
        refine ⟨fr', ?_⟩
        have e' : wC Vv (wv Vv) witW (.loop [0, 2, 4, 6] lp63_1) fr H = wC Vv (wv Vv) witW (.loop [0, 2, 4, 6] lp63_1) fr1 H := by
          rw [w_loop, witW_eq, hkeep, h1]; rfl
        rw [e', hg]
        exact h3
      · have hz := hf
        have hg : seeks [108, 101, 116] ([108, 101, 116] == wLet) e = false := by simp [seeks, hf, wLet]
        obtain ⟨fr1, h1, h2⟩ : ∃ fr1, wC Vv (wv Vv) witW lp63_1 (K63 p t [108, 101, 116] k) H = some (.nrm, fr1, H) ∧ wkeep [0, 2, 4, 6] fr1 = K63 p t [108, 101, 116] ((k : Int) - 1) := by
          refine ⟨?_, ?_, ?_⟩
          rotate_left
          · simp [-getElem?_pos, List.getElem?_cons_zero, lp63_1, K63, hp, hlt, hx, c1, n1, w1, hf]
            rfl
          · simp [K63, tkC, w1, hf]
        obtain ⟨fr', h3⟩ := ih (by omega) fr1 h2
        refine ⟨fr', ?_⟩
        have e' : wC Vv (wv Vv) witW (.loop [0, 2, 4, 6] lp63_1) fr H = wC Vv (wv Vv) witW (.loop [0, 2, 4, 6] lp63_1) fr1 H := by
          rw [w_loop, witW_eq, hkeep, h1]; rfl
        rw [e', hg]
        exact h3
      · have hz := hf
        have hg : seeks [108, 101, 116] ([108, 101, 116] == wLet) e = false := by simp [seeks, hf, wLet]
        obtain ⟨fr1, h1, h2⟩ : ∃ fr1, wC Vv (wv Vv) witW lp63_1 (K63 p t [108, 101, 116] k) H = some (.nrm, fr1, H) ∧ wkeep [0, 2, 4, 6] fr1 = K63 p t [108, 101, 116] ((k : Int) - 1) := by
          refine ⟨?_, ?_, ?_⟩
          rotate_left
          · simp [-getElem?_pos, List.getElem?_cons_zero, lp63_1, K63, hp, hlt, hx, c1, n1, w1, hf]
            rfl
          · simp [K63, tkC, w1, hf]
        obtain ⟨fr', h3⟩ := ih (by omega) fr1 h2
        refine ⟨fr', ?_⟩
        have e' : wC Vv (wv Vv) witW (.loop [0, 2, 4, 6] lp63_1) fr H = wC Vv (wv Vv) witW (.loop [0, 2, 4, 6] lp63_1) fr1 H := by
          rw [w_loop, witW_eq, hkeep, h1]; rfl
        rw [e', hg]
        exact h3
      · by_cases hew : e.word = [108, 101, 116]
        · have hz := hew
          have hg : seeks [108, 101, 116] ([108, 101, 116] == wLet) e = true := by simp [seeks, hf, hew, wLet]
          rw [if_pos hg]
          refine ⟨?_, ?_, ?_⟩
          rotate_left
          · rw [w_loop, witW_eq, hkeep]
            simp [-getElem?_pos, List.getElem?_cons_zero, lp63_1, K63, hp, hlt, hx, c1, n1, w1, hf, hew]
            rfl
          · simp [K63, toI, hf, hew]
        · have hz := hew
          have hg : seeks [108, 101, 116] ([108, 101, 116] == wLet) e = false := by simp [seeks, hf, hew, wLet]
          obtain ⟨fr1, h1, h2⟩ : ∃ fr1, wC Vv (wv Vv) witW lp63_1 (K63 p t [108, 101, 116] k) H = some (.nrm, fr1, H) ∧ wkeep [0, 2, 4, 6] fr1 = K63 p t [108, 101, 116] ((k : Int) - 1) := by
            refine ⟨?_, ?_, ?_⟩
            rotate_left
            · simp [-getElem?_pos, List.getElem?_cons_zero, lp63_1, K63, hp, hlt, hx, c1, n1, w1, hf, hew]
              rfl
            · simp [K63, tkC, w1, hf, hew]
          obtain ⟨fr', h3⟩ := ih (by omega) fr1 h2
          refine ⟨fr', ?_⟩
          have e' : wC Vv (wv Vv) witW (.loop [0, 2, 4, 6] lp63_1) fr H = wC Vv (wv Vv) witW (.loop [0, 2, 4, 6] lp63_1) fr1 H := by
            rw [w_loop, witW_eq, hkeep, h1]; rfl
          rw [e', hg]
          exact h3
    · cases hf : e.form
      · have hz := hf
        have hg : seeks w (w == wLet) e = false := by simp [seeks, hf, hwl, wLet]
        obtain ⟨fr1, h1, h2⟩ : ∃ fr1, wC Vv (wv Vv) witW lp63_1 (K63 p t w k) H = some (.nrm, fr1, H) ∧ wkeep [0, 2, 4, 6] fr1 = K63 p t w ((k : Int) - 1) := by
          refine ⟨?_, ?_, ?_⟩
          rotate_left
          · simp [-getElem?_pos, List.getElem?_cons_zero, lp63_1, K63, hp, hlt, hx, c1, n1, w1, hf, hwl]
            rfl
          · simp [K63, tkC, w1, hf, hwl]
        obtain ⟨fr', h3⟩ := ih (by omega) fr1 h2
        refine ⟨fr', ?_⟩
        have e' : wC Vv (wv Vv) witW (.loop [0, 2, 4, 6] lp63_1) fr H = wC Vv (wv Vv) witW (.loop [0, 2, 4, 6] lp63_1) fr1 H := by
          rw [w_loop, witW_eq, hkeep, h1]; rfl
        rw [e', hg]
        exact h3
      · have hz := hf
        have hg : seeks w (w == wLet) e = false := by simp [seeks, hf, hwl, wLet]
        obtain ⟨fr1, h1, h2⟩ : ∃ fr1, wC Vv (wv Vv) witW lp63_1 (K63 p t w k) H = some (.nrm, fr1, H) ∧ wkeep [0, 2, 4, 6] fr1 = K63 p t w ((k : Int) - 1) := by
          refine ⟨?_, ?_, ?_⟩
          rotate_left
          · simp [-getElem?_pos, List.getElem?_cons_zero, lp63_1, K63, hp, hlt, hx, c1, n1, w1, hf, hwl]
            rfl
          · simp [K63, tkC, w1, hf, hwl]
        obtain ⟨fr', h3⟩ := ih (by omega) fr1 h2
        refine ⟨fr', ?_⟩
        have e' : wC Vv (wv Vv) witW (.loop [0, 2, 4, 6] lp63_1) fr H = wC Vv (wv Vv) witW (.loop [0, 2, 4, 6] lp63_1) fr1 H := by
          rw [w_loop, witW_eq, hkeep, h1]; rfl
        rw [e', hg]
        exact h3
      · have hz := hf
        have hg : seeks w (w == wLet) e = false := by simp [seeks, hf, hwl, wLet]
        obtain ⟨fr1, h1, h2⟩ : ∃ fr1, wC Vv (wv Vv) witW lp63_1 (K63 p t w k) H = some (.nrm, fr1, H) ∧ wkeep [0, 2, 4, 6] fr1 = K63 p t w ((k : Int) - 1) := by
          refine ⟨?_, ?_, ?_⟩
          rotate_left
          · simp [-getElem?_pos, List.getElem?_cons_zero, lp63_1, K63, hp, hlt, hx, c1, n1, w1, hf, hwl]
            rfl
          · simp [K63, tkC, w1, hf, hwl]
        obtain ⟨fr', h3⟩ := ih (by omega) fr1 h2
        refine ⟨fr', ?_⟩
        have e' : wC Vv (wv Vv) witW (.loop [0, 2, 4, 6] lp63_1) fr H = wC Vv (wv Vv) witW (.loop [0, 2, 4, 6] lp63_1) fr1 H := by
          rw [w_loop, witW_eq, hkeep, h1]; rfl
        rw [e', hg]
        exact h3
      · have hz := hf
        have hg : seeks w (w == wLet) e = false := by simp [seeks, hf, hwl, wLet]
        obtain ⟨fr1, h1, h2⟩ : ∃ fr1, wC Vv (wv Vv) witW lp63_1 (K63 p t w k) H = some (.nrm, fr1, H) ∧ wkeep [0, 2, 4, 6] fr1 = K63 p t w ((k : Int) - 1) := by
          refine ⟨?_, ?_, ?_⟩
          rotate_left
          · simp [-getElem?_pos, List.getElem?_cons_zero, lp63_1, K63, hp, hlt, hx, c1, n1, w1, hf, hwl]
            rfl
          · simp [K63, tkC, w1, hf, hwl]
        obtain ⟨fr', h3⟩ := ih (by omega) fr1 h2
        refine ⟨fr', ?_⟩
        have e' : wC Vv (wv Vv) witW (.loop [0, 2, 4, 6] lp63_1) fr H = wC Vv (wv Vv) witW (.loop [0, 2, 4, 6] lp63_1) fr1 H := by
          rw [w_loop, witW_eq, hkeep, h1]; rfl
        rw [e', hg]
        exact h3
      · by_cases hew : e.word = w
        · have hz := hew
          have hg : seeks w (w == wLet) e = true := by simp [seeks, hf, hew, hwl, wLet]
          rw [if_pos hg]
          refine ⟨?_, ?_, ?_⟩
          rotate_left
          · rw [w_loop, witW_eq, hkeep]
            simp [-getElem?_pos, List.getElem?_cons_zero, lp63_1, K63, hp, hlt, hx, c1, n1, w1, hf, hwl, hew]
            rfl
          · simp [K63, toI, hf, hwl, hew]
        · have hz := hew
          have hg : seeks w (w == wLet) e = false := by simp [seeks, hf, hew, hwl, wLet]
          obtain ⟨fr1, h1, h2⟩ : ∃ fr1, wC Vv (wv Vv) witW lp63_1 (K63 p t w k) H = some (.nrm, fr1, H) ∧ wkeep [0, 2, 4, 6] fr1 = K63 p t w ((k : Int) - 1) := by
            refine ⟨?_, ?_, ?_⟩
            rotate_left
            · simp [-getElem?_pos, List.getElem?_cons_zero, lp63_1, K63, hp, hlt, hx, c1, n1, w1, hf, hwl, hew]
              rfl
            · simp [K63, tkC, w1, hf, hwl, hew]
          obtain ⟨fr', h3⟩ := ih (by omega) fr1 h2
          refine ⟨fr', ?_⟩
          have e' : wC Vv (wv Vv) witW (.loop [0, 2, 4, 6] lp63_1) fr H = wC Vv (wv Vv) witW (.loop [0, 2, 4, 6] lp63_1) fr1 H := by
            rw [w_loop, witW_eq, hkeep, h1]; rfl
          rw [e', hg]
          exact h3
end Go.Proofs.TryL
/- Layout, the reference's Insert: seek, whole. -/
set_option linter.unusedSimpArgs false
set_option linter.unusedVariables false
namespace Go.Proofs.TryL
open Go.Proofs.Lz

set_option maxHeartbeats 4000000 in
theorem seek63 {H : WHeap} {p : Nat} {s : St} {f : Flt} {l : Ln} (t : Tok) (w : List UInt8) (h : RepR H p s f l) (hl : s.stack.length < 100000000) (hb : s.out.length + s.stack.length < 1000000000) :
    ∃ H', wv Vv 63 [.ptr p 0, tC t, .c (.str w)] H = some (.tup [], H') ∧ (match seekS s w (w == wLet) (w == wIf) with
      | none => RepR H' p s (flt t) l
      | some s' => RepR H' p s' f l) ∧ Kp p H H' := by
  have h0 := h
  obtain ⟨Hf, f1, f2, f3⟩ := fails32 t h
  have L := fun fr hk => loop63 t w h (by omega) s.stack.length (Nat.le_refl _) fr hk
  obtain ⟨vs, vo, hp, hs, ho⟩ := h
  obtain ⟨us, t2, hsc⟩ := hs.thaw
  obtain ⟨uo, t1, _⟩ := ho.thaw
  have ht := fun r => written59 us r s.stack (SR_of hsc) (by omega) []
  have w1 : IntKind.i64.wrap ((s.stack.length : Int) - 1) = (s.stack.length : Int) - 1 := wrap_id (by omega) (by omega)
  rcases hs with ⟨rfl, hs⟩ | rfl
  · have hs' : s.stack = [] := by simpa using hs
    have e : seekS s w (w == wLet) (w == wIf) = none := by simp [seekS, hs', last, lastN]
    rw [e]
    refine ⟨Hf, ?_, f2, f3⟩
    rw [wv_eq, wFn, vfn63]
    simp [ic63, tC, hp]
    generalize hX : ({ env := _, al := _ } : WFr) = X
    obtain ⟨fr', g0, ga, gb, gc, gd, g67, g68, g69, g70, g71, g72, g73, g74, g75, g76, g77, g78, g79, g80, g81, g82, g83, g84, g85, g86⟩ := L X (by subst hX; simp [K63, tkC, hs', show IntKind.i64.wrap (-1) = -1 from by decide])
    rw [g0]
    rw [hs'] at gd
    simp only [List.length_nil, lastN, toI] at gd
    simp only [tkC] at gc
    simp [ga, gb, gc, gd, g67, g68, g69, g70, g71, g72, g73, g74, g75, g76, g77, g78, g79, g80, g81, g82, g83, g84, g85, g86, hp, f1]
  · have hu : us = .frz (some 4) (s.stack.map elR) := by have := t2 (.hp 0 0); simpa using this.symm
    subst hu
    cases hA : last (seeks w (w == wLet)) s.stack with
    | none =>
      have e : seekS s w (w == wLet) (w == wIf) = none := by simp [seekS, hA]
      rw [e]
      refine ⟨Hf, ?_, f2, f3⟩
      rw [wv_eq, wFn, vfn63]
      simp [ic63, tC, hp, w1]
      generalize hX : ({ env := _, al := _ } : WFr) = X
      obtain ⟨fr', g0, ga, gb, gc, gd, g67, g68, g69, g70, g71, g72, g73, g74, g75, g76, g77, g78, g79, g80, g81, g82, g83, g84, g85, g86⟩ := L X (by subst hX; simp [K63, tkC])
      rw [g0]
      rw [show lastN (seeks w (w == wLet)) s.stack s.stack.length = none from hA] at gd
      simp only [toI] at gd
      simp only [tkC] at gc
      simp [ga, gb, gc, gd, g67, g68, g69, g70, g71, g72, g73, g74, g75, g76, g77, g78, g79, g80, g81, g82, g83, g84, g85, g86, hp, f1]
    | some i =>
      have hlt := (last_above hA).1
      have hn : ¬ ((i : Int) < 0) := by omega
      by_cases hwr : (i : Int) < toI (last isWr s.stack)
      · have e : seekS s w (w == wLet) (w == wIf) = none := by simp only [seekS, hA, if_pos hwr]
        rw [e]
        refine ⟨Hf, ?_, f2, f3⟩
        rw [wv_eq, wFn, vfn63]
        simp [ic63, tC, hp, w1]
        generalize hX : ({ env := _, al := _ } : WFr) = X
        obtain ⟨fr', g0, ga, gb, gc, gd, g67, g68, g69, g70, g71, g72, g73, g74, g75, g76, g77, g78, g79, g80, g81, g82, g83, g84, g85, g86⟩ := L X (by subst hX; simp [K63, tkC])
        rw [g0]
        rw [show lastN (seeks w (w == wLet)) s.stack s.stack.length = some i from hA, toI_some] at gd
        simp only [tkC] at gc
        simp [ga, gb, gc, gd, g67, g68, g69, g70, g71, g72, g73, g74, g75, g76, g77, g78, g79, g80, g81, g82, g83, g84, g85, g86, hp, f1, t1, t2, ht, hn, hwr]
      · obtain ⟨H1, i1, i2, i3⟩ := cut33 i h0 (by omega) hb
        have w2 : IntKind.i64.wrap ((i : Int) - 1) = (i : Int) - 1 := wrap_id (by omega) (by omega)
        by_cases hif : w = wIf
        · have e : seekS s w (w == wLet) (w == wIf) = some ((s.cut i).push (pend wThen)) := by simp only [seekS, hA, if_neg hwr]; rw [if_pos (by simp [hif])]
          rw [e]
          obtain ⟨H2, j1, j2, j3⟩ := push57 (pend wThen) i2 (by simp only [St.cut, List.length_take]; omega)
          simp only [pend, wThen, show Fm.pe.r = 5 from rfl] at j1
          simp only [wIf] at hif
          refine ⟨H2, ?_, j2, i3.trans j3⟩
          rw [wv_eq, wFn, vfn63]
          simp [ic63, tC, hp, w1]
          generalize hX : ({ env := _, al := _ } : WFr) = X
          obtain ⟨fr', g0, ga, gb, gc, gd, g67, g68, g69, g70, g71, g72, g73, g74, g75, g76, g77, g78, g79, g80, g81, g82, g83, g84, g85, g86⟩ := L X (by subst hX; simp [K63, tkC])
          rw [g0]
          rw [show lastN (seeks w (w == wLet)) s.stack s.stack.length = some i from hA, toI_some] at gd
          simp only [tkC] at gc
          simp [ga, gb, gc, gd, g67, g68, g69, g70, g71, g72, g73, g74, g75, g76, g77, g78, g79, g80, g81, g82, g83, g84, g85, g86, hp, t1, t2, ht, hn, hwr, i1, w2, hif, j1]
        · have e : seekS s w (w == wLet) (w == wIf) = some (s.cut i) := by simp only [seekS, hA, if_neg hwr]; rw [if_neg (by simp [hif])]
          rw [e]
          simp only [wIf] at hif
          refine ⟨H1, ?_, i2, i3⟩
          rw [wv_eq, wFn, vfn63]
          simp [ic63, tC, hp, w1]
          generalize hX : ({ env := _, al := _ } : WFr) = X
          obtain ⟨fr', g0, ga, gb, gc, gd, g67, g68, g69, g70, g71, g72, g73, g74, g75, g76, g77, g78, g79, g80, g81, g82, g83, g84, g85, g86⟩ := L X (by subst hX; simp [K63, tkC])
          rw [g0]
          rw [show lastN (seeks w (w == wLet)) s.stack s.stack.length = some i from hA, toI_some] at gd
          simp only [tkC] at gc
          simp [ga, gb, gc, gd, g67, g68, g69, g70, g71, g72, g73, g74, g75, g76, g77, g78, g79, g80, g81, g82, g83, g84, g85, g86, hp, t1, t2, ht, hn, hwr, i1, w2, hif]
end Go.Proofs.TryL
