/- Layout: rule 2. -/
import Derived.Test.YtmjofajbfondhaaLzLayR
set_option linter.unusedSimpArgs false
set_option linter.unusedVariables false
namespace Go.Proofs.TryL
open Go.Proofs.Lz

def tkC (t : Tok) : CV := .agg [.int .i64 t.op, .str t.mod, .str t.text, .int .i64 t.n, .bool t.auto, .int .i64 t.line, .int .i64 t.col]
def K20i (p : Nat) (t : Tok) (i : Nat) (rest : List El) (j : Nat) : WFr := { env := wassoc [(0, .ptr p 0), (3, .lbox (some 7) (.c (tkC t))), (5, .c (.int .i64 i)), (63, .view (.hp p 1) false (i + 1) 47 (some 4) (rest.map elC)), (64, .c (.int .i64 rest.length)), (65, .c (.int .i64 j))], al := noAl }
theorem inner20 {H : WHeap} {p : Nat} {s : St} {f : Flt} {t : Tok} {i : Nat} {rest : List El} (h : Rep H p s f) (hr : rest.length < 1000000000) : ∀ (k j : Nat), j + k = rest.length → ∀ fr, wkeep [0, 3, 5, 63, 64, 65] fr = K20i p t i rest j →
    if (rest.drop j).any isPB = true then ∃ fr' H', wC Vv (wv Vv) witW (.loop [0, 3, 5, 63, 64, 65] lp20_1) fr H = some (.ret, fr', H') ∧ fr'.env 4 = .c (.bool false) ∧ Rep H' p s (flt t) ∧ Kp p H H'
    else ∃ fr', wC Vv (wv Vv) witW (.loop [0, 3, 5, 63, 64, 65] lp20_1) fr H = some (.exit 2, fr', H) ∧ fr'.env 0 = .ptr p 0 ∧ fr'.env 3 = .lbox (some 7) (.c (tkC t)) ∧ fr'.env 5 = .c (.int .i64 i) := by
  intro k
  induction k with
  | zero =>
    intro j hj fr hk
    have : j = rest.length := by omega
    subst this
    simp only [List.drop_length, List.any_nil, Bool.false_eq_true, if_false]
    refine ⟨?_, ?_, ?_, ?_, ?_⟩
    rotate_left
    · rw [w_loop, witW_eq, hk]
      simp [lp20_1, K20i]
      rfl
    · simp [K20i]
    · simp [K20i]
    · simp [K20i]
  | succ k ih =>
    intro j hj fr hk
    have hlt : j < rest.length := by omega
    have hd : rest.drop j = rest[j] :: rest.drop (j + 1) := List.drop_eq_getElem_cons hlt
    have hx : (rest.map elC)[j]? = some (elC rest[j]) := by simp [hlt]
    have c1 : (j : Int) < rest.length := by omega
    have w1 : IntKind.i64.wrap ((j : Int) + 1) = (j : Int) + 1 := by rw [wrap_id] <;> omega
    cases hpb : isPB rest[j] with
    | true =>
      obtain ⟨H1, i1, i2, i3⟩ := fail28 t h
      rw [if_pos (by rw [hd, List.any_cons, hpb]; rfl)]
      have hf : rest[j].form = .pa ∨ rest[j].form = .br := by cases hq : rest[j].form <;> simp [isPB, hq] at hpb ⊢
      have key : ∃ fr', wC Vv (wv Vv) witW (.loop [0, 3, 5, 63, 64, 65] lp20_1) fr H = some (.ret, fr', H1) ∧ fr'.env 4 = .c (.bool false) := by
        rw [w_loop, witW_eq, hk]
        rcases hf with hf | hf
        · refine ⟨?_, ?_, ?_⟩
          rotate_left
          · simp [-getElem?_pos, List.getElem?_cons_zero, lp20_1, K20i, tkC, hx, c1, hf, i1, hlt]
            rfl
          · simp
        · refine ⟨?_, ?_, ?_⟩
          rotate_left
          · simp [-getElem?_pos, List.getElem?_cons_zero, lp20_1, K20i, tkC, hx, c1, hf, i1, hlt]
            rfl
          · simp
      obtain ⟨fr', k1, k2⟩ := key
      exact ⟨fr', H1, k1, k2, i2, i3⟩
    | false =>
      have hf : rest[j].form ≠ .pa ∧ rest[j].form ≠ .br := by cases hq : rest[j].form <;> simp [isPB, hq] at hpb ⊢
      obtain ⟨fr1, h1, h2⟩ : ∃ fr1, wC Vv (wv Vv) witW lp20_1 (K20i p t i rest j) H = some (.nrm, fr1, H) ∧ wkeep [0, 3, 5, 63, 64, 65] fr1 = K20i p t i rest (j + 1) := by
        refine ⟨?_, ?_, ?_⟩
        rotate_left
        · simp [-getElem?_pos, List.getElem?_cons_zero, lp20_1, K20i, tkC, hx, c1, hf.1, hf.2, w1, hlt]
          rfl
        · simp [K20i, tkC]
      have := ih (j + 1) (by omega) fr1 h2
      have e : wC Vv (wv Vv) witW (.loop [0, 3, 5, 63, 64, 65] lp20_1) fr H = wC Vv (wv Vv) witW (.loop [0, 3, 5, 63, 64, 65] lp20_1) fr1 H := by
        rw [w_loop, witW_eq, hk, h1]; rfl
      rw [e, hd, List.any_cons, hpb, Bool.false_or]
      exact this
def K20 (p : Nat) (t : Tok) : WFr := { env := wassoc [(0, .ptr p 0), (3, .lbox (some 7) (.c (tkC t)))], al := noAl }
/-- One round of rule 2. -/
theorem round20 {H : WHeap} {p : Nat} {s : St} {f : Flt} (t : Tok) (h : Rep H p s f) (hl : s.stack.length < 100000000) (hb : s.out.length < 1000000000) :
    match last isBlock s.stack with
    | none => ∃ fr', wC Vv (wv Vv) witW lp20_2 (K20 p t) H = some (.ret, fr', H) ∧ fr'.env 4 = .c (.bool true)
    | some i => ∀ e, s.stack[i]? = some e →
      if e.form ≠ .im ∨ e.col < t.col then ∃ fr', wC Vv (wv Vv) witW lp20_2 (K20 p t) H = some (.ret, fr', H) ∧ fr'.env 4 = .c (.bool true)
      else if t.col = e.col then ∃ fr' H', wC Vv (wv Vv) witW lp20_2 (K20 p t) H = some (.ret, fr', H') ∧ fr'.env 4 = .c (.bool true) ∧ Rep H' p { (s.ins [59]) with stack := s.stack.set i { e with mark := false } } f ∧ Kp p H H'
      else if (s.stack.drop (i + 1)).any isPB = true then ∃ fr' H', wC Vv (wv Vv) witW lp20_2 (K20 p t) H = some (.ret, fr', H') ∧ fr'.env 4 = .c (.bool false) ∧ Rep H' p s (flt t) ∧ Kp p H H'
      else ∃ fr' H', wC Vv (wv Vv) witW lp20_2 (K20 p t) H = some (.nrm, fr', H') ∧ wkeep [0, 3] fr' = K20 p t ∧ Rep H' p ({ (s.ins [125]) with stack := s.stack.take i }.wait e.word) f ∧ Kp p H H' := by
  have h0 := h
  obtain ⟨vo, vs, hp, ho, hs⟩ := h
  have hg := set_get hp
  obtain ⟨uo, t1, _⟩ := ho.thaw
  obtain ⟨us, t2, hsc⟩ := hs.thaw
  have ht := fun a r => top37 a us r s.stack 38 [] [] isBlock (SC_of hsc) (by omega) call38 []
  cases hlast : last isBlock s.stack with
  | none =>
    rw [hlast] at ht
    refine ⟨?_, ?_, ?_⟩
    rotate_left
    · simp [lp20_2, K20, hp, t1, t2, ht, toI]
      rfl
    · simp
  | some i =>
    rw [hlast] at ht
    intro e he
    have hv := SL.own hs he
    subst hv
    have hu : us = .frz (some 4) (s.stack.map elC) := by have := t2 (.hp 0 0); simpa using this.symm
    subst hu
    have hlt := (List.getElem?_eq_some_iff.1 he).1
    have hge : (s.stack.map elC)[i]? = some (elC e) := by simp [he]
    have hn : ¬ ((i : Int) < 0) := by omega
    by_cases c1 : e.form ≠ .im ∨ e.col < t.col
    · rw [if_pos c1]
      by_cases c2 : e.form = .im
      · have c3 : e.col < t.col := by rcases c1 with c1 | c1; exact (c1 c2).elim; exact c1
        refine ⟨?_, ?_, ?_⟩
        rotate_left
        · simp [-getElem?_pos, List.getElem?_cons_zero, lp20_2, K20, tkC, hp, t1, ht, toI, hge, hn, c2, c3]
          rfl
        · simp
      · refine ⟨?_, ?_, ?_⟩
        rotate_left
        · simp [-getElem?_pos, List.getElem?_cons_zero, lp20_2, K20, tkC, hp, t1, ht, toI, hge, hn, c2]
          rfl
        · simp
    · rw [if_neg c1]
      have c2 : e.form = .im := by cases hq : e.form <;> simp [hq] at c1 ⊢
      have c3 : ¬ e.col < t.col := fun h => c1 (.inr h)
      by_cases c4 : t.col = e.col
      · rw [if_pos c4]
        obtain ⟨H1, i1, i2, i3⟩ := insert23 [59] h0 hb
        obtain ⟨vo1, hp1, ho1⟩ := i2.own (by simp only [St.ins]; intro e0; rw [e0] at he; cases he)
        have hg1 := set_get hp1
        simp only [St.ins] at hp1
        have hse : (s.stack.map elC).set i (.agg [.int .i64 0, .int .i64 e.col, .str e.word, .bool false]) = (s.stack.set i { e with mark := false }).map elC := by rw [List.map_set]; simp [c2, Fm.p]
        refine ⟨?_, H1.set p (.var (some 8) [vo1, .own true 47 (some 4) ((s.stack.set i { e with mark := false }).map elC), .c (.bool s.expect), .c (.str s.word), .c (.int .i64 f.code), .c (.str f.name), .c (.int .i64 f.line), .c (.int .i64 f.col)]), ?_, ?_, ⟨vo1, _, set_get hp1 _, ho1, .inr rfl⟩, i3.trans (Kp.set _ _ _)⟩
        rotate_left
        · rw [← hse]
          simp [-getElem?_pos, List.getElem?_cons_zero, lp20_2, K20, tkC, hp, t1, ht, toI, hge, hn, c2, c4, i1, hp1, hg1, hlt, show Fm.im.p = 0 from rfl]
          rfl
        · simp
      · rw [if_neg c4]
        have hrl : (s.stack.drop (i + 1)).length < 1000000000 := by simp only [List.length_drop]; omega
        have inn := inner20 (t := t) (i := i) h0 hrl (s.stack.drop (i + 1)).length 0 (by omega)
        have w1 : IntKind.i64.wrap ((i : Int) + 1) = (i : Int) + 1 := by rw [wrap_id] <;> omega
        have k1 : (0 : Int) ≤ (i : Int) + 1 := by omega
        have k2 : (i : Int) + 1 ≤ s.stack.length := by omega
        have k3 : ((i : Int) + 1).toNat = i + 1 := by omega
        have k4 : ¬ ((i : Int) + 1 = 0) := by omega
        have k5 : List.take (s.stack.length - (i + 1)) (List.drop (i + 1) (s.stack.map elC)) = (s.stack.drop (i + 1)).map elC := by rw [← List.map_drop, List.take_of_length_le (by simp)]
        simp only [List.drop_zero] at inn
        by_cases c5 : (s.stack.drop (i + 1)).any isPB = true
        · rw [if_pos c5]
          simp only [if_pos c5] at inn
          have key : ∃ fr' H', wC Vv (wv Vv) witW lp20_2 (K20 p t) H = some (.ret, fr', H') ∧ fr'.env 4 = .c (.bool false) ∧ Rep H' p s (flt t) ∧ Kp p H H' := by
            simp [-getElem?_pos, List.getElem?_cons_zero, lp20_2, K20, tkC, hp, t1, ht, toI, hge, hn, c2, c3, c4, w1, k1, k2, k3, k4, k5]
            generalize hX : ({ env := _, al := _ } : WFr) = X
            obtain ⟨fr', H', l1, l2, l3, l4⟩ := inn X (by subst hX; simp [K20i, tkC])
            rw [l1]
            exact ⟨fr', H', rfl, l2, l3, l4⟩
          exact key
        · rw [if_neg c5]
          simp only [if_neg c5] at inn
          obtain ⟨H1, i1, i2, i3⟩ := insert23 [125] h0 hb
          obtain ⟨vo1, hp1, ho1⟩ := i2.own (by simp only [St.ins]; intro e0; rw [e0] at he; cases he)
          have hg1 := set_get hp1
          simp only [St.ins] at hp1
          have mid : Rep (H1.set p (.var (some 8) [vo1, .own true 47 (some 4) ((s.stack.take (i + 1)).map elC), .c (.bool s.expect), .c (.str s.word), .c (.int .i64 f.code), .c (.str f.name), .c (.int .i64 f.line), .c (.int .i64 f.col)])) p { (s.ins [125]) with stack := s.stack.take (i + 1) } f := ⟨vo1, _, set_get hp1 _, ho1, .inr rfl⟩
          have hst : s.stack.take (i + 1) = s.stack.take i ++ [e] := by rw [List.take_add_one, he]; rfl
          obtain ⟨H2, j1, j2, j3⟩ := remove40 mid (st := s.stack.take i) (e := e) hst (by simp only [List.length_take]; omega)
          have hpop : St.pop { (s.ins [125]) with stack := s.stack.take (i + 1) } e (s.stack.take i) = ({ (s.ins [125]) with stack := s.stack.take i } : St).wait e.word := by simp [St.pop, isBlock, c2]
          rw [hpop] at j2
          simp only [List.map_take] at j1
          have key : ∃ fr', wC Vv (wv Vv) witW lp20_2 (K20 p t) H = some (.nrm, fr', H2) ∧ wkeep [0, 3] fr' = K20 p t := by
            simp [-getElem?_pos, List.getElem?_cons_zero, lp20_2, K20, tkC, hp, t1, ht, toI, hge, hn, c2, c3, c4, w1, k1, k2, k3, k4, k5]
            generalize hX : ({ env := _, al := _ } : WFr) = X
            obtain ⟨fr', l1, l2, l3, l4⟩ := inn X (by subst hX; simp [K20i, tkC])
            rw [l1]
            simp only [tkC] at l3
            simp [-getElem?_pos, List.getElem?_cons_zero, l2, l3, l4, i1, hp1, hg1, w1, k1, k2, k3, k4, j1]
          obtain ⟨fr', k1, k2⟩ := key
          exact ⟨fr', H2, k1, k2, j2, (i3.trans (Kp.set _ _ _)).trans j3⟩

theorem last_count {l : List El} {g : El → Bool} {i : Nat} (h : last g l = some i) : (l.take i).countP g < l.countP g := by
  obtain ⟨e, he, hg⟩ := last_get h
  have hlt := (List.getElem?_eq_some_iff.1 he).1
  have : l = l.take i ++ (l.drop i) := (List.take_append_drop i l).symm
  have hd : l.drop i = e :: l.drop (i + 1) := by rw [List.drop_eq_getElem_cons hlt]; congr 1; rw [List.getElem?_eq_getElem hlt] at he; injection he
  have e1 : l.countP g = (l.take i).countP g + (l.drop i).countP g := by rw [← List.countP_append, ← this]
  rw [e1, hd, List.countP_cons, hg]
  simp
theorem wait_count {g : El → Bool} (hg : ∀ w, g (pend w) = false) (s : St) (w : List UInt8) : (s.wait w).stack.countP g = s.stack.countP g := by
  unfold St.wait
  split
  · simp only [St.push, List.countP_append, List.countP_cons, List.countP_nil, hg]; rfl
  · rfl
theorem wait_len (s : St) (w : List UInt8) : (s.wait w).stack.length ≤ s.stack.length + 1 ∧ (s.wait w).out = s.out := by
  unfold St.wait
  split
  · simp [St.push]
  · simp
/-- Rule 2, from a frame. -/
theorem loop20 {p : Nat} {f : Flt} (t : Tok) : ∀ (k : Nat) {H : WHeap} {s : St}, Rep H p s f → s.stack.countP isBlock < k → s.stack.length < 100000000 → s.out.length + k < 1000000000 → ∀ fr, wkeep [0, 3] fr = K20 p t →
    ∃ fr' H', (match lines t k s with
      | none => wC Vv (wv Vv) witW (.loop [0, 3] lp20_2) fr H = some (.ret, fr', H') ∧ fr'.env 4 = .c (.bool false) ∧ ∃ s2, Rep H' p s2 (flt t)
      | some s' => wC Vv (wv Vv) witW (.loop [0, 3] lp20_2) fr H = some (.ret, fr', H') ∧ fr'.env 4 = .c (.bool true) ∧ Rep H' p s' f) ∧ Kp p H H' := by
  intro k
  induction k with
  | zero => intro H s _ h; omega
  | succ k ih =>
    intro H s h hk hl hb fr hkeep
    have rd := round20 t h hl (by omega)
    have ret : ∀ {fr' H'}, wC Vv (wv Vv) witW lp20_2 (K20 p t) H = some (.ret, fr', H') → wC Vv (wv Vv) witW (.loop [0, 3] lp20_2) fr H = some (.ret, fr', H') := by
      intro fr' H' hh
      rw [w_loop, witW_eq, hkeep, hh]
    simp only [lines]
    cases hlast : last isBlock s.stack with
    | none =>
      rw [hlast] at rd
      obtain ⟨fr', r1, r2⟩ := rd
      exact ⟨fr', H, ⟨ret r1, r2, h⟩, Kp.refl _ _⟩
    | some i =>
      rw [hlast] at rd
      obtain ⟨e, he, hbk⟩ := last_get hlast
      have rd := rd e he
      simp only [he]
      by_cases c1 : e.form ≠ .im ∨ e.col < t.col
      · rw [if_pos c1] at rd
        rw [if_pos c1]
        obtain ⟨fr', r1, r2⟩ := rd
        exact ⟨fr', H, ⟨ret r1, r2, h⟩, Kp.refl _ _⟩
      · rw [if_neg c1] at rd
        rw [if_neg c1]
        by_cases c2 : t.col = e.col
        · rw [if_pos c2] at rd
          rw [if_pos c2]
          obtain ⟨fr', H', r1, r2, r3, r4⟩ := rd
          exact ⟨fr', H', ⟨ret r1, r2, r3⟩, r4⟩
        · rw [if_neg c2] at rd
          rw [if_neg c2]
          by_cases c3 : (s.stack.drop (i + 1)).any isPB = true
          · rw [if_pos c3] at rd
            rw [if_pos c3]
            obtain ⟨fr', H', r1, r2, r3, r4⟩ := rd
            exact ⟨fr', H', ⟨ret r1, r2, s, r3⟩, r4⟩
          · rw [if_neg c3] at rd
            rw [if_neg c3]
            obtain ⟨fr1, H1, r1, r2, r3, r4⟩ := rd
            have hlt := (List.getElem?_eq_some_iff.1 he).1
            have b1 := wait_count (g := isBlock) (fun w => rfl) ({ (s.ins [125]) with stack := s.stack.take i } : St) e.word
            have b2 := last_count hlast
            obtain ⟨b3, b4⟩ := wait_len ({ (s.ins [125]) with stack := s.stack.take i } : St) e.word
            obtain ⟨fr', H', q1, q2⟩ := ih r3 (by rw [b1]; simp only; omega) (by have b5 : _ ≤ (s.stack.take i).length + 1 := b3; rw [List.length_take] at b5; refine Nat.lt_of_le_of_lt b5 ?_; omega) (by rw [b4]; show (s.out ++ [insT [125]]).length + k < _; simp only [List.length_append, List.length_cons, List.length_nil]; omega) fr1 r2
            refine ⟨fr', H', ?_, r4.trans q2⟩
            have eq : wC Vv (wv Vv) witW (.loop [0, 3] lp20_2) fr H = wC Vv (wv Vv) witW (.loop [0, 3] lp20_2) fr1 H1 := by rw [w_loop, witW_eq, hkeep, r1]; rfl
            rw [eq]
            exact q1
theorem lines20 {H : WHeap} {p : Nat} {s : St} {f : Flt} (t : Tok) (h : Rep H p s f) (hl : s.stack.length < 100000000) (hb : s.out.length < 100000000) :
    ∃ H', (match lines t (s.stack.length + 1) s with
      | none => wv Vv 20 [.ptr p 0, .c (.agg [.int .i64 t.op, .str t.mod, .str t.text, .int .i64 t.n, .bool t.auto, .int .i64 t.line, .int .i64 t.col])] H = some (.c (.bool false), H') ∧ ∃ s2, Rep H' p s2 (flt t)
      | some s' => wv Vv 20 [.ptr p 0, .c (.agg [.int .i64 t.op, .str t.mod, .str t.text, .int .i64 t.n, .bool t.auto, .int .i64 t.line, .int .i64 t.col])] H = some (.c (.bool true), H') ∧ Rep H' p s' f) ∧ Kp p H H' := by
  have L := fun fr hk => loop20 t (s.stack.length + 1) h (Nat.lt_succ_of_le List.countP_le_length) hl (by omega) fr hk
  have ent : ∃ X, wkeep [0, 3] X = K20 p t ∧ ∀ (fr' : WFr) (H' : WHeap) (b : Bool), wC Vv (wv Vv) witW (.loop [0, 3] lp20_2) X H = some (.ret, fr', H') → fr'.env 4 = .c (.bool b) →
      wv Vv 20 [.ptr p 0, .c (.agg [.int .i64 t.op, .str t.mod, .str t.text, .int .i64 t.n, .bool t.auto, .int .i64 t.line, .int .i64 t.col])] H = some (.c (.bool b), H') := by
    refine ⟨{ env := upd (upd (hitF (isSlot 3) false { env := wassoc (wbinds 0 [.ptr p 0, .c (tkC t)]), al := noAl }).env 3 (.lbox (some 7) (.c (tkC t)))) 4 (.c (.bool false)), al := upd noAl 4 none }, ?_, ?_⟩
    · simp [K20, tkC]
    · intro fr' H' b h1 h2
      simp [tkC] at h1
      rw [wv_eq, wFn, vfn20]
      simp [ic20]
      rw [h1]
      simp [h2]
  obtain ⟨X, x1, x2⟩ := ent
  obtain ⟨fr', H', l1, l2⟩ := L X x1
  refine ⟨H', ?_, l2⟩
  cases hln : lines t (s.stack.length + 1) s with
  | none =>
    rw [hln] at l1
    exact ⟨x2 _ _ _ l1.1 l1.2.1, l1.2.2⟩
  | some s' =>
    rw [hln] at l1
    exact ⟨x2 _ _ _ l1.1 l1.2.1, l1.2.2⟩
end Go.Proofs.TryL
