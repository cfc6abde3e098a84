/- Layout, the reference's Insert: commas. -/
import Derived.Test.YtmjofajbfondhaaLzRefT
import Derived.Test.YtmjofajbfondhaaLzLayV
import Derived.Test.YtmjofajbfondhaaLzLayGr
set_option linter.unusedSimpArgs false
set_option linter.unusedVariables false
namespace Go.Proofs.TryL
open Go.Proofs.Lz
/-- The topmost context is an implicit block: cutting there closes it alone. -/
theorem cut_one {s : St} {i : Nat} {e : El} (h : last isCtx s.stack = some i) (he : s.stack[i]? = some e) (hi : e.form = .im) : s.cut i = { (s.ins [125]) with stack := s.stack.take i } := by
  have hlt := (last_above h).1
  have hge := (List.getElem?_eq_some_iff.1 he).2
  have h0 := countP_sub isIm_ctx _ (last_above h).2
  have hd : s.stack.drop i = e :: s.stack.drop (i + 1) := by rw [List.drop_eq_getElem_cons hlt, hge]
  have hc : (s.stack.drop i).countP isIm = 1 := by rw [hd, List.countP_cons, h0]; simp [isIm, hi]
  simp only [St.cut, hc]
  rfl
def K62 (p : Nat) : WFr := { env := wassoc [(0, .ptr p 0)], al := noAl }
set_option maxHeartbeats 4000000 in
theorem round62 {H : WHeap} {p : Nat} {s : St} {f : Flt} {l : Ln} (h : RepR H p s f l) (hl : s.stack.length < 100000000) (hb : s.out.length < 600000000) :
    match last isCtx s.stack with
    | none => ∃ fr', wC Vv (wv Vv) witW lp62_1 (K62 p) H = some (.ret, fr', H)
    | some i => ∀ e, s.stack[i]? = some e →
      if e.form ≠ .im ∨ (s.stack.take i).any isWr = false then ∃ fr', wC Vv (wv Vv) witW lp62_1 (K62 p) H = some (.ret, fr', H)
      else if e.word ≠ wDo ∧ e.word ≠ wOf ∧ e.mark = false then ∃ fr', wC Vv (wv Vv) witW lp62_1 (K62 p) H = some (.ret, fr', H)
      else ∃ fr' H', wC Vv (wv Vv) witW lp62_1 (K62 p) H = some (.nrm, fr', H') ∧ wkeep [0] fr' = K62 p ∧ RepR H' p ({ (s.ins [125]) with stack := s.stack.take i }.wait e.word) f l ∧ Kp p H H' := by
  have h0 := h
  obtain ⟨vs, vo, hp, hs, ho⟩ := h
  obtain ⟨uo, t1, _⟩ := ho.thaw
  obtain ⟨us, t2, hsc⟩ := hs.thaw
  have ht := fun r => context60 us r s.stack (SR_of hsc) (by omega) []
  have hw := fun r => written59 us r s.stack (SR_of hsc) (by omega) []
  cases hlast : last isCtx s.stack with
  | none =>
    rw [hlast] at ht
    refine ⟨?_, ?_⟩
    rotate_left
    · simp [lp62_1, K62, hp, t1, t2, ht, toI]
      rfl
  | some i =>
    rw [hlast] at ht
    intro e he
    have hv := SL.ownR hs he
    subst hv
    have hu : us = .frz (some 4) (s.stack.map elR) := by have := t2 (.hp 0 0); simpa using this.symm
    subst hu
    have hlt := (List.getElem?_eq_some_iff.1 he).1
    have hge : (s.stack.map elR)[i]? = some (elR e) := by simp [he]
    have hn : ¬ ((i : Int) < 0) := by omega
    have n1 : (0 : Int) ≤ i := by omega
    rw [toI_some] at ht
    by_cases c2 : e.form = .im
    · have hcw := comma_wr hlast he c2
      have w1 : IntKind.i64.wrap ((i : Int) - 1) = (i : Int) - 1 := by rw [wrap_id] <;> omega
      by_cases c1 : (s.stack.take i).any isWr = false
      · rw [if_pos (.inr c1)]
        have hw0 : toI (last isWr s.stack) < 0 := by rw [← hcw]; exact c1
        refine ⟨?_, ?_⟩
        rotate_left
        · simp [-getElem?_pos, List.getElem?_cons_zero, lp62_1, K62, hp, t1, ht, hw, hw0, hge, hn, n1, c2]
          rfl
      · have c3 : ¬ (e.form ≠ .im ∨ (s.stack.take i).any isWr = false) := by rintro (h | h); exact h c2; exact c1 h
        rw [if_neg c3]
        have hw0 : ¬ toI (last isWr s.stack) < 0 := by rw [← hcw]; exact c1
        by_cases c5 : e.word ≠ wDo ∧ e.word ≠ wOf ∧ e.mark = false
        · rw [if_pos c5]
          obtain ⟨d1, d2, d3⟩ := c5
          simp only [wDo, wOf] at d1 d2
          refine ⟨?_, ?_⟩
          rotate_left
          · simp [-getElem?_pos, List.getElem?_cons_zero, lp62_1, K62, hp, t1, ht, hw, hw0, hge, hn, n1, c2, d1, d2, d3]
            rfl
        · rw [if_neg c5]
          obtain ⟨H1, i1, i2, i3⟩ := cut33 i h0 (by omega) (by omega)
          rw [cut_one hlast he c2] at i2
          obtain ⟨H2, j1, j2, j3⟩ := wait58 e.word i2 (by simp only [List.length_take]; omega)
          have key : ∃ fr', wC Vv (wv Vv) witW lp62_1 (K62 p) H = some (.nrm, fr', H2) ∧ wkeep [0] fr' = K62 p := by
            by_cases d1 : e.word = [100, 111]
            · rw [d1] at j1
              refine ⟨?_, ?_, ?_⟩
              rotate_left
              · simp [-getElem?_pos, List.getElem?_cons_zero, lp62_1, K62, hp, t1, ht, hw, hw0, hge, hn, n1, c2, d1, w1, i1, j1]
                rfl
              · simp [K62]
            · by_cases d2 : e.word = [111, 102]
              · rw [d2] at j1
                refine ⟨?_, ?_, ?_⟩
                rotate_left
                · simp [-getElem?_pos, List.getElem?_cons_zero, lp62_1, K62, hp, t1, ht, hw, hw0, hge, hn, n1, c2, d2, w1, i1, j1]
                  rfl
                · simp [K62]
              · have d3 : e.mark = true := by
                  cases hm : e.mark with
                  | true => rfl
                  | false => exact (c5 ⟨d1, d2, hm⟩).elim
                refine ⟨?_, ?_, ?_⟩
                rotate_left
                · simp [-getElem?_pos, List.getElem?_cons_zero, lp62_1, K62, hp, t1, ht, hw, hw0, hge, hn, n1, c2, d1, d2, d3, w1, i1, j1]
                  rfl
                · simp [K62]
          obtain ⟨fr', k1, k2⟩ := key
          exact ⟨fr', H2, k1, k2, j2, i3.trans j3⟩
    · rw [if_pos (.inl c2)]
      refine ⟨?_, ?_⟩
      rotate_left
      · simp [-getElem?_pos, List.getElem?_cons_zero, lp62_1, K62, hp, t1, ht, hge, hn, n1, c2]
        rfl
theorem loop62 {p : Nat} {f : Flt} {l : Ln} : ∀ (k : Nat) {H : WHeap} {s : St}, RepR H p s f l → s.stack.countP isCtx ≤ k → s.stack.length < 100000000 → s.out.length + k < 600000000 → ∀ fr, wkeep [0] fr = K62 p →
    ∃ fr' H', wC Vv (wv Vv) witW (.loop [0] lp62_1) fr H = some (.ret, fr', H') ∧ RepR H' p (comma k s) f l ∧ Kp p H H' := by
  intro k
  induction k with
  | zero =>
    intro H s h hk hl hb fr hkeep
    have rd := round62 h hl (by omega)
    cases hlast : last isCtx s.stack with
    | none =>
      rw [hlast] at rd
      obtain ⟨fr', r1⟩ := rd
      exact ⟨fr', H, by rw [w_loop, witW_eq, hkeep, r1], by simpa [comma] using h, Kp.refl _ _⟩
    | some i => have := last_count hlast; omega
  | succ k ih =>
    intro H s h hk hl hb fr hkeep
    have rd := round62 h hl (by omega)
    have ret : ∀ {fr' H'}, wC Vv (wv Vv) witW lp62_1 (K62 p) H = some (.ret, fr', H') → wC Vv (wv Vv) witW (.loop [0] lp62_1) fr H = some (.ret, fr', H') := by
      intro fr' H' hh
      rw [w_loop, witW_eq, hkeep, hh]
    cases hlast : last isCtx s.stack with
    | none =>
      rw [hlast] at rd
      obtain ⟨fr', r1⟩ := rd
      exact ⟨fr', H, ret r1, by simpa [comma, hlast] using h, Kp.refl _ _⟩
    | some i =>
      rw [hlast] at rd
      obtain ⟨e, he, hbk⟩ := last_get hlast
      have rd := rd e he
      simp only [comma, hlast, he]
      by_cases c1 : e.form ≠ .im ∨ (s.stack.take i).any isWr = false
      · rw [if_pos c1] at rd ⊢
        obtain ⟨fr', r1⟩ := rd
        exact ⟨fr', H, ret r1, h, Kp.refl _ _⟩
      · rw [if_neg c1] at rd ⊢
        by_cases c2 : e.word ≠ wDo ∧ e.word ≠ wOf ∧ e.mark = false
        · rw [if_pos c2] at rd ⊢
          obtain ⟨fr', r1⟩ := rd
          exact ⟨fr', H, ret r1, h, Kp.refl _ _⟩
        · rw [if_neg c2] at rd ⊢
          obtain ⟨fr1, H1, r1, r2, r3, r4⟩ := rd
          have hlt := (List.getElem?_eq_some_iff.1 he).1
          have b1 := wait_count (g := isCtx) (fun w => rfl) ({ (s.ins [125]) with stack := s.stack.take i } : St) e.word
          have b2 := last_count hlast
          obtain ⟨b3, b4⟩ := wait_len ({ (s.ins [125]) with stack := s.stack.take i } : St) e.word
          obtain ⟨fr', H', q1, q2, q3⟩ := ih r3 (by rw [b1]; simp only; omega) (by have b5 : _ ≤ (s.stack.take i).length + 1 := b3; rw [List.length_take] at b5; refine Nat.lt_of_le_of_lt b5 ?_; omega) (by rw [b4]; show (s.out ++ [insT [125]]).length + k < _; simp only [List.length_append, List.length_cons, List.length_nil]; omega) fr1 r2
          refine ⟨fr', H', ?_, q2, r4.trans q3⟩
          have eq : wC Vv (wv Vv) witW (.loop [0] lp62_1) fr H = wC Vv (wv Vv) witW (.loop [0] lp62_1) fr1 H1 := by rw [w_loop, witW_eq, hkeep, r1]; rfl
          rw [eq]
          exact q1
theorem comma62 {H : WHeap} {p : Nat} {s : St} {f : Flt} {l : Ln} (h : RepR H p s f l) (hl : s.stack.length < 100000000) (hb : s.out.length < 100000000) :
    ∃ H', wv Vv 62 [.ptr p 0] H = some (.tup [], H') ∧ RepR H' p (comma s.stack.length s) f l ∧ Kp p H H' := by
  obtain ⟨fr', H', l1, l2, l3⟩ := loop62 s.stack.length h List.countP_le_length hl (by omega) { env := wassoc (wbinds 0 [.ptr p 0]), al := noAl } (by simp [K62])
  refine ⟨H', ?_, l2, l3⟩
  rw [wv_eq, wFn, vfn62]
  simp only [ic62, w_block]
  rw [l1]
  simp
end Go.Proofs.TryL
/- Layout, the reference's Insert: rule 2, one round. -/
set_option linter.unusedSimpArgs false
set_option linter.unusedVariables false
namespace Go.Proofs.TryL
open Go.Proofs.Lz
def K48 (p : Nat) (t : Tok) : WFr := { env := wassoc [(0, .ptr p 0), (3, .lbox (some 7) (.c (tkC t)))], al := noAl }
set_option maxHeartbeats 4000000 in
theorem round48 {H : WHeap} {p : Nat} {s : St} {f : Flt} {l : Ln} (t : Tok) (h : RepR H p s f l) (hl : s.stack.length < 100000000) (hb : s.out.length < 1000000000) :
    match last isBlock s.stack with
    | none => ∃ fr', wC Vv (wv Vv) witW lp48_1 (K48 p t) H = some (.ret, fr', H)
    | some i => ∀ e, s.stack[i]? = some e →
      if e.form ≠ .im ∨ e.col < t.col then ∃ fr', wC Vv (wv Vv) witW lp48_1 (K48 p t) H = some (.ret, fr', H)
      else if t.col = e.col then ∃ fr' H', wC Vv (wv Vv) witW lp48_1 (K48 p t) H = some (.ret, fr', H') ∧ RepR H' p { (s.ins [59]) with stack := s.stack.set i { e with mark := false } } f l ∧ Kp p H H'
      else if (s.stack.drop (i + 1)).any isPB = true then ∃ fr' H', wC Vv (wv Vv) witW lp48_1 (K48 p t) H = some (.ret, fr', H') ∧ RepR H' p s (flt t) l ∧ Kp p H H'
      else ∃ fr' H', wC Vv (wv Vv) witW lp48_1 (K48 p t) H = some (.nrm, fr', H') ∧ wkeep [0, 3] fr' = K48 p t ∧ RepR H' p ({ (s.ins [125]) with stack := s.stack.take i }.wait e.word) f l ∧ Kp p H H' := by
  have h0 := h
  obtain ⟨vs, vo, hp, hs, ho⟩ := h
  have hg := set_get hp
  obtain ⟨uo, t1, _⟩ := ho.thaw
  obtain ⟨us, t2, hsc⟩ := hs.thaw
  have ht := fun r => block56 us r s.stack (SR_of hsc) (by omega) []
  have hw := fun r => written59 us r s.stack (SR_of hsc) (by omega) []
  cases hlast : last isBlock s.stack with
  | none =>
    rw [hlast] at ht
    refine ⟨?_, ?_⟩
    rotate_left
    · simp [lp48_1, K48, hp, t1, t2, ht, toI]
      rfl
  | some i =>
    rw [hlast] at ht
    intro e he
    have hv := SL.ownR hs he
    subst hv
    have hu : us = .frz (some 4) (s.stack.map elR) := by have := t2 (.hp 0 0); simpa using this.symm
    subst hu
    have hlt := (List.getElem?_eq_some_iff.1 he).1
    have hge : (s.stack.map elR)[i]? = some (elR e) := by simp [he]
    have hn : ¬ ((i : Int) < 0) := by omega
    have n1 : (0 : Int) ≤ i := by omega
    rw [toI_some] at ht
    by_cases c1 : e.form ≠ .im ∨ e.col < t.col
    · rw [if_pos c1]
      by_cases c2 : e.form = .im
      · have c3 : e.col < t.col := by rcases c1 with c1 | c1; exact (c1 c2).elim; exact c1
        refine ⟨?_, ?_⟩
        rotate_left
        · simp [-getElem?_pos, List.getElem?_cons_zero, lp48_1, K48, tkC, hp, t1, ht, hge, hn, n1, c2, c3]
          rfl
      · refine ⟨?_, ?_⟩
        rotate_left
        · simp [-getElem?_pos, List.getElem?_cons_zero, lp48_1, K48, tkC, hp, t1, ht, hge, hn, n1, c2]
          rfl
    · rw [if_neg c1]
      have c2 : e.form = .im := by cases hq : e.form <;> simp [hq] at c1 ⊢
      have c3 : ¬ e.col < t.col := fun h => c1 (.inr h)
      have hpb := lines_pb hlast (fun e' he' => by rw [he] at he'; injection he' with he'; rw [← he']; exact c2)
      by_cases c4 : t.col = e.col
      · rw [if_pos c4]
        obtain ⟨H1, i1, i2, i3⟩ := insert31 [59] h0 hb
        obtain ⟨vo1, hp1, ho1⟩ := i2.own (by simp only [St.ins]; intro e0; rw [e0] at he; cases he)
        have hg1 := set_get hp1
        simp only [St.ins] at hp1
        have hse : (s.stack.map elR).set i (.agg [.int .i64 1, .int .i64 e.col, .str e.word, .bool false]) = (s.stack.set i { e with mark := false }).map elR := by rw [List.map_set]; simp [c2, Fm.r]
        refine ⟨?_, H1.set p (.var (some 10) [.own true 57 (some 4) ((s.stack.set i { e with mark := false }).map elR), vo1, .c (.bool s.expect), .c (.str s.word), .c (.int .i64 l.line), .c (.bool l.first), .c (.int .i64 f.code), .c (.str f.name), .c (.int .i64 f.line), .c (.int .i64 f.col)]), ?_, ⟨_, vo1, set_get hp1 _, .inr rfl, ho1⟩, i3.trans (Kp.set _ _ _)⟩
        rotate_left
        · rw [← hse]
          simp [-getElem?_pos, List.getElem?_cons_zero, lp48_1, K48, tkC, hp, t1, ht, hge, hn, n1, c2, c4, i1, hp1, hg1, hlt, show Fm.im.r = 1 from rfl]
          rfl
      · rw [if_neg c4]
        by_cases c5 : (s.stack.drop (i + 1)).any isPB = true
        · rw [if_pos c5]
          have hw0 : (i : Int) < toI (last isWr s.stack) := by rw [← hpb]; exact c5
          obtain ⟨Hf, f1, f2, f3⟩ := fails32 t h0
          refine ⟨?_, Hf, ?_, f2, f3⟩
          rotate_left
          · simp [-getElem?_pos, List.getElem?_cons_zero, lp48_1, K48, tkC, hp, t1, ht, hw, hw0, hge, hn, n1, c2, c3, c4, f1]
            rfl
        · rw [if_neg c5]
          have hw0 : ¬ (i : Int) < toI (last isWr s.stack) := by rw [← hpb]; exact c5
          obtain ⟨H1, i1, i2, i3⟩ := insert31 [125] h0 hb
          obtain ⟨vo1, hp1, ho1⟩ := i2.own (by simp only [St.ins]; intro e0; rw [e0] at he; cases he)
          have hg1 := set_get hp1
          simp only [St.ins] at hp1
          have mid : RepR (H1.set p (.var (some 10) [.own true 57 (some 4) ((s.stack.take i).map elR), vo1, .c (.bool s.expect), .c (.str s.word), .c (.int .i64 l.line), .c (.bool l.first), .c (.int .i64 f.code), .c (.str f.name), .c (.int .i64 f.line), .c (.int .i64 f.col)])) p { (s.ins [125]) with stack := s.stack.take i } f l := ⟨_, vo1, set_get hp1 _, .inr rfl, ho1⟩
          obtain ⟨H2, j1, j2, j3⟩ := wait58 e.word mid (by simp only [List.length_take]; omega)
          simp only [List.map_take] at j1
          have k2 : (i : Int) ≤ s.stack.length := by omega
          refine ⟨?_, H2, ?_, ?_, j2, (i3.trans (Kp.set _ _ _)).trans j3⟩
          rotate_left
          · simp [-getElem?_pos, List.getElem?_cons_zero, lp48_1, K48, tkC, hp, t1, ht, hw, hw0, hge, hn, n1, c2, c3, c4, i1, hp1, hg1, k2, j1]
            rfl
          · simp [K48, tkC]
theorem loop48 {p : Nat} {f : Flt} {l : Ln} (t : Tok) : ∀ (k : Nat) {H : WHeap} {s : St}, RepR H p s f l → s.stack.countP isBlock < k → s.stack.length < 100000000 → s.out.length + k < 1000000000 → ∀ fr, wkeep [0, 3] fr = K48 p t →
    ∃ fr' H', wC Vv (wv Vv) witW (.loop [0, 3] lp48_1) fr H = some (.ret, fr', H') ∧ (match lines t k s with
      | none => ∃ s2, RepR H' p s2 (flt t) l
      | some s' => RepR H' p s' f l) ∧ Kp p H H' := by
  intro k
  induction k with
  | zero => intro H s _ h; omega
  | succ k ih =>
    intro H s h hk hl hb fr hkeep
    have rd := round48 t h hl (by omega)
    have ret : ∀ {fr' H'}, wC Vv (wv Vv) witW lp48_1 (K48 p t) H = some (.ret, fr', H') → wC Vv (wv Vv) witW (.loop [0, 3] lp48_1) fr H = some (.ret, fr', H') := by
      intro fr' H' hh
      rw [w_loop, witW_eq, hkeep, hh]
    simp only [lines]
    cases hlast : last isBlock s.stack with
    | none =>
      rw [hlast] at rd
      obtain ⟨fr', r1⟩ := rd
      exact ⟨fr', H, ret r1, h, Kp.refl _ _⟩
    | some i =>
      rw [hlast] at rd
      obtain ⟨e, he, hbk⟩ := last_get hlast
      have rd := rd e he
      simp only [he]
      by_cases c1 : e.form ≠ .im ∨ e.col < t.col
      · rw [if_pos c1] at rd
        rw [if_pos c1]
        obtain ⟨fr', r1⟩ := rd
        exact ⟨fr', H, ret r1, h, Kp.refl _ _⟩
      · rw [if_neg c1] at rd
        rw [if_neg c1]
        by_cases c2 : t.col = e.col
        · rw [if_pos c2] at rd
          rw [if_pos c2]
          obtain ⟨fr', H', r1, r3, r4⟩ := rd
          exact ⟨fr', H', ret r1, r3, r4⟩
        · rw [if_neg c2] at rd
          rw [if_neg c2]
          by_cases c3 : (s.stack.drop (i + 1)).any isPB = true
          · rw [if_pos c3] at rd
            rw [if_pos c3]
            obtain ⟨fr', H', r1, r3, r4⟩ := rd
            exact ⟨fr', H', ret r1, ⟨s, r3⟩, r4⟩
          · rw [if_neg c3] at rd
            rw [if_neg c3]
            obtain ⟨fr1, H1, r1, r2, r3, r4⟩ := rd
            have hlt := (List.getElem?_eq_some_iff.1 he).1
            have b1 := wait_count (g := isBlock) (fun w => rfl) ({ (s.ins [125]) with stack := s.stack.take i } : St) e.word
            have b2 := last_count hlast
            obtain ⟨b3, b4⟩ := wait_len ({ (s.ins [125]) with stack := s.stack.take i } : St) e.word
            obtain ⟨fr', H', q1, q0, q2⟩ := ih r3 (by rw [b1]; simp only; omega) (by have b5 : _ ≤ (s.stack.take i).length + 1 := b3; rw [List.length_take] at b5; refine Nat.lt_of_le_of_lt b5 ?_; omega) (by rw [b4]; show (s.out ++ [insT [125]]).length + k < _; simp only [List.length_append, List.length_cons, List.length_nil]; omega) fr1 r2
            refine ⟨fr', H', ?_, q0, r4.trans q2⟩
            have eq : wC Vv (wv Vv) witW (.loop [0, 3] lp48_1) fr H = wC Vv (wv Vv) witW (.loop [0, 3] lp48_1) fr1 H1 := by rw [w_loop, witW_eq, hkeep, r1]; rfl
            rw [eq]
            exact q1
theorem lines48 {H : WHeap} {p : Nat} {s : St} {f : Flt} {l : Ln} (t : Tok) (h : RepR H p s f l) (hl : s.stack.length < 100000000) (hb : s.out.length < 100000000) :
    ∃ H', wv Vv 48 [.ptr p 0, .c (tkC t)] H = some (.tup [], H') ∧ (match lines t (s.stack.length + 1) s with
      | none => ∃ s2, RepR H' p s2 (flt t) l
      | some s' => RepR H' p s' f l) ∧ Kp p H H' := by
  have L := fun fr hk => loop48 t (s.stack.length + 1) h (Nat.lt_succ_of_le List.countP_le_length) hl (by omega) fr hk
  rw [wv_eq, wFn, vfn48]
  simp [ic48, tkC]
  generalize hX : ({ env := _, al := _ } : WFr) = X
  obtain ⟨fr', H', l1, l2, l3⟩ := L X (by subst hX; simp [K48, tkC])
  refine ⟨H', ?_, l2, l3⟩
  rw [l1]
end Go.Proofs.TryL
/- Layout, the reference's Insert: rule 4 for special tokens. -/
set_option linter.unusedSimpArgs false
set_option linter.unusedVariables false
namespace Go.Proofs.TryL
open Go.Proofs.Lz
/-- What rule 4 does for a special token. -/
def spR (s : St) (t : Tok) (before : List UInt8) : Option St :=
  if t.text = [40] then some (s.push ⟨.pa, 0, [], false⟩)
  else if t.text = [91] then some (s.push ⟨.br, 0, [], false⟩)
  else if t.text = [123] then some (s.push ⟨.ex, 0, before, false⟩)
  else if t.text = [41] then closing s .pa
  else if t.text = [93] then closing s .br
  else if t.text = [125] then closing s .ex
  else if t.text = [44] then some (comma s.stack.length s)
  else if t.text = [59] then some (mark s false)
  else some s
set_option maxHeartbeats 4000000 in
theorem specials50 {H : WHeap} {p : Nat} {s : St} {f : Flt} {l : Ln} (t : Tok) (before : List UInt8) (h : RepR H p s f l) (hl : s.stack.length < 100000000) (hb : s.out.length + s.stack.length < 100000000) :
    ∃ H', wv Vv 50 [.ptr p 0, tC t, .c (.str before)] H = some (.tup [], H') ∧ (match spR s t before with
      | none => RepR H' p s (flt t) l
      | some s' => RepR H' p s' f l) ∧ Kp p H H' := by
  by_cases c0 : t.text = [40]
  · obtain ⟨H1, i1, i2, i3⟩ := push57 ⟨.pa, 0, [], false⟩ h (by omega)
    refine ⟨H1, ?_, ?_, i3⟩
    · simp only [tC, c0, show Fm.pa.r = 3 from rfl] at i1
      rw [wv_eq, wFn, vfn50]
      simp [-getElem?_pos, List.getElem?_cons_zero, ic50, tC, c0, i1]
    · simp only [spR, c0]
      simpa using i2
  by_cases c1 : t.text = [91]
  · obtain ⟨H1, i1, i2, i3⟩ := push57 ⟨.br, 0, [], false⟩ h (by omega)
    refine ⟨H1, ?_, ?_, i3⟩
    · simp only [tC, c1, show Fm.br.r = 4 from rfl] at i1
      rw [wv_eq, wFn, vfn50]
      simp [-getElem?_pos, List.getElem?_cons_zero, ic50, tC, c1, i1]
    · simp only [spR, c1]
      simpa using i2
  by_cases c2 : t.text = [123]
  · obtain ⟨H1, i1, i2, i3⟩ := push57 ⟨.ex, 0, before, false⟩ h (by omega)
    refine ⟨H1, ?_, ?_, i3⟩
    · simp only [tC, c2, show Fm.ex.r = 2 from rfl] at i1
      rw [wv_eq, wFn, vfn50]
      simp [-getElem?_pos, List.getElem?_cons_zero, ic50, tC, c2, i1]
    · simp only [spR, c2]
      simpa using i2
  by_cases c3 : t.text = [41]
  · obtain ⟨H1, i1, i2, i3⟩ := closes61 t .pa h (by omega) (by omega)
    refine ⟨H1, ?_, ?_, i3⟩
    · simp only [tC, c3, show Fm.pa.r = 3 from rfl] at i1
      rw [wv_eq, wFn, vfn50]
      simp [-getElem?_pos, List.getElem?_cons_zero, ic50, tC, c3, i1]
    · have e : spR s t before = closing s .pa := by simp [spR, c3]
      rw [e]
      cases hcl : closing s .pa <;> (rw [hcl] at i2; exact i2)
  by_cases c4 : t.text = [93]
  · obtain ⟨H1, i1, i2, i3⟩ := closes61 t .br h (by omega) (by omega)
    refine ⟨H1, ?_, ?_, i3⟩
    · simp only [tC, c4, show Fm.br.r = 4 from rfl] at i1
      rw [wv_eq, wFn, vfn50]
      simp [-getElem?_pos, List.getElem?_cons_zero, ic50, tC, c4, i1]
    · have e : spR s t before = closing s .br := by simp [spR, c4]
      rw [e]
      cases hcl : closing s .br <;> (rw [hcl] at i2; exact i2)
  by_cases c5 : t.text = [125]
  · obtain ⟨H1, i1, i2, i3⟩ := closes61 t .ex h (by omega) (by omega)
    refine ⟨H1, ?_, ?_, i3⟩
    · simp only [tC, c5, show Fm.ex.r = 2 from rfl] at i1
      rw [wv_eq, wFn, vfn50]
      simp [-getElem?_pos, List.getElem?_cons_zero, ic50, tC, c5, i1]
    · have e : spR s t before = closing s .ex := by simp [spR, c5]
      rw [e]
      cases hcl : closing s .ex <;> (rw [hcl] at i2; exact i2)
  by_cases c6 : t.text = [44]
  · obtain ⟨H1, i1, i2, i3⟩ := comma62 h (by omega) (by omega)
    refine ⟨H1, ?_, ?_, i3⟩
    · skip
      rw [wv_eq, wFn, vfn50]
      simp [-getElem?_pos, List.getElem?_cons_zero, ic50, tC, c6, i1]
    · simp only [spR, c6]
      simpa using i2
  by_cases c7 : t.text = [59]
  · obtain ⟨H1, i1, i2, i3⟩ := mark52 false h (by omega)
    refine ⟨H1, ?_, ?_, i3⟩
    · skip
      rw [wv_eq, wFn, vfn50]
      simp [-getElem?_pos, List.getElem?_cons_zero, ic50, tC, c7, i1]
    · simp only [spR, c7]
      simpa using i2
  refine ⟨H, ?_, by simpa [spR, c0, c1, c2, c3, c4, c5, c6, c7] using h, Kp.refl _ _⟩
  rw [wv_eq, wFn, vfn50]
  simp [ic50, tC, c0, c1, c2, c3, c4, c5, c6, c7]
end Go.Proofs.TryL
/- Layout, the reference's Insert: rule 4 for words. -/
set_option linter.unusedSimpArgs false
set_option linter.unusedVariables false
namespace Go.Proofs.TryL
open Go.Proofs.Lz
/-- What rule 4 does for a word. -/
def wdR (s : St) (t : Tok) : Option St :=
  if t.text = wCase ∨ t.text = wIf then some (s.push (pend t.text))
  else if t.text = wOf then seekS s wCase false false
  else if t.text = wThen then seekS s wIf false true
  else if t.text = wElse then seekS s wThen false false
  else if t.text = wIn then seekS s wLet true false
  else some s
/-- The words that open a block. -/
def opR (s : St) (t : Tok) : St := if t.text = wWhere ∨ t.text = wLet ∨ t.text = wDo ∨ t.text = wOf then { s with expect := true, word := t.text } else s
set_option maxHeartbeats 4000000 in
theorem words51 {H : WHeap} {p : Nat} {s : St} {f : Flt} {l : Ln} (t : Tok) (h : RepR H p s f l) (hl : s.stack.length < 100000000) (hb : s.out.length + s.stack.length < 100000000) :
    ∃ H', wv Vv 51 [.ptr p 0, tC t] H = some (.tup [], H') ∧ (match wdR s t with
      | none => ∃ s2, s2.out = s.out ∧ RepR H' p s2 (flt t) l
      | some s' => RepR H' p (opR s' t) f l) ∧ Kp p H H' := by
  by_cases c0 : t.text = [99, 97, 115, 101]
  · obtain ⟨H1, i1, i2, i3⟩ := push57 (pend [99, 97, 115, 101]) h (by omega)
    simp only [pend, show Fm.pe.r = 5 from rfl] at i1
    refine ⟨H1, ?_, ?_, i3⟩
    · rw [wv_eq, wFn, vfn51]
      simp [-getElem?_pos, List.getElem?_cons_zero, ic51, tC, c0, i1]
    · have e : wdR s t = some (s.push (pend [99, 97, 115, 101])) := by simp [wdR, c0, wCase, wIf, wOf, wThen, wElse, wIn, wWhere, wLet, wDo]
      have e2 : opR (s.push (pend [99, 97, 115, 101])) t = s.push (pend [99, 97, 115, 101]) := by simp [opR, c0, wCase, wIf, wOf, wThen, wElse, wIn, wWhere, wLet, wDo]
      rw [e]
      simp only [e2]
      exact i2
  by_cases c1 : t.text = [105, 102]
  · obtain ⟨H1, i1, i2, i3⟩ := push57 (pend [105, 102]) h (by omega)
    simp only [pend, show Fm.pe.r = 5 from rfl] at i1
    refine ⟨H1, ?_, ?_, i3⟩
    · rw [wv_eq, wFn, vfn51]
      simp [-getElem?_pos, List.getElem?_cons_zero, ic51, tC, c1, i1]
    · have e : wdR s t = some (s.push (pend [105, 102])) := by simp [wdR, c1, wCase, wIf, wOf, wThen, wElse, wIn, wWhere, wLet, wDo]
      have e2 : opR (s.push (pend [105, 102])) t = s.push (pend [105, 102]) := by simp [opR, c1, wCase, wIf, wOf, wThen, wElse, wIn, wWhere, wLet, wDo]
      rw [e]
      simp only [e2]
      exact i2
  by_cases c2 : t.text = [111, 102]
  · obtain ⟨H1, i1, i2, i3⟩ := seek63 t wCase h (by omega) (by omega)
    rw [show (wCase == wLet) = false from by decide, show (wCase == wIf) = false from by decide] at i2
    simp only [tC, c2, wCase, wIf, wOf, wThen, wElse, wIn, wWhere, wLet, wDo] at i1
    have e : wdR s t = seekS s wCase false false := by simp [wdR, c2, wCase, wIf, wOf, wThen, wElse, wIn, wWhere, wLet, wDo]
    have e2 : ∀ x : St, opR x t = { x with expect := true, word := [111, 102] } := by intro x; simp [opR, c2, wCase, wIf, wOf, wThen, wElse, wIn, wWhere, wLet, wDo]
    rw [e]
    cases hcl : seekS s wCase false false with
    | none =>
      rw [hcl] at i2
      obtain ⟨vs, vo, hp, hs, ho⟩ := i2
      have hg := set_get hp
      refine ⟨_, ?_, ⟨{ s with expect := true, word := [111, 102] }, rfl, vs, vo, set_get hp _, hs, ho⟩, i3.trans (Kp.set _ _ _)⟩
      rw [wv_eq, wFn, vfn51]
      simp [-getElem?_pos, List.getElem?_cons_zero, ic51, tC, c2, i1, hp, hg, flt]
    | some s' =>
      rw [hcl] at i2
      obtain ⟨vs, vo, hp, hs, ho⟩ := i2
      have hg := set_get hp
      simp only [e2]
      refine ⟨_, ?_, ⟨vs, vo, set_get hp _, hs, ho⟩, i3.trans (Kp.set _ _ _)⟩
      rw [wv_eq, wFn, vfn51]
      simp [-getElem?_pos, List.getElem?_cons_zero, ic51, tC, c2, i1, hp, hg]
  by_cases c3 : t.text = [116, 104, 101, 110]
  · obtain ⟨H1, i1, i2, i3⟩ := seek63 t wIf h (by omega) (by omega)
    rw [show (wIf == wLet) = false from by decide, show (wIf == wIf) = true from by decide] at i2
    simp only [tC, c3, wCase, wIf, wOf, wThen, wElse, wIn, wWhere, wLet, wDo] at i1
    have e : wdR s t = seekS s wIf false true := by simp [wdR, c3, wCase, wIf, wOf, wThen, wElse, wIn, wWhere, wLet, wDo]
    have e2 : ∀ x : St, opR x t = x := by intro x; simp [opR, c3, wCase, wIf, wOf, wThen, wElse, wIn, wWhere, wLet, wDo]
    refine ⟨H1, ?_, ?_, i3⟩
    · rw [wv_eq, wFn, vfn51]
      simp [-getElem?_pos, List.getElem?_cons_zero, ic51, tC, c3, i1]
    · rw [e]
      cases hcl : seekS s wIf false true with
      | none => rw [hcl] at i2; exact ⟨s, rfl, i2⟩
      | some s' => rw [hcl] at i2; simp only [e2]; exact i2
  by_cases c4 : t.text = [101, 108, 115, 101]
  · obtain ⟨H1, i1, i2, i3⟩ := seek63 t wThen h (by omega) (by omega)
    rw [show (wThen == wLet) = false from by decide, show (wThen == wIf) = false from by decide] at i2
    simp only [tC, c4, wCase, wIf, wOf, wThen, wElse, wIn, wWhere, wLet, wDo] at i1
    have e : wdR s t = seekS s wThen false false := by simp [wdR, c4, wCase, wIf, wOf, wThen, wElse, wIn, wWhere, wLet, wDo]
    have e2 : ∀ x : St, opR x t = x := by intro x; simp [opR, c4, wCase, wIf, wOf, wThen, wElse, wIn, wWhere, wLet, wDo]
    refine ⟨H1, ?_, ?_, i3⟩
    · rw [wv_eq, wFn, vfn51]
      simp [-getElem?_pos, List.getElem?_cons_zero, ic51, tC, c4, i1]
    · rw [e]
      cases hcl : seekS s wThen false false with
      | none => rw [hcl] at i2; exact ⟨s, rfl, i2⟩
      | some s' => rw [hcl] at i2; simp only [e2]; exact i2
  by_cases c5 : t.text = [105, 110]
  · obtain ⟨H1, i1, i2, i3⟩ := seek63 t wLet h (by omega) (by omega)
    rw [show (wLet == wLet) = true from by decide, show (wLet == wIf) = false from by decide] at i2
    simp only [tC, c5, wCase, wIf, wOf, wThen, wElse, wIn, wWhere, wLet, wDo] at i1
    have e : wdR s t = seekS s wLet true false := by simp [wdR, c5, wCase, wIf, wOf, wThen, wElse, wIn, wWhere, wLet, wDo]
    have e2 : ∀ x : St, opR x t = x := by intro x; simp [opR, c5, wCase, wIf, wOf, wThen, wElse, wIn, wWhere, wLet, wDo]
    refine ⟨H1, ?_, ?_, i3⟩
    · rw [wv_eq, wFn, vfn51]
      simp [-getElem?_pos, List.getElem?_cons_zero, ic51, tC, c5, i1]
    · rw [e]
      cases hcl : seekS s wLet true false with
      | none => rw [hcl] at i2; exact ⟨s, rfl, i2⟩
      | some s' => rw [hcl] at i2; simp only [e2]; exact i2
  by_cases c6 : t.text = [119, 104, 101, 114, 101]
  · have e : wdR s t = some s := by simp [wdR, c6, wCase, wIf, wOf, wThen, wElse, wIn, wWhere, wLet, wDo]
    have e2 : opR s t = { s with expect := true, word := [119, 104, 101, 114, 101] } := by simp [opR, c6, wCase, wIf, wOf, wThen, wElse, wIn, wWhere, wLet, wDo]
    rw [e]
    simp only [e2]
    obtain ⟨vs, vo, hp, hs, ho⟩ := h
    have hg := set_get hp
    refine ⟨_, ?_, ⟨vs, vo, set_get hp _, hs, ho⟩, Kp.set _ _ _⟩
    rw [wv_eq, wFn, vfn51]
    simp [-getElem?_pos, List.getElem?_cons_zero, ic51, tC, c6, hp, hg]
  by_cases c7 : t.text = [108, 101, 116]
  · have e : wdR s t = some s := by simp [wdR, c7, wCase, wIf, wOf, wThen, wElse, wIn, wWhere, wLet, wDo]
    have e2 : opR s t = { s with expect := true, word := [108, 101, 116] } := by simp [opR, c7, wCase, wIf, wOf, wThen, wElse, wIn, wWhere, wLet, wDo]
    rw [e]
    simp only [e2]
    obtain ⟨vs, vo, hp, hs, ho⟩ := h
    have hg := set_get hp
    refine ⟨_, ?_, ⟨vs, vo, set_get hp _, hs, ho⟩, Kp.set _ _ _⟩
    rw [wv_eq, wFn, vfn51]
    simp [-getElem?_pos, List.getElem?_cons_zero, ic51, tC, c7, hp, hg]
  by_cases c8 : t.text = [100, 111]
  · have e : wdR s t = some s := by simp [wdR, c8, wCase, wIf, wOf, wThen, wElse, wIn, wWhere, wLet, wDo]
    have e2 : opR s t = { s with expect := true, word := [100, 111] } := by simp [opR, c8, wCase, wIf, wOf, wThen, wElse, wIn, wWhere, wLet, wDo]
    rw [e]
    simp only [e2]
    obtain ⟨vs, vo, hp, hs, ho⟩ := h
    have hg := set_get hp
    refine ⟨_, ?_, ⟨vs, vo, set_get hp _, hs, ho⟩, Kp.set _ _ _⟩
    rw [wv_eq, wFn, vfn51]
    simp [-getElem?_pos, List.getElem?_cons_zero, ic51, tC, c8, hp, hg]
  have e : wdR s t = some s := by simp [wdR, c0, c1, c2, c3, c4, c5, c6, c7, c8, wCase, wIf, wOf, wThen, wElse, wIn, wWhere, wLet, wDo]
  have e2 : opR s t = s := by simp [opR, c0, c1, c2, c3, c4, c5, c6, c7, c8, wCase, wIf, wOf, wThen, wElse, wIn, wWhere, wLet, wDo]
  rw [e]
  simp only [e2]
  refine ⟨H, ?_, h, Kp.refl _ _⟩
  rw [wv_eq, wFn, vfn51]
  simp [ic51, tC, c0, c1, c2, c3, c4, c5, c6, c7, c8]
end Go.Proofs.TryL
