/- Layout: commas. -/
import Derived.Test.YtmjofajbfondhaaLzLayU
set_option linter.unusedSimpArgs false
set_option linter.unusedVariables false
namespace Go.Proofs.TryL
open Go.Proofs.Lz

def K44i (p i : Nat) (b : Bool) (pre : List El) (j : Nat) : WFr := { env := wassoc [(0, .ptr p 0), (2, .c (.int .i64 i)), (3, .c (.bool b)), (27, .view (.hp p 1) true 0 47 (some 4) (pre.map elC)), (28, .c (.int .i64 pre.length)), (29, .c (.int .i64 j))], al := noAl }
theorem inner44 {H : WHeap} {p i : Nat} {pre : List El} (hr : pre.length < 1000000000) : ∀ (k j : Nat) (b : Bool), j + k = pre.length → ∀ fr, wkeep [0, 2, 3, 27, 28, 29] fr = K44i p i b pre j →
    ∃ fr', wC Vv (wv Vv) witW (.loop [0, 2, 3, 27, 28, 29] lp44_1) fr H = some (.exit 2, fr', H) ∧ fr'.env 0 = .ptr p 0 ∧ fr'.env 2 = .c (.int .i64 i) ∧ fr'.env 3 = .c (.bool (b || (pre.drop j).any isWr)) := by
  intro k
  induction k with
  | zero =>
    intro j b hj fr hk
    have : j = pre.length := by omega
    subst this
    simp only [List.drop_length, List.any_nil, Bool.or_false]
    refine ⟨?_, ?_, ?_, ?_, ?_⟩
    rotate_left
    · rw [w_loop, witW_eq, hk]
      simp [lp44_1, K44i]
      rfl
    · simp
    · simp
    · simp
  | succ k ih =>
    intro j b hj fr hk
    have hlt : j < pre.length := by omega
    have hd : pre.drop j = pre[j] :: pre.drop (j + 1) := List.drop_eq_getElem_cons hlt
    have hx : (pre.map elC)[j]? = some (elC pre[j]) := by simp [hlt]
    have c1 : (j : Int) < pre.length := by omega
    have w1 : IntKind.i64.wrap ((j : Int) + 1) = (j : Int) + 1 := by rw [wrap_id] <;> omega
    obtain ⟨fr1, h1, h2⟩ : ∃ fr1, wC Vv (wv Vv) witW lp44_1 (K44i p i b pre j) H = some (.nrm, fr1, H) ∧ wkeep [0, 2, 3, 27, 28, 29] fr1 = K44i p i (b || isWr pre[j]) pre (j + 1) := by
      cases b <;> cases hf : pre[j].form <;>
      · refine ⟨?_, ?_, ?_⟩
        rotate_left
        · simp [-getElem?_pos, List.getElem?_cons_zero, lp44_1, K44i, hx, c1, hf, w1, show Fm.im.p = 0 from rfl, show Fm.ex.p = 1 from rfl, show Fm.pa.p = 2 from rfl, show Fm.br.p = 3 from rfl, show Fm.pe.p = 4 from rfl]
          rfl
        · first | (simp [K44i, isWr, hf]; done) | (simp [K44i, isWr, hf]; rfl)
    obtain ⟨fr', q1, q2, q3, q4⟩ := ih (j + 1) (b || isWr pre[j]) (by omega) fr1 h2
    refine ⟨fr', ?_, q2, q3, ?_⟩
    · have e : wC Vv (wv Vv) witW (.loop [0, 2, 3, 27, 28, 29] lp44_1) fr H = wC Vv (wv Vv) witW (.loop [0, 2, 3, 27, 28, 29] lp44_1) fr1 H := by
        rw [w_loop, witW_eq, hk, h1]; rfl
      rw [e]; exact q1
    · rw [q4, hd, List.any_cons, Bool.or_assoc]
def K44 (p : Nat) : WFr := { env := wassoc [(0, .ptr p 0)], al := noAl }
set_option maxHeartbeats 2000000 in
theorem round44 {H : WHeap} {p : Nat} {s : St} {f : Flt} (h : Rep H p s f) (hl : s.stack.length < 100000000) (hb : s.out.length < 1000000000) :
    match last isCtx s.stack with
    | none => ∃ fr', wC Vv (wv Vv) witW lp44_2 (K44 p) H = some (.ret, fr', H)
    | some i => ∀ e, s.stack[i]? = some e →
      if e.form ≠ .im ∨ (s.stack.take i).any isWr = false then ∃ fr', wC Vv (wv Vv) witW lp44_2 (K44 p) H = some (.ret, fr', H)
      else if e.word ≠ wDo ∧ e.word ≠ wOf ∧ e.mark = false then ∃ fr', wC Vv (wv Vv) witW lp44_2 (K44 p) H = some (.ret, fr', H)
      else ∃ fr' H', wC Vv (wv Vv) witW lp44_2 (K44 p) H = some (.nrm, fr', H') ∧ wkeep [0] fr' = K44 p ∧ Rep H' p ({ (s.ins [125]) with stack := s.stack.take i }.wait e.word) f ∧ Kp p H H' := by
  have h0 := h
  obtain ⟨vo, vs, hp, ho, hs⟩ := h
  have hg := set_get hp
  obtain ⟨uo, t1, _⟩ := ho.thaw
  obtain ⟨us, t2, hsc⟩ := hs.thaw
  have ht := fun a r => top37 a us r s.stack 41 [] [] isCtx (SC_of hsc) (by omega) call41 []
  cases hlast : last isCtx s.stack with
  | none =>
    rw [hlast] at ht
    refine ⟨?_, ?_⟩
    rotate_left
    · simp [lp44_2, K44, hp, t1, t2, ht, toI]
      rfl
  | some i =>
    rw [hlast] at ht
    intro e he
    have hv := SL.own hs he
    subst hv
    have hu : us = .frz (some 4) (s.stack.map elC) := by have := t2 (.hp 0 0); simpa using this.symm
    subst hu
    have hlt := (List.getElem?_eq_some_iff.1 he).1
    have hge : (s.stack.map elC)[i]? = some (elC e) := by simp [he]
    have hn : ¬ ((i : Int) < 0) := by omega
    by_cases c2 : e.form = .im
    · have k2 : (i : Int) ≤ s.stack.length := by omega
      have hlen : ((i : Int)) = ((s.stack.take i).length : Int) := by rw [List.length_take, Nat.min_eq_left (Nat.le_of_lt hlt)]
      have hmin : min i s.stack.length = i := Nat.min_eq_left (Nat.le_of_lt hlt)
      have inn := inner44 (H := H) (p := p) (i := i) (pre := s.stack.take i) (by rw [List.length_take]; omega) (s.stack.take i).length 0 false (by omega)
      simp only [List.drop_zero, Bool.false_or] at inn
      have w1 : IntKind.i64.wrap ((i : Int) + 1) = (i : Int) + 1 := by rw [wrap_id] <;> omega
      have k1 : (0 : Int) ≤ (i : Int) + 1 := by omega
      have k3 : (i : Int) + 1 ≤ s.stack.length := by omega
      have k4 : ((i : Int) + 1).toNat = i + 1 := by omega
      by_cases c1 : (s.stack.take i).any isWr = false
      · rw [if_pos (.inr c1)]
        rw [c1] at inn
        simp [-getElem?_pos, List.getElem?_cons_zero, lp44_2, K44, hp, t1, ht, toI, hge, hn, c2, k2]
        generalize hX : ({ env := _, al := _ } : WFr) = X
        obtain ⟨fr', l1, l2, l3, l4⟩ := inn X (by subst hX; simp [K44i, List.map_take, hmin])
        rw [l1]
        simp [-getElem?_pos, List.getElem?_cons_zero, l2, l3, l4, hp, hge]
      · have c3 : ¬ (e.form ≠ .im ∨ (s.stack.take i).any isWr = false) := by rintro (h | h); exact h c2; exact c1 h
        rw [if_neg c3]
        have c4 : (s.stack.take i).any isWr = true := by simpa using c1
        rw [c4] at inn
        by_cases c5 : e.word ≠ wDo ∧ e.word ≠ wOf ∧ e.mark = false
        · rw [if_pos c5]
          obtain ⟨d1, d2, d3⟩ := c5
          simp only [wDo, wOf] at d1 d2
          simp [-getElem?_pos, List.getElem?_cons_zero, lp44_2, K44, hp, t1, ht, toI, hge, hn, c2, k2]
          generalize hX : ({ env := _, al := _ } : WFr) = X
          obtain ⟨fr', l1, l2, l3, l4⟩ := inn X (by subst hX; simp [K44i, List.map_take, hmin])
          rw [l1]
          simp [-getElem?_pos, List.getElem?_cons_zero, l2, l3, l4, hp, hge, d1, d2, d3]
        · rw [if_neg c5]
          have mid : Rep (H.set p (.var (some 8) [vo, .own true 47 (some 4) ((s.stack.take (i + 1)).map elC), .c (.bool s.expect), .c (.str s.word), .c (.int .i64 f.code), .c (.str f.name), .c (.int .i64 f.line), .c (.int .i64 f.col)])) p { s with stack := s.stack.take (i + 1) } f := ⟨vo, _, set_get hp _, ho, .inr rfl⟩
          have hst : s.stack.take (i + 1) = s.stack.take i ++ [e] := by rw [List.take_add_one, he]; rfl
          obtain ⟨H1, i1, i2, i3⟩ := insert23 [125] mid hb
          obtain ⟨H2, j1, j2, j3⟩ := remove40 i2 (st := s.stack.take i) (e := e) hst (by simp only [St.ins, List.length_take]; omega)
          have hpop : (({ s with stack := s.stack.take (i + 1) } : St).ins [125]).pop e (s.stack.take i) = ({ (s.ins [125]) with stack := s.stack.take i } : St).wait e.word := by simp [St.pop, isBlock, c2, St.ins]
          rw [hpop] at j2
          simp only [List.map_take] at i1
          have key : ∃ fr', wC Vv (wv Vv) witW lp44_2 (K44 p) H = some (.nrm, fr', H2) ∧ wkeep [0] fr' = K44 p := by
            simp [-getElem?_pos, List.getElem?_cons_zero, lp44_2, K44, hp, t1, ht, toI, hge, hn, c2, k2]
            generalize hX : ({ env := _, al := _ } : WFr) = X
            obtain ⟨fr', l1, l2, l3, l4⟩ := inn X (by subst hX; simp [K44i, List.map_take, hmin])
            rw [l1]
            by_cases d1 : e.word = [100, 111]
            · simp [-getElem?_pos, List.getElem?_cons_zero, l2, l3, l4, hp, hg, hge, d1, w1, k1, k3, k4, i1, j1]
            · by_cases d2 : e.word = [111, 102]
              · simp [-getElem?_pos, List.getElem?_cons_zero, l2, l3, l4, hp, hg, hge, d1, d2, w1, k1, k3, k4, i1, j1]
              · have d3 : e.mark = true := by
                  cases hm : e.mark with
                  | true => rfl
                  | false => exact (c5 ⟨d1, d2, hm⟩).elim
                simp [-getElem?_pos, List.getElem?_cons_zero, l2, l3, l4, hp, hg, hge, d1, d2, d3, w1, k1, k3, k4, i1, j1]
          obtain ⟨fr', k1, k2⟩ := key
          exact ⟨fr', H2, k1, k2, j2, ((Kp.set _ _ _).trans i3).trans j3⟩
    · rw [if_pos (.inl c2)]
      refine ⟨?_, ?_⟩
      rotate_left
      · simp [-getElem?_pos, List.getElem?_cons_zero, lp44_2, K44, hp, t1, ht, toI, hge, hn, c2]
        rfl
theorem loop44 {p : Nat} {f : Flt} : ∀ (k : Nat) {H : WHeap} {s : St}, Rep H p s f → s.stack.countP isCtx ≤ k → s.stack.length < 100000000 → s.out.length + k < 1000000000 → ∀ fr, wkeep [0] fr = K44 p →
    ∃ fr' H', wC Vv (wv Vv) witW (.loop [0] lp44_2) fr H = some (.ret, fr', H') ∧ Rep H' p (comma k s) f ∧ Kp p H H' := by
  intro k
  induction k with
  | zero =>
    intro H s h hk hl hb fr hkeep
    have rd := round44 h hl (by omega)
    cases hlast : last isCtx s.stack with
    | none =>
      rw [hlast] at rd
      obtain ⟨fr', r1⟩ := rd
      exact ⟨fr', H, by rw [w_loop, witW_eq, hkeep, r1], by simpa [comma] using h, Kp.refl _ _⟩
    | some i => have := last_count hlast; omega
  | succ k ih =>
    intro H s h hk hl hb fr hkeep
    have rd := round44 h hl (by omega)
    have ret : ∀ {fr' H'}, wC Vv (wv Vv) witW lp44_2 (K44 p) H = some (.ret, fr', H') → wC Vv (wv Vv) witW (.loop [0] lp44_2) fr H = some (.ret, fr', H') := by
      intro fr' H' hh
      rw [w_loop, witW_eq, hkeep, hh]
    cases hlast : last isCtx s.stack with
    | none =>
      rw [hlast] at rd
      obtain ⟨fr', r1⟩ := rd
      exact ⟨fr', H, ret r1, by simpa [comma, hlast] using h, Kp.refl _ _⟩
    | some i =>
      rw [hlast] at rd
      obtain ⟨e, he, hbk⟩ := last_get hlast
      have rd := rd e he
      simp only [comma, hlast, he]
      by_cases c1 : e.form ≠ .im ∨ (s.stack.take i).any isWr = false
      · rw [if_pos c1] at rd ⊢
        obtain ⟨fr', r1⟩ := rd
        exact ⟨fr', H, ret r1, h, Kp.refl _ _⟩
      · rw [if_neg c1] at rd ⊢
        by_cases c2 : e.word ≠ wDo ∧ e.word ≠ wOf ∧ e.mark = false
        · rw [if_pos c2] at rd ⊢
          obtain ⟨fr', r1⟩ := rd
          exact ⟨fr', H, ret r1, h, Kp.refl _ _⟩
        · rw [if_neg c2] at rd ⊢
          obtain ⟨fr1, H1, r1, r2, r3, r4⟩ := rd
          have hlt := (List.getElem?_eq_some_iff.1 he).1
          have b1 := wait_count (g := isCtx) (fun w => rfl) ({ (s.ins [125]) with stack := s.stack.take i } : St) e.word
          have b2 := last_count hlast
          obtain ⟨b3, b4⟩ := wait_len ({ (s.ins [125]) with stack := s.stack.take i } : St) e.word
          obtain ⟨fr', H', q1, q2, q3⟩ := ih r3 (by rw [b1]; simp only; omega) (by have b5 : _ ≤ (s.stack.take i).length + 1 := b3; rw [List.length_take] at b5; refine Nat.lt_of_le_of_lt b5 ?_; omega) (by rw [b4]; show (s.out ++ [insT [125]]).length + k < _; simp only [List.length_append, List.length_cons, List.length_nil]; omega) fr1 r2
          refine ⟨fr', H', ?_, q2, r4.trans q3⟩
          have eq : wC Vv (wv Vv) witW (.loop [0] lp44_2) fr H = wC Vv (wv Vv) witW (.loop [0] lp44_2) fr1 H1 := by rw [w_loop, witW_eq, hkeep, r1]; rfl
          rw [eq]
          exact q1
theorem comma44 {H : WHeap} {p : Nat} {s : St} {f : Flt} (h : Rep H p s f) (hl : s.stack.length < 100000000) (hb : s.out.length < 100000000) :
    ∃ H', wv Vv 44 [.ptr p 0] H = some (.tup [], H') ∧ Rep H' p (comma s.stack.length s) f ∧ Kp p H H' := by
  obtain ⟨fr', H', l1, l2, l3⟩ := loop44 s.stack.length h List.countP_le_length hl (by omega) { env := wassoc (wbinds 0 [.ptr p 0]), al := noAl } (by simp [K44])
  refine ⟨H', ?_, l2, l3⟩
  rw [wv_eq, wFn, vfn44]
  simp only [ic44, w_block]
  rw [l1]
  simp
end Go.Proofs.TryL
