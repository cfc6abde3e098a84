/- Layout: the rounds of Insert. -/
import Derived.Test.YtmjofajbfondhaaLzLayX
set_option linter.unusedSimpArgs false
set_option linter.unusedVariables false
namespace Go.Proofs.TryL
open Go.Proofs.Lz

def tks (l : List Tok) : CV := .frz (some 7) (l.map tokC)
def K9 (p : Nat) (l : List Tok) (i : Nat) : WFr := { env := wassoc [(0, .c (tks l)), (3, .lbox (some 4) (.c (.agg [.int .i64 0, .str [], .int .i64 0, .int .i64 0]))), (6, .ptr p 0), (24, .c (tks l)), (25, .c (.int .i64 l.length)), (26, .c (.int .i64 i))], al := noAl }
def fltC (f : Flt) : CV := .agg [.int .i64 f.code, .str f.name, .int .i64 f.line, .int .i64 f.col]
/-- What a round leaves. -/
def R9 (p : Nat) (l : List Tok) (i : Nat) (t : Tok) (f : Flt) (H : WHeap) (r : Option St) : Prop :=
  match r with
  | none => ∃ fr' H', wC Vv (wv Vv) witW lp9_1 (K9 p l i) H = some (.ret, fr', H') ∧ fr'.env 2 = .nils ∧ fr'.env 3 = .lbox (some 4) (.c (fltC (flt t)))
  | some s' => ∃ fr' H', wC Vv (wv Vv) witW lp9_1 (K9 p l i) H = some (.nrm, fr', H') ∧ wkeep [0, 3, 6, 24, 25, 26] fr' = K9 p l (i + 1) ∧ Rep H' p s' f
set_option maxHeartbeats 4000000 in
theorem round9z {H : WHeap} {p : Nat} {s : St} {f : Flt} {l : List Tok} {t : Tok} (h : Rep H p s f) (ht : l[0]? = some t) (hp : s.phi < 50000000) (hn : l.length < 1000000000) :
    R9 p l 0 t f H (stepI s t zT 0) := by
  have hx : (l.map tokC)[0]? = some (tokC t) := by simp [ht]
  have hlt : 0 < l.length := (List.getElem?_eq_some_iff.1 ht).1
  have c1 : (0 : Int) < l.length := by omega
  have w1 : IntKind.i64.wrap 1 = 1 := by decide
  have a1 := phi_begin s t
  simp only [St.phi] at hp a1
  obtain ⟨H1, i1, r1, k1⟩ := begin19 t h (by omega) (by omega)
  have a2 := phi_item (begin s t).2 t
  simp only [St.phi] at a2
  obtain ⟨H2, i2, r2, k2⟩ := item21 t r1 (by omega) (by omega)
  obtain ⟨H3, i3, k3⟩ := token22 t zT r2 (by omega) (by omega) (by
    intro s' hs
    have := phi_tokenR hs
    simp only [St.phi] at this
    omega)
  simp only [tC, tkC, zT] at i1 i2 i3
  have e : stepI s t zT 0 = token (item (begin s t).2 t) t (bword zT) := by
    unfold stepI
    rw [if_neg (by simp)]
  rw [e]
  simp only [zT]
  cases hb : (begin s t).1 with
  | false =>
    rw [hb] at i1
    unfold R9
    cases htk : token (item (begin s t).2 t) t (bword { op := 0, mod := [], text := [], n := 0, auto := false, line := 0, col := 0 }) with
    | none =>
      rw [htk] at i3
      obtain ⟨i3, s2, vo, vs, hr3, ho, hs⟩ := i3
      simp only
      refine ⟨?_, H3, ?_, ?_, ?_⟩
      rotate_left
      · simp [-getElem?_pos, List.getElem?_cons_zero, lp9_1, K9, tks, hx, hlt, c1, i1, i2, i3, hr3]
        rfl
      · simp
      · simp [fltC]
    | some s' =>
      rw [htk] at i3
      obtain ⟨i3, r3⟩ := i3
      simp only
      refine ⟨?_, H3, ?_, ?_, r3⟩
      rotate_left
      · simp [-getElem?_pos, List.getElem?_cons_zero, lp9_1, K9, tks, hx, hlt, c1, i1, i2, i3]
        rfl
      · simp [K9, tks, w1]
  | true =>
    rw [hb] at i1
    unfold R9
    cases htk : token (item (begin s t).2 t) t (bword { op := 0, mod := [], text := [], n := 0, auto := false, line := 0, col := 0 }) with
    | none =>
      rw [htk] at i3
      obtain ⟨i3, s2, vo, vs, hr3, ho, hs⟩ := i3
      simp only
      refine ⟨?_, H3, ?_, ?_, ?_⟩
      rotate_left
      · simp [-getElem?_pos, List.getElem?_cons_zero, lp9_1, K9, tks, hx, hlt, c1, i1, i2, i3, hr3]
        rfl
      · simp
      · simp [fltC]
    | some s' =>
      rw [htk] at i3
      obtain ⟨i3, r3⟩ := i3
      simp only
      refine ⟨?_, H3, ?_, ?_, r3⟩
      rotate_left
      · simp [-getElem?_pos, List.getElem?_cons_zero, lp9_1, K9, tks, hx, hlt, c1, i1, i2, i3]
        rfl
      · simp [K9, tks, w1]
set_option maxHeartbeats 4000000 in
theorem round9s {H : WHeap} {p : Nat} {s : St} {f : Flt} {l : List Tok} {t b : Tok} {i : Nat} (h : Rep H p s f) (ht : l[i + 1]? = some t) (hb' : l[i]? = some b) (hp : s.phi < 50000000) (hn : l.length < 1000000000) :
    R9 p l (i + 1) t f H (stepI s t b (i + 1)) := by
  have hx : (l.map tokC)[i + 1]? = some (tokC t) := by simp [ht]
  have hy : (l.map tokC)[i]? = some (tokC b) := by simp [hb']
  have hlt : i + 1 < l.length := (List.getElem?_eq_some_iff.1 ht).1
  have hlt' : i < l.length := by omega
  have c1 : (i : Int) + 1 < l.length := by omega
  have c2 : (0 : Int) < (i : Int) + 1 := by omega
  have w1 : IntKind.i64.wrap ((i : Int) + 1 + 1) = (i : Int) + 1 + 1 := by rw [wrap_id] <;> omega
  have w2 : IntKind.i64.wrap ((i : Int) + 1 - 1) = (i : Int) := by rw [wrap_id] <;> omega
  have w3 : IntKind.i64.wrap (i : Int) = (i : Int) := by rw [wrap_id] <;> omega
  have c3 : (0 : Int) ≤ (i : Int) + 1 := by omega
  have n1 : ¬ ((i : Int) + 1 < 0) := by omega
  have n2 : ¬ ((i : Int) < 0) := by omega
  have n3 : ((i : Int) + 1).toNat = i + 1 := by omega
  have a1 := phi_begin s t
  simp only [St.phi] at hp a1
  obtain ⟨H1, i1, r1, k1⟩ := begin19 t h (by omega) (by omega)
  cases hb : (begin s t).1 with
  | true =>
    rw [hb] at i1
    have e : stepI s t b (i + 1) = token (item (begin s t).2 t) t (bword b) := by
      unfold stepI
      rw [if_neg (by simp [hb])]
    have a2 := phi_item (begin s t).2 t
    simp only [St.phi] at a2
    obtain ⟨H2, i2, r2, k2⟩ := item21 t r1 (by omega) (by omega)
    obtain ⟨H3, i3, k3⟩ := token22 t b r2 (by omega) (by omega) (by
      intro s' hs
      have := phi_tokenR hs
      simp only [St.phi] at this
      omega)
    simp only [tC, tkC] at i1 i2 i3
    rw [e]
    unfold R9
    cases htk : token (item (begin s t).2 t) t (bword b) with
    | none =>
      rw [htk] at i3
      obtain ⟨i3, s2, vo, vs, hr3, ho, hs⟩ := i3
      simp only
      refine ⟨?_, H3, ?_, ?_, ?_⟩
      rotate_left
      · simp [-getElem?_pos, List.getElem?_cons_zero, lp9_1, K9, tks, hx, hy, hlt, hlt', c1, c2, c3, w1, w2, w3, n1, n2, n3, i1, i2, i3, hr3]
        rfl
      · simp
      · simp [fltC]
    | some s' =>
      rw [htk] at i3
      obtain ⟨i3, r3⟩ := i3
      simp only
      refine ⟨?_, H3, ?_, ?_, r3⟩
      rotate_left
      · simp [-getElem?_pos, List.getElem?_cons_zero, lp9_1, K9, tks, hx, hy, hlt, hlt', c1, c2, c3, w1, w2, w3, n1, n2, n3, i1, i2, i3]
        rfl
      · simp [K9, tks, w1]
  | false =>
    rw [hb] at i1
    by_cases hl : b.line < t.line
    · have e : stepI s t b (i + 1) = match lines t ((begin s t).2.stack.length + 1) (begin s t).2 with
        | none => none
        | some s2 => token (item s2 t) t (bword b) := by
        unfold stepI
        rw [if_pos ⟨hb, by omega, hl⟩]
        cases lines t ((begin s t).2.stack.length + 1) (begin s t).2 <;> rfl
      rw [e]
      obtain ⟨H4, i4, k4⟩ := lines20 t r1 (by omega) (by omega)
      cases hln : lines t ((begin s t).2.stack.length + 1) (begin s t).2 with
      | none =>
        rw [hln] at i4
        obtain ⟨i4, s2, vo, vs, hr3, ho, hs⟩ := i4
        simp only [tC, tkC] at i1
        unfold R9
        simp only
        refine ⟨?_, H4, ?_, ?_, ?_⟩
        rotate_left
        · simp [-getElem?_pos, List.getElem?_cons_zero, lp9_1, K9, tks, hx, hy, hlt, hlt', c1, c2, c3, w1, w2, w3, n1, n2, n3, i1, hl, i4, hr3]
          rfl
        · simp
        · simp [fltC]
      | some s4 =>
        rw [hln] at i4
        obtain ⟨i4, r4⟩ := i4
        have a4 := phi_lines _ _ _ _ hln
        simp only [St.phi] at a4
        have a2 := phi_item s4 t
        simp only [St.phi] at a2
        obtain ⟨H2, i2, r2, k2⟩ := item21 t r4 (by omega) (by omega)
        obtain ⟨H3, i3, k3⟩ := token22 t b r2 (by omega) (by omega) (by
          intro s' hs
          have := phi_tokenR hs
          simp only [St.phi] at this
          omega)
        simp only [tC, tkC] at i1 i2 i3
        unfold R9
        simp only
        cases htk : token (item s4 t) t (bword b) with
        | none =>
          rw [htk] at i3
          obtain ⟨i3, s2, vo, vs, hr3, ho, hs⟩ := i3
          simp only
          refine ⟨?_, H3, ?_, ?_, ?_⟩
          rotate_left
          · simp [-getElem?_pos, List.getElem?_cons_zero, lp9_1, K9, tks, hx, hy, hlt, hlt', c1, c2, c3, w1, w2, w3, n1, n2, n3, i1, hl, i4, i2, i3, hr3]
            rfl
          · simp
          · simp [fltC]
        | some s' =>
          rw [htk] at i3
          obtain ⟨i3, r3⟩ := i3
          simp only
          refine ⟨?_, H3, ?_, ?_, r3⟩
          rotate_left
          · simp [-getElem?_pos, List.getElem?_cons_zero, lp9_1, K9, tks, hx, hy, hlt, hlt', c1, c2, c3, w1, w2, w3, n1, n2, n3, i1, hl, i4, i2, i3]
            rfl
          · simp [K9, tks, w1]
    · have e : stepI s t b (i + 1) = token (item (begin s t).2 t) t (bword b) := by
        unfold stepI
        rw [if_neg (by simp [hl])]
      have a2 := phi_item (begin s t).2 t
      simp only [St.phi] at a2
      obtain ⟨H2, i2, r2, k2⟩ := item21 t r1 (by omega) (by omega)
      obtain ⟨H3, i3, k3⟩ := token22 t b r2 (by omega) (by omega) (by
        intro s' hs
        have := phi_tokenR hs
        simp only [St.phi] at this
        omega)
      simp only [tC, tkC] at i1 i2 i3
      rw [e]
      unfold R9
      cases htk : token (item (begin s t).2 t) t (bword b) with
      | none =>
        rw [htk] at i3
        obtain ⟨i3, s2, vo, vs, hr3, ho, hs⟩ := i3
        simp only
        refine ⟨?_, H3, ?_, ?_, ?_⟩
        rotate_left
        · simp [-getElem?_pos, List.getElem?_cons_zero, lp9_1, K9, tks, hx, hy, hlt, hlt', c1, c2, c3, w1, w2, w3, n1, n2, n3, i1, hl, i2, i3, hr3]
          rfl
        · simp
        · simp [fltC]
      | some s' =>
        rw [htk] at i3
        obtain ⟨i3, r3⟩ := i3
        simp only
        refine ⟨?_, H3, ?_, ?_, r3⟩
        rotate_left
        · simp [-getElem?_pos, List.getElem?_cons_zero, lp9_1, K9, tks, hx, hy, hlt, hlt', c1, c2, c3, w1, w2, w3, n1, n2, n3, i1, hl, i2, i3]
          rfl
        · simp [K9, tks, w1]
end Go.Proofs.TryL
