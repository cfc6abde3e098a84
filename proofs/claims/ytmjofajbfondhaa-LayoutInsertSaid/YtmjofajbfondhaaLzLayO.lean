/- Layout: Insert after its loop. -/
import Derived.Test.YtmjofajbfondhaaLzLayL
set_option linter.unusedSimpArgs false
set_option linter.unusedVariables false
namespace Go.Proofs.TryL
open Go.Proofs.Lz
def tlA : ICode := match ic9.body with
  | .seq _ (.seq _ (.seq _ (.seq _ (.seq a _)))) => a
  | _ => .skip
def tlB : ICode := match ic9.body with
  | .seq _ (.seq _ (.seq _ (.seq _ (.seq _ (.seq a _))))) => a
  | _ => .skip
def tlC : ICode := match ic9.body with
  | .seq _ (.seq _ (.seq _ (.seq _ (.seq _ (.seq _ a))))) => a
  | _ => .skip
/-- Insert's frame, before the last element is looked for. -/
def G1 (p : Nat) (l : List Tok) (fr : WFr) : Prop := fr.env 0 = .c (tks l) ∧ fr.env 3 = .lbox (some 4) (.c (.agg [.int .i64 0, .str [], .int .i64 0, .int .i64 0])) ∧ fr.env 6 = .ptr p 0 ∧ fr.env 2 = .undef ∧ fr.env 11 = .undef ∧ fr.env 84 = .undef ∧ fr.env 85 = .undef ∧ fr.env 86 = .undef ∧ fr.env 87 = .undef ∧ fr.env 88 = .undef ∧ fr.env 89 = .undef ∧ fr.env 90 = .undef ∧ fr.env 91 = .undef ∧ fr.env 92 = .undef ∧ fr.env 93 = .undef ∧ fr.env 94 = .undef ∧ fr.env 95 = .undef ∧ fr.env 96 = .undef ∧ fr.env 97 = .undef ∧ fr.env 98 = .undef ∧ fr.env 99 = .undef ∧ fr.env 100 = .undef ∧ fr.env 101 = .undef ∧ fr.env 102 = .undef ∧ fr.env 103 = .undef ∧ fr.env 104 = .undef ∧ fr.env 105 = .undef ∧ fr.env 106 = .undef ∧ fr.env 107 = .undef ∧ fr.env 108 = .undef ∧ fr.env 109 = .undef ∧ fr.env 110 = .undef ∧ fr.env 111 = .undef ∧ fr.env 112 = .undef ∧ fr.env 113 = .undef ∧ fr.env 114 = .undef ∧ fr.env 115 = .undef ∧ fr.env 116 = .undef ∧ fr.env 117 = .undef ∧ fr.env 118 = .undef ∧ fr.env 119 = .undef ∧ fr.env 120 = .undef ∧ fr.env 121 = .undef ∧ fr.env 122 = .undef ∧ fr.env 123 = .undef ∧ fr.env 124 = .undef ∧ fr.env 125 = .undef
/-- .. and before the last cut. -/
def G2 (p : Nat) (fr : WFr) : Prop := fr.env 3 = .lbox (some 4) (.c (.agg [.int .i64 0, .str [], .int .i64 0, .int .i64 0])) ∧ fr.env 6 = .ptr p 0 ∧ fr.env 2 = .undef ∧ fr.env 112 = .undef ∧ fr.env 113 = .undef ∧ fr.env 114 = .undef ∧ fr.env 115 = .undef ∧ fr.env 116 = .undef ∧ fr.env 117 = .undef ∧ fr.env 118 = .undef ∧ fr.env 119 = .undef ∧ fr.env 120 = .undef ∧ fr.env 121 = .undef ∧ fr.env 122 = .undef ∧ fr.env 123 = .undef ∧ fr.env 124 = .undef ∧ fr.env 125 = .undef
set_option maxHeartbeats 4000000 in
theorem partA {H : WHeap} {p : Nat} {s : St} {f : Flt} (l : List Tok) (h : Rep H p s f) (hb : s.out.length < 100000000) :
    ∃ fr' H', wC Vv (wv Vv) witW tlA (X9 p l) H = some (.nrm, fr', H') ∧ G1 p l fr' ∧ Rep H' p (fin1 s) f := by
  cases he : s.expect with
  | true =>
    obtain ⟨H1, i1, i2, i3⟩ := insert23b [123] [125] h (by omega)
    obtain ⟨vo, vs, hp, ho, hs⟩ := h
    rw [he] at hp
    rw [show fin1 s = (s.ins [123]).ins [125] by simp [fin1, he]]
    refine ⟨?_, H1, ?_, ?_, i2⟩
    rotate_left
    · simp [-getElem?_pos, List.getElem?_cons_zero, tlA, ic9, X9, K9, hp, i1]
      rfl
    · simp [G1]
  | false =>
    have h0 := h
    obtain ⟨vo, vs, hp, ho, hs⟩ := h
    rw [he] at hp
    rw [show fin1 s = s by simp [fin1, he]]
    refine ⟨?_, H, ?_, ?_, h0⟩
    rotate_left
    · simp [-getElem?_pos, List.getElem?_cons_zero, tlA, ic9, X9, K9, hp]
      rfl
    · simp [G1]
set_option maxHeartbeats 4000000 in
theorem partB {H : WHeap} {p : Nat} {s : St} {f : Flt} {l : List Tok} {fr : WFr} (hG : G1 p l fr) (h : Rep H p s f) (hb : s.stack.length < 100000000) (hll : l.length < 1000000000) (hl : s.stack ≠ [] → l ≠ []) :
    if open1 s = true then ∃ fr' H', wC Vv (wv Vv) witW tlB fr H = some (.ret, fr', H') ∧ fr'.env 2 = .nils ∧ fr'.env 3 = .lbox (some 4) (.c (fltC (flt (l.getLast?.getD zT))))
    else ∃ fr', wC Vv (wv Vv) witW tlB fr H = some (.nrm, fr', H) ∧ G2 p fr' := by
  obtain ⟨e0, e3, e6, g2, g11, g84, g85, g86, g87, g88, g89, g90, g91, g92, g93, g94, g95, g96, g97, g98, g99, g100, g101, g102, g103, g104, g105, g106, g107, g108, g109, g110, g111, g112, g113, g114, g115, g116, g117, g118, g119, g120, g121, g122, g123, g124, g125⟩ := hG
  simp only [tks] at e0
  have h0 := h
  obtain ⟨vo, vs, hp, ho, hs⟩ := h
  obtain ⟨us, t2, hsc⟩ := hs.thaw
  have hi := index24 25 isIm us s.stack (SC_of hsc) (by omega) call25 []
  rcases hs with ⟨rfl, hs⟩ | rfl
  · have hs' : s.stack = [] := by simpa using hs
    have hu : us = .frz none [] := by have := t2 (.hp 0 0); simpa using this.symm
    rw [hs'] at hi
    subst hu
    rw [if_neg (by simp [open1, hs'])]
    refine ⟨?_, ?_, ?_⟩
    rotate_left
    · simp [-getElem?_pos, List.getElem?_cons_zero, tlB, ic9, e0, e3, e6, g2, g11, g84, g85, g86, g87, g88, g89, g90, g91, g92, g93, g94, g95, g96, g97, g98, g99, g100, g101, g102, g103, g104, g105, g106, g107, g108, g109, g110, g111, g112, g113, g114, g115, g116, g117, g118, g119, g120, g121, g122, g123, g124, g125, hp, hi, toI]
      rfl
    · simp [G2, e3, e6, g2, g112, g113, g114, g115, g116, g117, g118, g119, g120, g121, g122, g123, g124, g125]
  · have hu : us = .frz (some 4) (s.stack.map elC) := by have := t2 (.hp 0 0); simpa using this.symm
    subst hu
    cases hf : s.stack.findIdx? isIm with
    | none =>
      rw [hf] at hi
      rw [if_neg (by simp [open1, hf])]
      refine ⟨?_, ?_, ?_⟩
      rotate_left
      · simp [-getElem?_pos, List.getElem?_cons_zero, tlB, ic9, e0, e3, e6, g2, g11, g84, g85, g86, g87, g88, g89, g90, g91, g92, g93, g94, g95, g96, g97, g98, g99, g100, g101, g102, g103, g104, g105, g106, g107, g108, g109, g110, g111, g112, g113, g114, g115, g116, g117, g118, g119, g120, g121, g122, g123, g124, g125, hp, hi, toI]
        rfl
      · simp [G2, e3, e6, g2, g112, g113, g114, g115, g116, g117, g118, g119, g120, g121, g122, g123, g124, g125]
    | some i =>
      rw [hf] at hi
      have hlt : i < s.stack.length := by
        rw [List.findIdx?_eq_some_iff_getElem] at hf
        exact hf.1
      have hin : (i : Int) ≤ s.stack.length := by omega
      have hne : l ≠ [] := hl (by intro h; rw [h] at hlt; cases hlt)
      have hc := contains26 27 isPB (.frz (some 4) ((s.stack.drop i).map elC)) (s.stack.drop i) (.inr rfl) (by rw [List.length_drop]; omega) call27 []
      simp only [List.map_drop] at hc
      have htk : List.take (s.stack.length - i) (List.drop i (List.map elC s.stack)) = List.drop i (List.map elC s.stack) := by
        rw [List.take_of_length_le]
        simp
      cases ha : (s.stack.drop i).any isPB with
      | false =>
        rw [ha] at hc
        rw [if_neg (by simp [open1, hf, ha])]
        refine ⟨?_, ?_, ?_⟩
        rotate_left
        · simp [-getElem?_pos, List.getElem?_cons_zero, tlB, ic9, e0, e3, e6, g2, g11, g84, g85, g86, g87, g88, g89, g90, g91, g92, g93, g94, g95, g96, g97, g98, g99, g100, g101, g102, g103, g104, g105, g106, g107, g108, g109, g110, g111, g112, g113, g114, g115, g116, g117, g118, g119, g120, g121, g122, g123, g124, g125, hp, hi, toI, hin, htk, hc, hlt, Nat.le_of_lt hlt]
          rfl
        · simp [G2, e3, e6, g2, g112, g113, g114, g115, g116, g117, g118, g119, g120, g121, g122, g123, g124, g125]
      | true =>
        rw [ha] at hc
        rw [if_pos (by simp [open1, hf, ha])]
        have hlp : 0 < l.length := List.length_pos_iff.2 hne
        have hg : l[l.length - 1]? = some (l.getLast?.getD zT) := by
          rw [← List.getLast?_eq_getElem?, List.getLast?_eq_some_getLast hne]; rfl
        generalize l.getLast?.getD zT = t at hg ⊢
        have hx : (l.map tokC)[l.length - 1]? = some (tokC t) := by simp only [List.getElem?_map, hg, Option.map_some]
        have w1 : IntKind.i64.wrap ((l.length : Int) - 1) = (l.length : Int) - 1 := by rw [wrap_id] <;> omega
        have n1 : ¬ ((l.length : Int) - 1 < 0) := by omega
        have n2 : (0 : Int) ≤ (l.length : Int) - 1 := by omega
        have n3 : ((l.length : Int) - 1).toNat = l.length - 1 := by omega
        have n4 : (l.length : Int) - 1 < l.length := by omega
        have n5 : l.length - 1 < l.length := by omega
        have n6 : (1 : Int) ≤ l.length := by omega
        obtain ⟨H1, f1, f2, f3⟩ := fail28 t h0
        obtain ⟨vo1, vs1, hp1, ho1, hs1⟩ := f2
        refine ⟨?_, H1, ?_, ?_, ?_⟩
        rotate_left
        · simp [-getElem?_pos, List.getElem?_cons_zero, tlB, ic9, e0, e3, e6, g2, g11, g84, g85, g86, g87, g88, g89, g90, g91, g92, g93, g94, g95, g96, g97, g98, g99, g100, g101, g102, g103, g104, g105, g106, g107, g108, g109, g110, g111, g112, g113, g114, g115, g116, g117, g118, g119, g120, g121, g122, g123, g124, g125, hp, hi, toI, hin, htk, hc, hlt, Nat.le_of_lt hlt, w1, n1, n2, n3, n4, n5, n6, hx, f1, hp1]
          rfl
        · simp
        · simp [fltC]
end Go.Proofs.TryL
/- Layout: Insert whole. -/
set_option linter.unusedSimpArgs false
set_option linter.unusedVariables false
namespace Go.Proofs.TryL
open Go.Proofs.Lz
/-- What Insert leaves in its results' places. -/
def Res9 (p : Nat) (fr : WFr) (H : WHeap) (r : Except Flt (List Tok)) : Prop := match r with
  | .error f => fr.env 2 = .nils ∧ fr.env 3 = .lbox (some 4) (.c (fltC f))
  | .ok o => fr.env 3 = .lbox (some 4) (.c (fltC noF)) ∧ ((fr.env 2 = .nils ∧ o = []) ∨ fr.env 2 = .view (.hp p 0) true 0 33 (some 7) (o.map tokC))
set_option maxHeartbeats 4000000 in
theorem partC {H : WHeap} {p : Nat} {s : St} {f : Flt} {fr : WFr} (hG : G2 p fr) (h : Rep H p s f) (hb : s.out.length + s.stack.length < 1000000000) :
    ∃ fr' H', wC Vv (wv Vv) witW tlC fr H = some (.ret, fr', H') ∧ Res9 p fr' H' (if 16384 < (s.cut 0).out.length then .error ⟨3, [], 0, 0⟩ else .ok (s.cut 0).out) := by
  obtain ⟨e3, e6, g2, g112, g113, g114, g115, g116, g117, g118, g119, g120, g121, g122, g123, g124, g125⟩ := hG
  obtain ⟨H1, i1, i2, i3⟩ := cut29 0 h (by omega) hb
  rw [show (((0 : Nat) : Int) - 1) = -1 from rfl] at i1
  obtain ⟨vo, vs, hp, ho, hs⟩ := i2
  rcases ho with ⟨rfl, ho⟩ | rfl
  · have ho' : (s.cut 0).out = [] := by simpa using ho
    rw [ho', if_neg (by simp)]
    refine ⟨?_, H1, ?_, ?_⟩
    rotate_left
    · simp [-getElem?_pos, List.getElem?_cons_zero, tlC, ic9, e3, e6, g2, g112, g113, g114, g115, g116, g117, g118, g119, g120, g121, g122, g123, g124, g125, i1, hp]
      rfl
    · simp [Res9, fltC, noF]
  · by_cases hc : 16384 < (s.cut 0).out.length
    · have hc' : (16384 : Int) < (s.cut 0).out.length := by omega
      rw [if_pos hc]
      refine ⟨?_, H1, ?_, ?_⟩
      rotate_left
      · simp [-getElem?_pos, List.getElem?_cons_zero, tlC, ic9, e3, e6, g2, g112, g113, g114, g115, g116, g117, g118, g119, g120, g121, g122, g123, g124, g125, i1, hp, hc']
        rfl
      · simp [Res9, fltC]
    · have hc' : ¬ (16384 : Int) < (s.cut 0).out.length := by omega
      rw [if_neg hc]
      refine ⟨?_, H1, ?_, ?_⟩
      rotate_left
      · simp [-getElem?_pos, List.getElem?_cons_zero, tlC, ic9, e3, e6, g2, g112, g113, g114, g115, g116, g117, g118, g119, g120, g121, g122, g123, g124, g125, i1, hp, hc']
        rfl
      · simp [Res9, fltC, noF]
end Go.Proofs.TryL
/- Layout: what Insert returns. -/
set_option linter.unusedSimpArgs false
set_option linter.unusedVariables false
namespace Go.Proofs.TryL
open Go.Proofs.Lz
def h9a : ICode := match ic9.body with
  | .seq a _ => a
  | _ => .skip
def h9b : ICode := match ic9.body with
  | .seq _ (.seq (.seq a _) _) => a
  | _ => .skip
def h9c : ICode := match ic9.body with
  | .seq _ (.seq _ (.seq a _)) => a
  | _ => .skip
def h9d : ICode := match ic9.body with
  | .seq _ (.seq _ (.seq _ (.seq (.seq a _) _))) => a
  | _ => .skip
theorem ic9_eq : ic9 = { body := .seq h9a (.seq (.seq h9b (.block 0 (.loop [0, 3, 12, 13, 14] lp9_2))) (.seq h9c (.seq (.seq h9d (.block 2 (.loop [0, 3, 6, 24, 25, 26] lp9_1))) (.seq tlA (.seq tlB tlC))))), res := [.tmp 2, .cell 3 (some 4)] } := rfl
theorem ent9a (l : List Tok) (H : WHeap) : ∃ Y X, wC Vv (wv Vv) witW h9a { env := wassoc (wbinds 0 [.c (tks l)]), al := noAl } H = some (.nrm, Y, H) ∧ wC Vv (wv Vv) witW h9b Y H = some (.nrm, X, H) ∧ wkeep [0, 3, 12, 13, 14] X = K9a l 0 := by
  refine ⟨?_, ?_, ?_, ?_, ?_⟩
  rotate_left
  rotate_left
  · simp [h9a, ic9, tks]
    rfl
  · simp [h9b, ic9, tks]
    rfl
  · simp [K9a, tks]
theorem ent9b (l : List Tok) : ∃ Y X, wC Vv (wv Vv) witW h9c (X9a l) [] = some (.nrm, Y, [.var (some 8) [.nils, .nils, .c (.bool true), .c (.str []), .c (.int .i64 0), .c (.str []), .c (.int .i64 0), .c (.int .i64 0)]]) ∧ wC Vv (wv Vv) witW h9d Y [.var (some 8) [.nils, .nils, .c (.bool true), .c (.str []), .c (.int .i64 0), .c (.str []), .c (.int .i64 0), .c (.int .i64 0)]] = some (.nrm, X, [.var (some 8) [.nils, .nils, .c (.bool true), .c (.str []), .c (.int .i64 0), .c (.str []), .c (.int .i64 0), .c (.int .i64 0)]]) ∧ wkeep [0, 3, 6, 24, 25, 26] X = K9 0 l 0 := by
  refine ⟨?_, ?_, ?_, ?_, ?_⟩
  rotate_left
  rotate_left
  · simp [h9c, ic9, X9a, K9a, tks]
    rfl
  · simp [h9d, ic9, tks]
    rfl
  · simp [K9, tks]
theorem rep0 : Rep [.var (some 8) [.nils, .nils, .c (.bool true), .c (.str []), .c (.int .i64 0), .c (.str []), .c (.int .i64 0), .c (.int .i64 0)]] 0 st0 noF :=
  ⟨.nils, .nils, rfl, .inl ⟨rfl, rfl⟩, .inl ⟨rfl, rfl⟩⟩
/-- The result's list, as a value. -/
def OutV (v : WV) (o : List Tok) : Prop := (v = .nils ∧ o = []) ∨ v = .own true 33 (some 7) (o.map tokC)
def exF : Except Flt (List Tok) → Flt
  | .error f => f
  | .ok _ => noF
def exO : Except Flt (List Tok) → List Tok
  | .error _ => []
  | .ok o => o
theorem ret9 {l : List Tok} {fr : WFr} {H : WHeap} {r : Except Flt (List Tok)} {g : IFn} (hg : g.res = [.tmp 2, .cell 3 (some 4)])
    (hw : wC Vv (wv Vv) witW g.body { env := wassoc (wbinds 0 [.c (tks l)]), al := noAl } [] = some (.ret, fr, H)) (hic : Vv.fn 9 = some g) (hr : Res9 0 fr H r) :
    ∃ v H', wv Vv 9 [.c (tks l)] [] = some (.tup [v, .c (fltC (exF r))], H') ∧ OutV v (exO r) := by
  have key : wv Vv 9 [.c (tks l)] [] = match wresOf fr H g.res with
      | some vs => wfinish 0 vs H
      | none => none := by
    rw [wv_eq, wFn, hic]
    simp only [hw]
    rfl
  rw [key, hg]
  cases r with
  | error f =>
    obtain ⟨h1, h2⟩ := hr
    exact ⟨.nils, H, by simp [h1, h2, fltC, exF], .inl ⟨rfl, rfl⟩⟩
  | ok o =>
    obtain ⟨h2, ⟨h1, rfl⟩ | h1⟩ := hr
    · exact ⟨.nils, H, by simp [h1, h2, fltC, exF], .inl ⟨rfl, rfl⟩⟩
    · refine ⟨.own true 33 (some 7) (o.map tokC), ?_, ?_, .inr rfl⟩
      rotate_left
      · simp [h1, h2, fltC, exF]
        rfl
theorem loop_stop {E : WEnv} {c : WCallF} {it : WRun → WRun} {n : Nat} {b : ICode} {fr fr' : WFr} {H H' : WHeap} (h : wC E c it b fr H = some (.exit n, fr', H')) : wC E c it (.block n b) fr H = some (.nrm, fr', H') := by
  simp [w_block, h]
theorem stack_nil {l : List Tok} {s : St} (h : goI l zT 0 st0 = .ok s) : (fin1 s).stack ≠ [] → l ≠ [] := by
  intro h1 h2
  subst h2
  simp only [goI, Except.ok.injEq] at h
  subst h
  exact h1 rfl
theorem insert9 (l : List Tok) (hn : l.length < 4000000) :
    ∃ v H', wv Vv 9 [.c (tks l)] [] = some (.tup [v, .c (fltC (exF (insertS l)))], H') ∧ OutV v (exO (insertS l)) := by
  obtain ⟨Y1, X1, a1, a2, a3⟩ := ent9a l []
  have b1 := loop9a (by omega) l 0 (H := []) rfl (Nat.zero_le _) X1 a3
  unfold insertS
  cases ha : l.any (·.auto) with
  | true =>
    rw [if_pos ha] at b1
    obtain ⟨fr', b1, b2, b3⟩ := b1
    rw [if_pos rfl]
    refine ret9 (fr := fr') (H := []) (g := ic9) rfl ?_ vfn9 ⟨b2, b3⟩
    rw [ic9_eq]
    simp only [w_seq, a1, a2, w_block, b1]
  | false =>
    rw [if_neg (by rw [ha]; decide)] at b1
    have b1' := loop_stop b1
    rw [if_neg (by decide)]
    obtain ⟨Y2, X2, c1, c2, c3⟩ := ent9b l
    have d1 := loop9 (by omega) l 0 zT rfl (Nat.zero_le _) rfl rep0 (by simp only [St.phi, st0, List.length_nil, List.countP_nil]; omega) X2 c3
    cases hgo : goI l zT 0 st0 with
    | error f =>
      rw [hgo] at d1
      obtain ⟨fr', H', d1, d2, d3⟩ := d1
      refine ret9 (fr := fr') (H := H') (g := ic9) rfl ?_ vfn9 (r := .error f) ⟨d2, d3⟩
      rw [ic9_eq]
      simp only [w_seq, a1, a2, b1', c1, c2, w_block, d1]
    | ok s =>
      rw [hgo] at d1
      obtain ⟨H', d1, d2⟩ := d1
      have d1' := loop_stop d1
      have hph := phi_go _ _ _ _ _ hgo
      simp only [St.phi, st0, List.length_nil, List.countP_nil] at hph
      obtain ⟨fr1, H1, e1, e2, e3⟩ := partA l d2 (by omega)
      have hfin : (fin1 s).out.length + (fin1 s).stack.length ≤ s.out.length + 2 + s.stack.length := by
        unfold fin1
        split
        · simp [St.ins]
        · omega
      have f1 := partB e2 e3 (by omega) (by omega) (stack_nil hgo)
      simp only [endI]
      cases hop : open1 (fin1 s) with
      | true =>
        rw [if_pos hop] at f1
        obtain ⟨fr', H2, f1, f2, f3⟩ := f1
        rw [if_pos rfl]
        refine ret9 (fr := fr') (H := H2) (g := ic9) rfl ?_ vfn9 (r := .error _) ⟨f2, f3⟩
        rw [ic9_eq]
        simp only [w_seq, a1, a2, b1', c1, c2, d1', e1, f1]
      | false =>
        rw [if_neg (by rw [hop]; decide)] at f1
        obtain ⟨fr2, f1, f2⟩ := f1
        obtain ⟨fr', H2, g1, g2⟩ := partC f2 e3 (by omega)
        rw [if_neg (by decide)]
        refine ret9 (fr := fr') (H := H2) (g := ic9) rfl ?_ vfn9 g2
        rw [ic9_eq]
        simp only [w_seq, a1, a2, b1', c1, c2, d1', e1, f1, g1]
end Go.Proofs.TryL
