/- Layout: the loops of Insert. -/
import Derived.Test.YtmjofajbfondhaaLzLayJ
set_option linter.unusedSimpArgs false
set_option linter.unusedVariables false
namespace Go.Proofs.TryL
open Go.Proofs.Lz

def X9 (p : Nat) (l : List Tok) : WFr := { env := upd (K9 p l l.length).env 27 (.c (.bool false)), al := upd noAl 27 none }
theorem end9 (p : Nat) (l : List Tok) (H : WHeap) : wC Vv (wv Vv) witW lp9_1 (K9 p l l.length) H = some (.exit 2, X9 p l, H) := by
  simp [lp9_1, K9, X9]
def Bf (l : List Tok) (b : Tok) : Nat → Prop
  | 0 => b = zT
  | i + 1 => l[i]? = some b
theorem loop9 {p : Nat} {f : Flt} {l : List Tok} (hn : l.length < 1000000000) : ∀ (r : List Tok) (i : Nat) (b : Tok) {H : WHeap} {s : St}, l.drop i = r → i ≤ l.length → Bf l b i → Rep H p s f → s.phi + 6 * r.length < 50000000 → ∀ fr, wkeep [0, 3, 6, 24, 25, 26] fr = K9 p l i →
    match goI r b i s with
    | .error f' => ∃ fr' H', wC Vv (wv Vv) witW (.loop [0, 3, 6, 24, 25, 26] lp9_1) fr H = some (.ret, fr', H') ∧ fr'.env 2 = .nils ∧ fr'.env 3 = .lbox (some 4) (.c (fltC f'))
    | .ok s' => ∃ H', wC Vv (wv Vv) witW (.loop [0, 3, 6, 24, 25, 26] lp9_1) fr H = some (.exit 2, X9 p l, H') ∧ Rep H' p s' f := by
  intro r
  induction r with
  | nil =>
    intro i b H s hd hi hb h hp fr hk
    have : i = l.length := by
      have := List.drop_eq_nil_iff.1 hd
      omega
    subst this
    refine ⟨H, ?_, h⟩
    rw [w_loop, witW_eq, hk, end9]
  | cons t r ih =>
    intro i b H s hd hi hb h hp fr hk
    have hlt : i < l.length := by
      by_cases h' : i < l.length
      · exact h'
      · rw [List.drop_eq_nil_iff.2 (by omega)] at hd; cases hd
    have ht : l[i]? = some t := by
      rw [List.drop_eq_getElem_cons hlt] at hd
      injection hd with h1 h2
      rw [List.getElem?_eq_getElem hlt, h1]
    have hd' : l.drop (i + 1) = r := by
      rw [List.drop_eq_getElem_cons hlt] at hd
      injection hd with h1 h2
    simp only [List.length_cons] at hp
    have hR : R9 p l i t f H (stepI s t b i) := by
      cases i with
      | zero => rw [show b = zT from hb]; exact round9z h ht (by omega) hn
      | succ j => exact round9s h ht hb (by omega) hn
    unfold goI
    unfold R9 at hR
    cases hst : stepI s t b i with
    | none =>
      rw [hst] at hR
      obtain ⟨fr', H', h1, h2, h3⟩ := hR
      refine ⟨fr', H', ?_, h2, h3⟩
      rw [w_loop, witW_eq, hk, h1]
    | some s1 =>
      rw [hst] at hR
      obtain ⟨fr', H', h1, h2, h3⟩ := hR
      have eq : wC Vv (wv Vv) witW (.loop [0, 3, 6, 24, 25, 26] lp9_1) fr H = wC Vv (wv Vv) witW (.loop [0, 3, 6, 24, 25, 26] lp9_1) fr' H' := by rw [w_loop, witW_eq, hk, h1]; rfl
      have hph := phi_step hst
      have := ih (i + 1) t hd' (by omega) ht h3 (by omega) fr' h2
      simp only
      rw [eq]
      exact this
/-! the first loop: no inserted token among the argument's -/
def K9a (l : List Tok) (i : Nat) : WFr := { env := wassoc [(0, .c (tks l)), (3, .lbox (some 4) (.c (.agg [.int .i64 0, .str [], .int .i64 0, .int .i64 0]))), (12, .c (tks l)), (13, .c (.int .i64 l.length)), (14, .c (.int .i64 i))], al := noAl }
def X9a (l : List Tok) : WFr := { env := upd (K9a l l.length).env 15 (.c (.bool false)), al := upd noAl 15 none }
theorem loop9a {l : List Tok} (hn : l.length < 1000000000) : ∀ (r : List Tok) (i : Nat) {H : WHeap}, l.drop i = r → i ≤ l.length → ∀ fr, wkeep [0, 3, 12, 13, 14] fr = K9a l i →
    if r.any (·.auto) = true then ∃ fr', wC Vv (wv Vv) witW (.loop [0, 3, 12, 13, 14] lp9_2) fr H = some (.ret, fr', H) ∧ fr'.env 2 = .nils ∧ fr'.env 3 = .lbox (some 4) (.c (fltC ⟨1, [], 0, 0⟩))
    else wC Vv (wv Vv) witW (.loop [0, 3, 12, 13, 14] lp9_2) fr H = some (.exit 0, X9a l, H) := by
  intro r
  induction r with
  | nil =>
    intro i H hd hi fr hk
    have : i = l.length := by
      have := List.drop_eq_nil_iff.1 hd
      omega
    subst this
    rw [if_neg (by simp)]
    rw [w_loop, witW_eq, hk]
    simp [lp9_2, K9a, X9a]
  | cons t r ih =>
    intro i H hd hi fr hk
    have hlt : i < l.length := by
      by_cases h' : i < l.length
      · exact h'
      · rw [List.drop_eq_nil_iff.2 (by omega)] at hd; cases hd
    have ht : l[i]? = some t := by
      rw [List.drop_eq_getElem_cons hlt] at hd
      injection hd with h1 h2
      rw [List.getElem?_eq_getElem hlt, h1]
    have hd' : l.drop (i + 1) = r := by
      rw [List.drop_eq_getElem_cons hlt] at hd
      injection hd with h1 h2
    have hx : (l.map tokC)[i]? = some (tokC t) := by simp [ht]
    have c1 : (i : Int) < l.length := by omega
    have w1 : IntKind.i64.wrap ((i : Int) + 1) = (i : Int) + 1 := by rw [wrap_id] <;> omega
    cases ha : t.auto with
    | true =>
      rw [if_pos (by simp [ha])]
      rw [w_loop, witW_eq, hk]
      refine ⟨?_, ?_, ?_, ?_⟩
      rotate_left
      · simp [-getElem?_pos, List.getElem?_cons_zero, lp9_2, K9a, tks, hx, hlt, c1, ha]
        rfl
      · simp
      · simp [fltC]
    | false =>
      obtain ⟨fr1, h1, h2⟩ : ∃ fr1, wC Vv (wv Vv) witW lp9_2 (K9a l i) H = some (.nrm, fr1, H) ∧ wkeep [0, 3, 12, 13, 14] fr1 = K9a l (i + 1) := by
        refine ⟨?_, ?_, ?_⟩
        rotate_left
        · simp [-getElem?_pos, List.getElem?_cons_zero, lp9_2, K9a, tks, hx, hlt, c1, ha]
          rfl
        · simp [K9a, tks, w1]
      have eq : wC Vv (wv Vv) witW (.loop [0, 3, 12, 13, 14] lp9_2) fr H = wC Vv (wv Vv) witW (.loop [0, 3, 12, 13, 14] lp9_2) fr1 H := by rw [w_loop, witW_eq, hk, h1]; rfl
      have := ih (i + 1) (H := H) hd' (by omega) fr1 h2
      rw [List.any_cons, ha, Bool.false_or]
      rw [eq]
      exact this
end Go.Proofs.TryL
/- Layout: slices.IndexFunc and slices.ContainsFunc over the stack. -/
set_option linter.unusedSimpArgs false
set_option linter.unusedVariables false
namespace Go.Proofs.TryL
open Go.Proofs.Lz

theorem cl25 (e : El) (H : WHeap) : wv Vv 25 [.c (.agg [.int .i64 e.form.p, .int .i64 e.col, .str e.word, .bool e.mark])] H = some (.c (.bool (isIm e)), H) := by
  rw [wv_eq, wFn, vfn25]
  cases h : e.form <;> simp [ic25, isIm, h, Fm.p]
theorem cl27 (e : El) (H : WHeap) : wv Vv 27 [.c (.agg [.int .i64 e.form.p, .int .i64 e.col, .str e.word, .bool e.mark])] H = some (.c (.bool (isPB e)), H) := by
  rw [wv_eq, wFn, vfn27]
  cases h : e.form <;> simp [ic27, isPB, h, Fm.p]
theorem call25 (e : El) (dst : Option Nat) (fr : WFr) (H : WHeap) : wcallTo Vv (wv Vv) 25 [.c (.agg [.int .i64 e.form.p, .int .i64 e.col, .str e.word, .bool e.mark])] dst fr H = some (fr.put dst (.c (.bool (isIm e))), H) := by
  have := cl25 e []
  simp [this]
theorem call27 (e : El) (dst : Option Nat) (fr : WFr) (H : WHeap) : wcallTo Vv (wv Vv) 27 [.c (.agg [.int .i64 e.form.p, .int .i64 e.col, .str e.word, .bool e.mark])] dst fr H = some (fr.put dst (.c (.bool (isPB e))), H) := by
  have := cl27 e []
  simp [this]
def K24 (sc : CV) (f n i : Nat) : WFr := { env := wassoc [(0, .c sc), (1, .c (.fn f [] [])), (7, .c (.int .i64 n)), (8, .c (.int .i64 i))], al := noAl }
theorem loop24 (f : Nat) (g : El → Bool) (sc : CV) (st : List El) (hs : SC sc st) (hl : st.length < 1000000000)
    (hc : ∀ (e : El) (dst : Option Nat) (fr : WFr) (H : WHeap), wcallTo Vv (wv Vv) f [.c (.agg [.int .i64 e.form.p, .int .i64 e.col, .str e.word, .bool e.mark])] dst fr H = some (fr.put dst (.c (.bool (g e))), H)) (H : WHeap) :
    ∀ (r : List El) (i : Nat), st.drop i = r → i ≤ st.length → ∀ fr, wkeep [0, 1, 7, 8] fr = K24 sc f st.length i →
      ∃ fr', (match r.findIdx? g with
        | some j => wC Vv (wv Vv) witW (.loop [0, 1, 7, 8] lp24_1) fr H = some (.ret, fr', H) ∧ fr'.env 4 = .c (.int .i64 ((i + j : Nat) : Int))
        | none => wC Vv (wv Vv) witW (.loop [0, 1, 7, 8] lp24_1) fr H = some (.exit 0, fr', H)) := by
  intro r
  induction r with
  | nil =>
    intro i hd hi fr hk
    have : i = st.length := by
      have := List.drop_eq_nil_iff.1 hd
      omega
    subst this
    refine ⟨?_, ?_⟩
    rotate_left
    · simp only [List.findIdx?_nil]
      rw [w_loop, witW_eq, hk]
      simp [lp24_1, K24]
      rfl
  | cons e r ih =>
    intro i hd hi fr hkeep
    have hlt : i < st.length := by
      by_cases h' : i < st.length
      · exact h'
      · rw [List.drop_eq_nil_iff.2 (by omega)] at hd; cases hd
    have he : st[i]? = some e := by
      rw [List.drop_eq_getElem_cons hlt] at hd
      injection hd with h1 h2
      rw [List.getElem?_eq_getElem hlt, h1]
    have hd' : st.drop (i + 1) = r := by
      rw [List.drop_eq_getElem_cons hlt] at hd
      injection hd with h1 h2
    have hsc : sc = .frz (some 4) (st.map elC) := by
      rcases hs with ⟨_, h⟩ | h
      · rw [h] at hlt; cases hlt
      · exact h
    have hx : (st.map elC)[i]? = some (elC e) := by simp [he]
    have c1 : (i : Int) < st.length := by omega
    have w1 : IntKind.i64.wrap ((i : Int) + 1) = (i : Int) + 1 := wrap_id (by omega) (by omega)
    cases hg : g e with
    | true =>
      rw [List.findIdx?_cons, hg]
      refine ⟨?_, ?_⟩
      rotate_left
      · simp only [if_true]
        rw [w_loop, witW_eq, hkeep]
        constructor
        · simp [-wcallTo, -getElem?_pos, List.getElem?_cons_zero, lp24_1, K24, hsc, hlt, hx, c1, hc, hg]
          rfl
        · rfl
    | false =>
      obtain ⟨fr1, h1, h2⟩ : ∃ fr1, wC Vv (wv Vv) witW lp24_1 (K24 sc f st.length i) H = some (.nrm, fr1, H) ∧ wkeep [0, 1, 7, 8] fr1 = K24 sc f st.length (i + 1) := by
        refine ⟨?_, ?_, ?_⟩
        rotate_left
        · simp [-wcallTo, -getElem?_pos, List.getElem?_cons_zero, lp24_1, K24, hsc, hlt, hx, c1, hc, hg]
          rfl
        · simp [K24, hsc, w1]
      obtain ⟨fr', h3⟩ := ih (i + 1) hd' (by omega) fr1 h2
      refine ⟨fr', ?_⟩
      have e' : wC Vv (wv Vv) witW (.loop [0, 1, 7, 8] lp24_1) fr H = wC Vv (wv Vv) witW (.loop [0, 1, 7, 8] lp24_1) fr1 H := by
        rw [w_loop, witW_eq, hkeep, h1]; rfl
      rw [e', List.findIdx?_cons, hg]
      simp only [Bool.false_eq_true, if_false]
      cases hf : r.findIdx? g with
      | none =>
        rw [hf] at h3
        exact h3
      | some j =>
        rw [hf] at h3
        simp only [Option.map_some]
        rw [show i + (j + 1) = i + 1 + j by omega]
        exact h3
theorem index24 (f : Nat) (g : El → Bool) (sc : CV) (st : List El) (hs : SC sc st) (hl : st.length < 1000000000)
    (hc : ∀ (e : El) (dst : Option Nat) (fr : WFr) (H : WHeap), wcallTo Vv (wv Vv) f [.c (.agg [.int .i64 e.form.p, .int .i64 e.col, .str e.word, .bool e.mark])] dst fr H = some (fr.put dst (.c (.bool (g e))), H)) (H : WHeap) :
    wv Vv 24 [.c sc, .c (.fn f [] [])] H = some (.c (.int .i64 (toI (st.findIdx? g))), H) := by
  obtain ⟨ek, xs, h1, h2⟩ := hs.len
  rw [wv_eq, wFn, vfn24]
  simp [ic24, h1, h2]
  generalize hX : ({ env := _, al := _ } : WFr) = X
  obtain ⟨fr', h3⟩ := loop24 f g sc st hs hl hc H st 0 rfl (Nat.zero_le _) X (by subst hX; simp [K24, h1])
  cases hg : st.findIdx? g with
  | none =>
    rw [hg] at h3
    simp only at h3
    rw [h3]
    simp [toI]
  | some j =>
    rw [hg] at h3
    simp only at h3
    rw [h3.1]
    simp [toI, h3.2]
theorem any_find {g : El → Bool} (l : List El) : (0 ≤ toI (l.findIdx? g)) = (l.any g = true) := by
  cases h : l.findIdx? g with
  | none => simp only [toI, eq_iff_iff]; simp [List.findIdx?_eq_none_iff] at h ⊢; exact h
  | some j =>
    simp only [toI, eq_iff_iff]
    simp only [List.findIdx?_eq_some_iff_getElem] at h
    obtain ⟨hl, h1, _⟩ := h
    simp
    exact ⟨_, List.getElem_mem hl, h1⟩
theorem contains26 (f : Nat) (g : El → Bool) (sc : CV) (st : List El) (hs : SC sc st) (hl : st.length < 1000000000)
    (hc : ∀ (e : El) (dst : Option Nat) (fr : WFr) (H : WHeap), wcallTo Vv (wv Vv) f [.c (.agg [.int .i64 e.form.p, .int .i64 e.col, .str e.word, .bool e.mark])] dst fr H = some (fr.put dst (.c (.bool (g e))), H)) (H : WHeap) :
    wv Vv 26 [.c sc, .c (.fn f [] [])] H = some (.c (.bool (st.any g)), H) := by
  obtain ⟨ek, xs, h1, h2⟩ := hs.len
  have h3 := index24 f g sc st hs hl hc []
  have h4 := any_find (g := g) st
  rw [h1] at h3 ⊢
  rw [wv_eq, wFn, vfn26]
  cases ha : st.any g with
  | true =>
    have : 0 ≤ toI (st.findIdx? g) := by rw [h4]; exact ha
    simp [ic26, h3, this]
  | false =>
    have : ¬ 0 ≤ toI (st.findIdx? g) := by rw [h4, ha]; decide
    simp [ic26, h3, this]
end Go.Proofs.TryL
